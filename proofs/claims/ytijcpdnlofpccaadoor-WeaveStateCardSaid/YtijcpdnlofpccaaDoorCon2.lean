/- Part of the proof of: For every state and all points a state told back has its threads where the document says, and all else as it was: the law answers true for every input. -/
import Derived.Test.YtijcpdnlofpccaaDoorCon1
section
set_option linter.unusedSectionVars false
set_option linter.unusedVariables false
set_option linter.unusedSimpArgs false
set_option maxRecDepth 100000
set_option linter.unusedVariables false
open Go Go.Ev
namespace Go.Ev
/-! ### paling/palingref1.Right -/
def sg_ref1_Right : Sig := [(false, .str)]
noncomputable def t_ref1_Right : Tbl := [(61, e_ref1_Spots), (62, e_ref1_Word), (63, e_ref1_Letter), (64, e_ref1_Digit)]
theorem tk_ref1_Right : ∀ p ∈ t_ref1_Right, EntOK Go.Proofs.Tryd.prog p.1 p.2 := tbl_cons ok_ref1_Spots (tbl_cons ok_ref1_Word (tbl_cons ok_ref1_Letter (tbl_cons ok_ref1_Digit (tbl_nil))))
noncomputable def c_ref1_Right : Code := Go.Proofs.Tryd.f52.body.getD .skip
def tb_ref1_Right : Tb := [(7, ⟨[3, 4], []⟩)]
inductive J_ref1_Right where
  | l7 (i : Int)
def T_ref1_Right (s : ByteArray) : J_ref1_Right → JT J_ref1_Right (Bool)
  | .l7 i =>
    .br (decide (i < (Int.ofNat (List.length (v_ref1_Spots s)))))
      (.br ((decide ((0 : Int) ≤ i)) && (decide (i < (Int.ofNat (List.length (v_ref1_Spots s))))))
        (.br (List.getD (v_ref1_Spots s) (Int.toNat i) (dflt T_ref1_Spot)).2.2.2.2.2
          (.leaf false)
        (.br ((decide ((0 : Int) ≤ i)) && (decide (i < (Int.ofNat (List.length (v_ref1_Spots s))))))
          (.br (! (v_ref1_Letter (List.getD (v_ref1_Spots s) (Int.toNat i) (dflt T_ref1_Spot)).1))
            (.br (i == (0 : Int))
              (.leaf false)
            (.br ((decide ((0 : Int) ≤ i)) && (decide (i < (Int.ofNat (List.length (v_ref1_Spots s))))))
              (.br (! (v_ref1_Digit (List.getD (v_ref1_Spots s) (Int.toNat i) (dflt T_ref1_Spot)).1))
                (.leaf false)
              (.jmp (.l7 (IntKind.i64.wrap (i + (1 : Int))))))
            (.no)))
          (.jmp (.l7 (IntKind.i64.wrap (i + (1 : Int))))))
        (.no)))
      (.no))
    (.leaf true)
def T0_ref1_Right (s : ByteArray) : JT J_ref1_Right (Bool) :=
  .br (k_ref1_Spots s)
    (.br (decide ((Int.ofNat (List.length (v_ref1_Spots s))) < (1 : Int)))
      (.leaf false)
    (.br (decide ((Int.ofNat (List.length (v_ref1_Spots s))) > (16 : Int)))
      (.leaf false)
    (.br (v_ref1_Word s)
      (.leaf false)
    (.jmp (.l7 (0 : Int))))))
  (.no)
def R_ref1_Right : Bool → AV := fun (r : Bool) => .d .bool r
def S_ref1_Right (s : ByteArray) : J_ref1_Right → Nat × St
  | .l7 i => (7, ⟨mkTm 52 [(3, .own 4 0 none), (4, .d (.int .i64) i)], [(4, 0, .row 102 T_ref1_Spot (v_ref1_Spots s) false)]⟩)
theorem en_ref1_Right (s : ByteArray) (L : Lt) : entryA Go.Proofs.Tryd.prog (clOf t_ref1_Right) tb_ref1_Right Go.Proofs.Tryd.f52 c_ref1_Right L (toForms sg_ref1_Right (s, ())) = (T0_ref1_Right s).run (fun v => some (R_ref1_Right v, tps (toForms sg_ref1_Right (s, ())))) fun j => L (S_ref1_Right s j).1 (S_ref1_Right s j).2 := by kernel_rfl
theorem lp_ref1_Right (s : ByteArray) : ∀ (L : Lt) (j : J_ref1_Right), procOf (procsF Go.Proofs.Tryd.prog (clOf t_ref1_Right) tb_ref1_Right Go.Proofs.Tryd.f52 c_ref1_Right (toForms sg_ref1_Right (s, ()))) (S_ref1_Right s j).1 L (S_ref1_Right s j).2 = (T_ref1_Right s j).run (fun v => some (R_ref1_Right v, tps (toForms sg_ref1_Right (s, ())))) fun j => L (S_ref1_Right s j).1 (S_ref1_Right s j).2
  | L, .l7 i => by kernel_rfl
end Go.Ev
end

section
set_option linter.unusedSectionVars false
set_option linter.unusedVariables false
set_option linter.unusedSimpArgs false
set_option linter.unusedVariables false
set_option linter.unusedSimpArgs false
open Go
namespace Go.Ev

def v_ref1_Right (s : ByteArray) : Bool := nameRight s
def k_ref1_Right (s : ByteArray) : Bool := smallText s
theorem g_ref1_Right (s : ByteArray) (hk : k_ref1_Right s = true) : Goes (T_ref1_Right s) (T0_ref1_Right s) (v_ref1_Right s) := by
  have hs : s.size < 549755813888 := of_decide_eq_true hk
  have hl : (v_ref1_Spots s).length ≤ s.size := spots_length s
  have loop : ∀ k, k ≤ (v_ref1_Spots s).length → Goes (T_ref1_Right s) (.jmp (.l7 (k : Int))) (spotsOK k ((v_ref1_Spots s).drop k)) := by
    refine down ?_ fun k hk ih => ?_
    · rw [goes_jmp]
      simp [T_ref1_Right, goes_br, goes_leaf, spotsOK]
    · rw [goes_jmp]
      dsimp only [T_ref1_Right]
      simp only [goes_br, goes_leaf, lt_len hk, nng, Bool.and_self, if_true, Int.toNat_natCast, getD_lt hk, wrap_succ (k := k) (by omega)]
      rw [drop_cons hk, spotsOK]
      generalize (v_ref1_Spots s)[k] = x at *
      unfold spotOK
      rw [show v_ref1_Letter = v_glyph_Letter from rfl, show v_ref1_Digit = v_glyph_Digit from rfl]
      cases x.2.2.2.2.2
      · cases v_glyph_Letter x.1
        · by_cases h0 : k = 0
          · subst h0; simp
          · have e1 : ((k : Int) == 0) = false := by rw [Bool.eq_false_iff]; simp; omega
            have e2 : (k == 0) = false := by rw [Bool.eq_false_iff]; simpa using h0
            cases v_glyph_Digit x.1
            · simp [e1, e2]
            · simpa [e1, e2] using ih
        · simpa using ih
      · simp
  have hv : v_ref1_Right s = (spotsOK 0 (v_ref1_Spots s) && (decide (1 ≤ (v_ref1_Spots s).length) && (decide ((v_ref1_Spots s).length ≤ 16) && !v_names_Word s))) := rfl
  rw [hv]
  unfold T0_ref1_Right
  simp only [goes_br, show k_ref1_Spots s = true from hk, if_true, v_ref1_Word, goes_leaf]
  by_cases h1 : 1 ≤ (v_ref1_Spots s).length
  · by_cases h2 : (v_ref1_Spots s).length ≤ 16
    · cases v_names_Word s
      · rw [if_neg (by simp <;> omega), if_neg (by simp <;> omega)]
        simpa [h1, h2] using loop 0 (Nat.zero_le _)
      · rw [if_neg (by simp <;> omega), if_neg (by simp <;> omega)]
        simp
    · rw [if_neg (by simp <;> omega), if_pos (by simp <;> omega)]
      simp [h2]
  · rw [if_pos (by simp <;> omega)]
    simp [h1]

end Go.Ev
end

section
set_option linter.unusedSectionVars false
set_option linter.unusedVariables false
set_option linter.unusedSimpArgs false
set_option maxRecDepth 100000
set_option linter.unusedVariables false
open Go Go.Ev
namespace Go.Ev
noncomputable def e_ref1_Right : Run := entG sg_ref1_Right R_ref1_Right (fun a => k_ref1_Right a.1) (fun a => v_ref1_Right a.1)
theorem ok_ref1_Right : EntOK Go.Proofs.Tryd.prog 52 e_ref1_Right := entG_ok (tb := tb_ref1_Right) (c := c_ref1_Right) tk_ref1_Right (by kernel_rfl) (by kernel_rfl) (by kernel_rfl) (fun a => by kernel_rfl) fun ⟨s, _⟩ hk => evF_goes (c := c_ref1_Right) (K := fun v => (R_ref1_Right v, tps (toForms sg_ref1_Right (s, ())))) (S := S_ref1_Right s) (by kernel_rfl) (en_ref1_Right s) (lp_ref1_Right s) (g_ref1_Right s hk)
end Go.Ev
end

section
set_option linter.unusedSectionVars false
set_option linter.unusedVariables false
set_option linter.unusedSimpArgs false
set_option maxRecDepth 100000
set_option linter.unusedVariables false
open Go Go.Ev
namespace Go.Ev
/-! ### paling/palingref1.Count -/
def sg_ref1_Count : Sig := [(true, (.sl T_api_Ins))]
noncomputable def t_ref1_Count : Tbl := []
theorem tk_ref1_Count : ∀ p ∈ t_ref1_Count, EntOK Go.Proofs.Tryd.prog p.1 p.2 := tbl_nil
noncomputable def c_ref1_Count : Code := Go.Proofs.Tryd.f65.body.getD .skip
def tb_ref1_Count : Tb := [(4, ⟨[1, 3, 4], []⟩)]
inductive J_ref1_Count where
  | l4 (n : Int) (i : Int)
def T_ref1_Count (t : List (El T_api_Ins)) : J_ref1_Count → JT J_ref1_Count (Int)
  | .l4 n i =>
    .br (decide (i < (Int.ofNat (List.length t))))
      (.br ((decide ((0 : Int) ≤ i)) && (decide (i < (Int.ofNat (List.length t)))))
        (.br ((List.getD t (Int.toNat i) (dflt T_api_Ins)).1 != (12 : Int))
          (.jmp (.l4 (IntKind.i64.wrap (n + (1 : Int))) (IntKind.i64.wrap (i + (1 : Int)))))
        (.jmp (.l4 n (IntKind.i64.wrap (i + (1 : Int))))))
      (.no))
    (.leaf n)
def T0_ref1_Count (t : List (El T_api_Ins)) : JT J_ref1_Count (Int) :=
  .jmp (.l4 (0 : Int) (0 : Int))
def R_ref1_Count : Int → AV := fun (r : Int) => .d (.int .i64) r
def S_ref1_Count (t : List (El T_api_Ins)) : J_ref1_Count → Nat × St
  | .l4 n i => (4, ⟨mkTm 22 [(1, .pt 2 0 0), (3, .d (.int .i64) n), (4, .d (.int .i64) i)], [(2, 0, .box 58 [.d (.sl T_api_Ins) t] none)]⟩)
theorem en_ref1_Count (t : List (El T_api_Ins)) (L : Lt) : entryA Go.Proofs.Tryd.prog (clOf t_ref1_Count) tb_ref1_Count Go.Proofs.Tryd.f65 c_ref1_Count L (toForms sg_ref1_Count (t, ())) = (T0_ref1_Count t).run (fun v => some (R_ref1_Count v, tps (toForms sg_ref1_Count (t, ())))) fun j => L (S_ref1_Count t j).1 (S_ref1_Count t j).2 := by kernel_rfl
theorem lp_ref1_Count (t : List (El T_api_Ins)) : ∀ (L : Lt) (j : J_ref1_Count), procOf (procsF Go.Proofs.Tryd.prog (clOf t_ref1_Count) tb_ref1_Count Go.Proofs.Tryd.f65 c_ref1_Count (toForms sg_ref1_Count (t, ()))) (S_ref1_Count t j).1 L (S_ref1_Count t j).2 = (T_ref1_Count t j).run (fun v => some (R_ref1_Count v, tps (toForms sg_ref1_Count (t, ())))) fun j => L (S_ref1_Count t j).1 (S_ref1_Count t j).2
  | L, .l4 n i => by kernel_rfl
end Go.Ev
end

section
set_option linter.unusedSectionVars false
set_option linter.unusedVariables false
set_option linter.unusedSimpArgs false
set_option linter.unusedVariables false
set_option linter.unusedSimpArgs false
open Go
namespace Go.Ev
def v_ref1_Count (t : List (El T_api_Ins)) : Int := (countM t : Int)
def k_ref1_Count (t : List (El T_api_Ins)) : Bool := decide (t.length < 1099511627776)
theorem g_ref1_Count (t : List (El T_api_Ins)) (hk : k_ref1_Count t = true) : Goes (T_ref1_Count t) (T0_ref1_Count t) (v_ref1_Count t) := by
  have hn : t.length < 1099511627776 := of_decide_eq_true hk
  have loop : ∀ k, k ≤ t.length → ∀ n : Nat, n ≤ k → Goes (T_ref1_Count t) (.jmp (.l4 (n : Int) (k : Int))) ((n + countM (t.drop k) : Nat) : Int) := by
    refine down ?_ fun k hk ih => ?_
    · intro n hnk
      rw [goes_jmp]
      simp only [T_ref1_Count, goes_br, lt_len_not (Nat.lt_irrefl _), goes_leaf, List.drop_length]
      simp [countM]
    · intro n hnk
      rw [goes_jmp]
      simp only [T_ref1_Count, goes_br, lt_len hk, nng, Bool.and_self, if_true, Int.toNat_natCast, getD_lt hk, wrap_succ (k := k) (by omega), wrap_succ (k := n) (by omega)]
      rw [drop_cons hk]
      unfold countM
      rw [List.filter_cons]
      split
      · rename_i h
        have := ih (n + 1) (by omega)
        unfold countM at this
        rw [List.length_cons, show n + ((List.filter (fun i => i.1 != (12 : Int)) (List.drop (k + 1) t)).length + 1) = n + 1 + (List.filter (fun i => i.1 != (12 : Int)) (List.drop (k + 1) t)).length by omega]
        exact this
      · exact ih n (by omega)
  have := loop 0 (Nat.zero_le _) 0 (Nat.le_refl _)
  unfold T0_ref1_Count v_ref1_Count
  simpa using this
end Go.Ev
end

section
set_option linter.unusedSectionVars false
set_option linter.unusedVariables false
set_option linter.unusedSimpArgs false
set_option maxRecDepth 100000
set_option linter.unusedVariables false
open Go Go.Ev
namespace Go.Ev
noncomputable def e_ref1_Count : Run := entG sg_ref1_Count R_ref1_Count (fun a => k_ref1_Count a.1) (fun a => v_ref1_Count a.1)
theorem ok_ref1_Count : EntOK Go.Proofs.Tryd.prog 65 e_ref1_Count := entG_ok (tb := tb_ref1_Count) (c := c_ref1_Count) tk_ref1_Count (by kernel_rfl) (by kernel_rfl) (by kernel_rfl) (fun a => by kernel_rfl) fun ⟨t, _⟩ hk => evF_goes (c := c_ref1_Count) (K := fun v => (R_ref1_Count v, tps (toForms sg_ref1_Count (t, ())))) (S := S_ref1_Count t) (by kernel_rfl) (en_ref1_Count t) (lp_ref1_Count t) (g_ref1_Count t hk)
end Go.Ev
end

section
set_option linter.unusedSectionVars false
set_option linter.unusedVariables false
set_option linter.unusedSimpArgs false
set_option maxRecDepth 100000
set_option linter.unusedVariables false
open Go Go.Ev
namespace Go.Ev
/-! ### paling/palingref1.InsRight -/
def sg_ref1_InsRight : Sig := [(true, T_api_Ins)]
noncomputable def t_ref1_InsRight : Tbl := [(83, e_ref1_row), (69, e_ref1_Jumps), (52, e_ref1_Right)]
theorem tk_ref1_InsRight : ∀ p ∈ t_ref1_InsRight, EntOK Go.Proofs.Tryd.prog p.1 p.2 := tbl_cons ok_ref1_row (tbl_cons ok_ref1_Jumps (tbl_cons ok_ref1_Right (tbl_nil)))
noncomputable def c_ref1_InsRight : Code := Go.Proofs.Tryd.f67.body.getD .skip
def tb_ref1_InsRight : Tb := [(2, ⟨[1, 26, 34, 37, 44, 47], []⟩), (5, ⟨[1, 49], []⟩)]
inductive J_ref1_InsRight where
  | l2 (h : Bool)
  | l5 (h : Bool)
def T_ref1_InsRight (i : El T_api_Ins) : J_ref1_InsRight → JT J_ref1_InsRight (Int)
  | .l2 h =>
    .br h
      (.leaf (4 : Int))
    (.br (i.1 == (11 : Int))
      (.br (decide (i.2.2.1 < (1 : Int)))
        (.jmp (.l5 true))
      (.br (decide (i.2.2.1 > (10 : Int)))
        (.jmp (.l5 true))
      (.br (i.1 != (11 : Int))
        (.jmp (.l5 (i.2.2.1 != (0 : Int))))
      (.jmp (.l5 false)))))
    (.br (i.1 != (11 : Int))
      (.jmp (.l5 (i.2.2.1 != (0 : Int))))
    (.jmp (.l5 false))))
  | .l5 h =>
    .br h
      (.leaf (4 : Int))
    (.br (v_ref1_Jumps i.1)
      (.br (k_ref1_Right i.2.2.2.2.2.1)
        (.br (! (v_ref1_Right i.2.2.2.2.2.1))
          (.leaf (3 : Int))
        (.leaf (0 : Int)))
      (.no))
    (.leaf (0 : Int)))
def T0_ref1_InsRight (i : El T_api_Ins) : JT J_ref1_InsRight (Int) :=
  .br (decide (i.1 < (1 : Int)))
    (.jmp (.l2 true))
  (.br (decide (i.1 > (14 : Int)))
    (.jmp (.l2 true))
  (.br (! (v_ref1_row i))
    (.jmp (.l2 true))
  (.br (! (v_ref1_Jumps i.1))
    (.jmp (.l2 (! (eqB i.2.2.2.2.2.1 (bs [])))))
  (.jmp (.l2 false)))))
def v_ref1_InsRight_l5 (i : El T_api_Ins) (h : Bool) : Int :=
  bif h then
    (4 : Int)
  else bif (v_ref1_Jumps i.1) then
    bif (k_ref1_Right i.2.2.2.2.2.1) then
      bif (! (v_ref1_Right i.2.2.2.2.2.1)) then
        (3 : Int)
      else (0 : Int)
    else (0 : Int)
  else (0 : Int)
def k_ref1_InsRight_l5 (i : El T_api_Ins) (h : Bool) : Bool :=
  bif h then
    true
  else bif (v_ref1_Jumps i.1) then
    bif (k_ref1_Right i.2.2.2.2.2.1) then
      bif (! (v_ref1_Right i.2.2.2.2.2.1)) then
        true
      else true
    else false
  else true
theorem g_ref1_InsRight_l5 (i : El T_api_Ins) (h : Bool) (hk : k_ref1_InsRight_l5 i h = true) : Goes (T_ref1_InsRight i) (.jmp (.l5 h)) (v_ref1_InsRight_l5 i h) :=
  Goes.jmp (Goes.brk hk (fun hk =>
    Goes.leaf) (fun hk =>
    Goes.brk hk (fun hk =>
      Goes.brk hk (fun hk =>
        Goes.brk hk (fun hk =>
          Goes.leaf) (fun hk =>
          Goes.leaf)) (fun hk =>
        Goes.nok hk)) (fun hk =>
      Goes.leaf)))
def v_ref1_InsRight_l2 (i : El T_api_Ins) (h : Bool) : Int :=
  bif h then
    (4 : Int)
  else bif (i.1 == (11 : Int)) then
    bif (decide (i.2.2.1 < (1 : Int))) then
      v_ref1_InsRight_l5 i true
    else bif (decide (i.2.2.1 > (10 : Int))) then
      v_ref1_InsRight_l5 i true
    else bif (i.1 != (11 : Int)) then
      v_ref1_InsRight_l5 i (i.2.2.1 != (0 : Int))
    else v_ref1_InsRight_l5 i false
  else bif (i.1 != (11 : Int)) then
    v_ref1_InsRight_l5 i (i.2.2.1 != (0 : Int))
  else v_ref1_InsRight_l5 i false
def k_ref1_InsRight_l2 (i : El T_api_Ins) (h : Bool) : Bool :=
  bif h then
    true
  else bif (i.1 == (11 : Int)) then
    bif (decide (i.2.2.1 < (1 : Int))) then
      k_ref1_InsRight_l5 i true
    else bif (decide (i.2.2.1 > (10 : Int))) then
      k_ref1_InsRight_l5 i true
    else bif (i.1 != (11 : Int)) then
      k_ref1_InsRight_l5 i (i.2.2.1 != (0 : Int))
    else k_ref1_InsRight_l5 i false
  else bif (i.1 != (11 : Int)) then
    k_ref1_InsRight_l5 i (i.2.2.1 != (0 : Int))
  else k_ref1_InsRight_l5 i false
theorem g_ref1_InsRight_l2 (i : El T_api_Ins) (h : Bool) (hk : k_ref1_InsRight_l2 i h = true) : Goes (T_ref1_InsRight i) (.jmp (.l2 h)) (v_ref1_InsRight_l2 i h) :=
  Goes.jmp (Goes.brk hk (fun hk =>
    Goes.leaf) (fun hk =>
    Goes.brk hk (fun hk =>
      Goes.brk hk (fun hk =>
        g_ref1_InsRight_l5 i true hk) (fun hk =>
        Goes.brk hk (fun hk =>
          g_ref1_InsRight_l5 i true hk) (fun hk =>
          Goes.brk hk (fun hk =>
            g_ref1_InsRight_l5 i (i.2.2.1 != (0 : Int)) hk) (fun hk =>
            g_ref1_InsRight_l5 i false hk)))) (fun hk =>
      Goes.brk hk (fun hk =>
        g_ref1_InsRight_l5 i (i.2.2.1 != (0 : Int)) hk) (fun hk =>
        g_ref1_InsRight_l5 i false hk))))
def u_ref1_InsRight (i : El T_api_Ins) : Int :=
  bif (decide (i.1 < (1 : Int))) then
    v_ref1_InsRight_l2 i true
  else bif (decide (i.1 > (14 : Int))) then
    v_ref1_InsRight_l2 i true
  else bif (! (v_ref1_row i)) then
    v_ref1_InsRight_l2 i true
  else bif (! (v_ref1_Jumps i.1)) then
    v_ref1_InsRight_l2 i (! (eqB i.2.2.2.2.2.1 (bs [])))
  else v_ref1_InsRight_l2 i false
def ku_ref1_InsRight (i : El T_api_Ins) : Bool :=
  bif (decide (i.1 < (1 : Int))) then
    k_ref1_InsRight_l2 i true
  else bif (decide (i.1 > (14 : Int))) then
    k_ref1_InsRight_l2 i true
  else bif (! (v_ref1_row i)) then
    k_ref1_InsRight_l2 i true
  else bif (! (v_ref1_Jumps i.1)) then
    k_ref1_InsRight_l2 i (! (eqB i.2.2.2.2.2.1 (bs [])))
  else k_ref1_InsRight_l2 i false
theorem gu_ref1_InsRight (i : El T_api_Ins) (hk : ku_ref1_InsRight i = true) : Goes (T_ref1_InsRight i) (T0_ref1_InsRight i) (u_ref1_InsRight i) :=
  Goes.brk hk (fun hk =>
    g_ref1_InsRight_l2 i true hk) (fun hk =>
    Goes.brk hk (fun hk =>
      g_ref1_InsRight_l2 i true hk) (fun hk =>
      Goes.brk hk (fun hk =>
        g_ref1_InsRight_l2 i true hk) (fun hk =>
        Goes.brk hk (fun hk =>
          g_ref1_InsRight_l2 i (! (eqB i.2.2.2.2.2.1 (bs []))) hk) (fun hk =>
          g_ref1_InsRight_l2 i false hk))))
def R_ref1_InsRight : Int → AV := fun (r : Int) => .d (.int .i64) r
def S_ref1_InsRight (i : El T_api_Ins) : J_ref1_InsRight → Nat × St
  | .l2 h => (2, ⟨mkTm 59 [(1, .pt 2 0 0), (26, .d .bool h)], [(2, 0, .box 63 [.d (.int .i64) i.1, .d .bool i.2.1, .d (.int .i64) i.2.2.1, .d (.int .i64) i.2.2.2.1.1, .d (.int .i64) i.2.2.2.1.2.1, .d (.int .i64) i.2.2.2.1.2.2.1, .d (.int .i64) i.2.2.2.1.2.2.2, .d (.int .i64) i.2.2.2.2.1.1, .d (.int .i64) i.2.2.2.2.1.2.1, .d (.int .i64) i.2.2.2.2.1.2.2.1, .d (.int .i64) i.2.2.2.2.1.2.2.2, .d .str i.2.2.2.2.2.1, .d (.sl .str) i.2.2.2.2.2.2] none)]⟩)
  | .l5 h => (5, ⟨mkTm 59 [(1, .pt 2 0 0), (49, .d .bool h)], [(2, 0, .box 63 [.d (.int .i64) i.1, .d .bool i.2.1, .d (.int .i64) i.2.2.1, .d (.int .i64) i.2.2.2.1.1, .d (.int .i64) i.2.2.2.1.2.1, .d (.int .i64) i.2.2.2.1.2.2.1, .d (.int .i64) i.2.2.2.1.2.2.2, .d (.int .i64) i.2.2.2.2.1.1, .d (.int .i64) i.2.2.2.2.1.2.1, .d (.int .i64) i.2.2.2.2.1.2.2.1, .d (.int .i64) i.2.2.2.2.1.2.2.2, .d .str i.2.2.2.2.2.1, .d (.sl .str) i.2.2.2.2.2.2] none)]⟩)
theorem en_ref1_InsRight (i : El T_api_Ins) (L : Lt) : entryA Go.Proofs.Tryd.prog (clOf t_ref1_InsRight) tb_ref1_InsRight Go.Proofs.Tryd.f67 c_ref1_InsRight L (toForms sg_ref1_InsRight (i, ())) = (T0_ref1_InsRight i).run (fun v => some (R_ref1_InsRight v, tps (toForms sg_ref1_InsRight (i, ())))) fun j => L (S_ref1_InsRight i j).1 (S_ref1_InsRight i j).2 := by kernel_rfl
theorem lp_ref1_InsRight (i : El T_api_Ins) : ∀ (L : Lt) (j : J_ref1_InsRight), procOf (procsF Go.Proofs.Tryd.prog (clOf t_ref1_InsRight) tb_ref1_InsRight Go.Proofs.Tryd.f67 c_ref1_InsRight (toForms sg_ref1_InsRight (i, ()))) (S_ref1_InsRight i j).1 L (S_ref1_InsRight i j).2 = (T_ref1_InsRight i j).run (fun v => some (R_ref1_InsRight v, tps (toForms sg_ref1_InsRight (i, ())))) fun j => L (S_ref1_InsRight i j).1 (S_ref1_InsRight i j).2
  | L, .l2 h => by kernel_rfl
  | L, .l5 h => by kernel_rfl
end Go.Ev
end

section
set_option linter.unusedSectionVars false
set_option linter.unusedVariables false
set_option linter.unusedSimpArgs false
set_option linter.unusedVariables false
set_option linter.unusedSimpArgs false
open Go
namespace Go.Ev
def refRB_l5 (op cond : Int) (row nm te : Bool) (h : Bool) : Int :=
  bif h then
    (4 : Int)
  else bif (bif (op == (10 : Int)) then true else (op == (11 : Int))) then
    bif true then
      bif (! nm) then
        (3 : Int)
      else (0 : Int)
    else (0 : Int)
  else (0 : Int)
def refRB_l2 (op cond : Int) (row nm te : Bool) (h : Bool) : Int :=
  bif h then
    (4 : Int)
  else bif (op == (11 : Int)) then
    bif (decide (cond < (1 : Int))) then
      refRB_l5 op cond row nm te true
    else bif (decide (cond > (10 : Int))) then
      refRB_l5 op cond row nm te true
    else bif (op != (11 : Int)) then
      refRB_l5 op cond row nm te (cond != (0 : Int))
    else refRB_l5 op cond row nm te false
  else bif (op != (11 : Int)) then
    refRB_l5 op cond row nm te (cond != (0 : Int))
  else refRB_l5 op cond row nm te false
def refRB (op cond : Int) (row nm te : Bool) : Int :=
  bif (decide (op < (1 : Int))) then
    refRB_l2 op cond row nm te true
  else bif (decide (op > (14 : Int))) then
    refRB_l2 op cond row nm te true
  else bif (! row) then
    refRB_l2 op cond row nm te true
  else bif (! (bif (op == (10 : Int)) then true else (op == (11 : Int)))) then
    refRB_l2 op cond row nm te (! te)
  else refRB_l2 op cond row nm te false
def insRB (op cond : Int) (row nm te : Bool) : Int :=
  bif (op == (10 : Int)) then
    bif (! (decide (1 ≤ op) && (decide (op ≤ 14) && (row && condOK op cond)))) then
      (4 : Int)
    else bif true then
      bif (! nm) then
        (3 : Int)
      else (0 : Int)
    else (0 : Int)
  else bif (! (decide (1 ≤ op) && (decide (op ≤ 14) && (row && condOK op cond)))) then
    (4 : Int)
  else bif (! (op == (11 : Int))) then
    bif (! te) then
      (4 : Int)
    else bif (op == (11 : Int)) then
      bif true then
        bif (! nm) then
          (3 : Int)
        else (0 : Int)
      else (0 : Int)
    else (0 : Int)
  else bif (op == (11 : Int)) then
    bif true then
      bif (! nm) then
        (3 : Int)
      else (0 : Int)
    else (0 : Int)
  else (0 : Int)

theorem rightB (op cond : Int) (row nm te : Bool) : refRB op cond row nm te = insRB op cond row nm te := by
  unfold refRB refRB_l2 refRB_l5 insRB condOK
  have beqs : ∀ (k c : Int), (k == c) = decide (k = c) := fun k c => by rw [Bool.eq_iff_iff]; simp
  have bnes : ∀ (k c : Int), (k != c) = !decide (k = c) := fun k c => by rw [Bool.eq_iff_iff]; simp
  simp only [beqs, bnes]
  by_cases h1 : op < 1
  · have e1 : decide (op = 10) = false := by simp; omega
    have e2 : decide (op = 11) = false := by simp; omega
    have e3 : decide (1 ≤ op) = false := by simp; omega
    simp [h1, e1, e2, e3]
  by_cases h2 : op > 14
  · have e1 : decide (op = 10) = false := by simp; omega
    have e2 : decide (op = 11) = false := by simp; omega
    have e3 : decide (op ≤ 14) = false := by simp; omega
    simp [h1, h2, e1, e2, e3]
  have e3 : decide (1 ≤ op) = true := by simp; omega
  have e4 : decide (op ≤ 14) = true := by simp; omega
  by_cases h10 : op = 10
  · subst h10
    by_cases hc : cond = 0 <;> cases row <;> cases nm <;> simp [hc]
  by_cases h11 : op = 11
  · subst h11
    have f1 : decide (1 ≤ cond) = !decide (cond < 1) := by by_cases h : cond < 1 <;> simp [h] <;> omega
    have f2 : decide (cond ≤ 10) = !decide (cond > 10) := by by_cases h : cond > 10 <;> simp [h] <;> omega
    rw [f1, f2]
    by_cases hc : cond < 1 <;> by_cases hd : cond > 10 <;> cases row <;> cases nm <;> simp [hc, hd]
  by_cases hc : cond = 0 <;> cases row <;> cases te <;> simp [h1, h2, h10, h11, e3, e4, hc]
def v_ref1_InsRight (i : El T_api_Ins) : Int := v_ins_Right i
def k_ref1_InsRight (i : El T_api_Ins) : Bool := smallText i.2.2.2.2.2.1
theorem g_ref1_InsRight (i : El T_api_Ins) (hk : k_ref1_InsRight i = true) : Goes (T_ref1_InsRight i) (T0_ref1_InsRight i) (v_ref1_InsRight i) := by
  have h1 : k_ref1_Right i.2.2.2.2.2.1 = true := hk
  have h2 : k_names_Right i.2.2.2.2.2.1 = true := hk
  have hku : ku_ref1_InsRight i = true := by
    unfold ku_ref1_InsRight k_ref1_InsRight_l2 k_ref1_InsRight_l5
    simp only [h1, cond_true, Bool.cond_self]
  have hr : u_ref1_InsRight i = refRB i.1 i.2.2.1 (v_ref1_row i) (nameRight i.2.2.2.2.2.1) (eqB i.2.2.2.2.2.1 (bs [])) := by
    unfold u_ref1_InsRight v_ref1_InsRight_l2 v_ref1_InsRight_l5
    simp only [h1]
    rfl
  have hp : u_ins_Right i = insRB i.1 i.2.2.1 (v_ref1_row i) (nameRight i.2.2.2.2.2.1) (eqB i.2.2.2.2.2.1 (bs [])) := by
    unfold u_ins_Right
    simp only [h2, fits_row]
    rfl
  have e : v_ref1_InsRight i = u_ref1_InsRight i := by
    rw [hr, rightB, ← hp]
    rfl
  rw [e]
  exact gu_ref1_InsRight i hku
end Go.Ev
end

section
set_option linter.unusedSectionVars false
set_option linter.unusedVariables false
set_option linter.unusedSimpArgs false
set_option maxRecDepth 100000
set_option linter.unusedVariables false
open Go Go.Ev
namespace Go.Ev
noncomputable def e_ref1_InsRight : Run := entG sg_ref1_InsRight R_ref1_InsRight (fun a => k_ref1_InsRight a.1) (fun a => v_ref1_InsRight a.1)
theorem ok_ref1_InsRight : EntOK Go.Proofs.Tryd.prog 67 e_ref1_InsRight := entG_ok (tb := tb_ref1_InsRight) (c := c_ref1_InsRight) tk_ref1_InsRight (by kernel_rfl) (by kernel_rfl) (by kernel_rfl) (fun a => by kernel_rfl) fun ⟨i, _⟩ hk => evF_goes (c := c_ref1_InsRight) (K := fun v => (R_ref1_InsRight v, tps (toForms sg_ref1_InsRight (i, ())))) (S := S_ref1_InsRight i) (by kernel_rfl) (en_ref1_InsRight i) (lp_ref1_InsRight i) (g_ref1_InsRight i hk)
end Go.Ev
end

section
set_option linter.unusedSectionVars false
set_option linter.unusedVariables false
set_option linter.unusedSimpArgs false
set_option maxRecDepth 100000
set_option linter.unusedVariables false
open Go Go.Ev
namespace Go.Ev
/-! ### paling/palingref1.operand -/
def sg_ref1_operand : Sig := [(true, T_api_Prog), (true, T_api_Opd)]
noncomputable def t_ref1_operand : Tbl := [(84, e_ref1_Memory)]
theorem tk_ref1_operand : ∀ p ∈ t_ref1_operand, EntOK Go.Proofs.Tryd.prog p.1 p.2 := tbl_cons ok_ref1_Memory (tbl_nil)
noncomputable def c_ref1_operand : Code := Go.Proofs.Tryd.f68.body.getD .skip
def tb_ref1_operand : Tb := []
def T_ref1_operand (p : El T_api_Prog) (o : El T_api_Opd) : Empty → JT Empty (Int) := fun j => nomatch j
def T0_ref1_operand (p : El T_api_Prog) (o : El T_api_Opd) : JT Empty (Int) :=
  .br (! (v_ref1_Memory o))
    (.leaf (0 : Int))
  (.br (decide (o.2.2.1 ≥ (Int.ofNat (List.length p.1))))
    (.leaf (7 : Int))
  (.br (o.1 == (3 : Int))
    (.br ((decide ((0 : Int) ≤ o.2.2.1)) && (decide (o.2.2.1 < (Int.ofNat (List.length p.1)))))
      (.br (decide (o.2.2.2 ≥ (List.getD p.1 (Int.toNat o.2.2.1) (dflt T_api_Sym)).2.1))
        (.leaf (8 : Int))
      (.leaf (0 : Int)))
    (.no))
  (.leaf (0 : Int))))
def v_ref1_operand (p : El T_api_Prog) (o : El T_api_Opd) : Int :=
  bif (! (v_ref1_Memory o)) then
    (0 : Int)
  else bif (decide (o.2.2.1 ≥ (Int.ofNat (List.length p.1)))) then
    (7 : Int)
  else bif (o.1 == (3 : Int)) then
    bif ((decide ((0 : Int) ≤ o.2.2.1)) && (decide (o.2.2.1 < (Int.ofNat (List.length p.1))))) then
      bif (decide (o.2.2.2 ≥ (List.getD p.1 (Int.toNat o.2.2.1) (dflt T_api_Sym)).2.1)) then
        (8 : Int)
      else (0 : Int)
    else (0 : Int)
  else (0 : Int)
def k_ref1_operand (p : El T_api_Prog) (o : El T_api_Opd) : Bool :=
  bif (! (v_ref1_Memory o)) then
    true
  else bif (decide (o.2.2.1 ≥ (Int.ofNat (List.length p.1)))) then
    true
  else bif (o.1 == (3 : Int)) then
    bif ((decide ((0 : Int) ≤ o.2.2.1)) && (decide (o.2.2.1 < (Int.ofNat (List.length p.1))))) then
      bif (decide (o.2.2.2 ≥ (List.getD p.1 (Int.toNat o.2.2.1) (dflt T_api_Sym)).2.1)) then
        true
      else true
    else false
  else true
theorem g_ref1_operand (p : El T_api_Prog) (o : El T_api_Opd) (hk : k_ref1_operand p o = true) : Goes (T_ref1_operand p o) (T0_ref1_operand p o) (v_ref1_operand p o) :=
  Goes.brk hk (fun hk =>
    Goes.leaf) (fun hk =>
    Goes.brk hk (fun hk =>
      Goes.leaf) (fun hk =>
      Goes.brk hk (fun hk =>
        Goes.brk hk (fun hk =>
          Goes.brk hk (fun hk =>
            Goes.leaf) (fun hk =>
            Goes.leaf)) (fun hk =>
          Goes.nok hk)) (fun hk =>
        Goes.leaf)))
def R_ref1_operand : Int → AV := fun (r : Int) => .d (.int .i64) r
def S_ref1_operand (p : El T_api_Prog) (o : El T_api_Opd) : Empty → Nat × St := fun j => nomatch j
theorem en_ref1_operand (p : El T_api_Prog) (o : El T_api_Opd) (L : Lt) : entryA Go.Proofs.Tryd.prog (clOf t_ref1_operand) tb_ref1_operand Go.Proofs.Tryd.f68 c_ref1_operand L (toForms sg_ref1_operand (p, o, ())) = (T0_ref1_operand p o).run (fun v => some (R_ref1_operand v, tps (toForms sg_ref1_operand (p, o, ())))) fun j => L (S_ref1_operand p o j).1 (S_ref1_operand p o j).2 := by kernel_rfl
theorem lp_ref1_operand (p : El T_api_Prog) (o : El T_api_Opd) : ∀ (L : Lt) (j : Empty), procOf (procsF Go.Proofs.Tryd.prog (clOf t_ref1_operand) tb_ref1_operand Go.Proofs.Tryd.f68 c_ref1_operand (toForms sg_ref1_operand (p, o, ()))) (S_ref1_operand p o j).1 L (S_ref1_operand p o j).2 = (T_ref1_operand p o j).run (fun v => some (R_ref1_operand v, tps (toForms sg_ref1_operand (p, o, ())))) fun j => L (S_ref1_operand p o j).1 (S_ref1_operand p o j).2 := fun L j => nomatch j
noncomputable def e_ref1_operand : Run := entG sg_ref1_operand R_ref1_operand (fun a => k_ref1_operand a.1 a.2.1) (fun a => v_ref1_operand a.1 a.2.1)
theorem ok_ref1_operand : EntOK Go.Proofs.Tryd.prog 68 e_ref1_operand := entG_ok (tb := tb_ref1_operand) (c := c_ref1_operand) tk_ref1_operand (by kernel_rfl) (by kernel_rfl) (by kernel_rfl) (fun a => by kernel_rfl) fun ⟨p, o, _⟩ hk => evF_goes (c := c_ref1_operand) (K := fun v => (R_ref1_operand v, tps (toForms sg_ref1_operand (p, o, ())))) (S := S_ref1_operand p o) (by kernel_rfl) (en_ref1_operand p o) (lp_ref1_operand p o) (g_ref1_operand p o hk)
end Go.Ev
end

section
set_option linter.unusedSectionVars false
set_option linter.unusedVariables false
set_option linter.unusedSimpArgs false
set_option maxRecDepth 100000
set_option linter.unusedVariables false
open Go Go.Ev
namespace Go.Ev
/-! ### paling/palingref1.Find -/
def sg_ref1_Find : Sig := [(true, (.sl T_api_Ins)), (false, .str)]
noncomputable def t_ref1_Find : Tbl := [(66, e_ref1_index)]
theorem tk_ref1_Find : ∀ p ∈ t_ref1_Find, EntOK Go.Proofs.Tryd.prog p.1 p.2 := tbl_cons ok_ref1_index (tbl_nil)
noncomputable def c_ref1_Find : Code := Go.Proofs.Tryd.f70.body.getD .skip
def tb_ref1_Find : Tb := [(3, ⟨[1, 2, 5], []⟩)]
inductive J_ref1_Find where
  | l3 (i : Int)
def T_ref1_Find (t : List (El T_api_Ins)) (label : ByteArray) : J_ref1_Find → JT J_ref1_Find (Int)
  | .l3 i =>
    .br (decide (i < (Int.ofNat (List.length t))))
      (.br ((decide ((0 : Int) ≤ i)) && (decide (i < (Int.ofNat (List.length t)))))
        (.br (k_ref1_index (List.getD t (Int.toNat i) (dflt T_api_Ins)).2.2.2.2.2.2 label)
          (.br (decide ((v_ref1_index (List.getD t (Int.toNat i) (dflt T_api_Ins)).2.2.2.2.2.2 label) ≥ (0 : Int)))
            (.leaf i)
          (.jmp (.l3 (IntKind.i64.wrap (i + (1 : Int))))))
        (.no))
      (.no))
    (.leaf (-1 : Int))
def T0_ref1_Find (t : List (El T_api_Ins)) (label : ByteArray) : JT J_ref1_Find (Int) :=
  .jmp (.l3 (0 : Int))
def R_ref1_Find : Int → AV := fun (r : Int) => .d (.int .i64) r
def S_ref1_Find (t : List (El T_api_Ins)) (label : ByteArray) : J_ref1_Find → Nat × St
  | .l3 i => (3, ⟨mkTm 23 [(1, .d .str label), (2, .pt 3 0 0), (5, .d (.int .i64) i)], [(3, 0, .box 58 [.d (.sl T_api_Ins) t] none)]⟩)
theorem en_ref1_Find (t : List (El T_api_Ins)) (label : ByteArray) (L : Lt) : entryA Go.Proofs.Tryd.prog (clOf t_ref1_Find) tb_ref1_Find Go.Proofs.Tryd.f70 c_ref1_Find L (toForms sg_ref1_Find (t, label, ())) = (T0_ref1_Find t label).run (fun v => some (R_ref1_Find v, tps (toForms sg_ref1_Find (t, label, ())))) fun j => L (S_ref1_Find t label j).1 (S_ref1_Find t label j).2 := by kernel_rfl
theorem lp_ref1_Find (t : List (El T_api_Ins)) (label : ByteArray) : ∀ (L : Lt) (j : J_ref1_Find), procOf (procsF Go.Proofs.Tryd.prog (clOf t_ref1_Find) tb_ref1_Find Go.Proofs.Tryd.f70 c_ref1_Find (toForms sg_ref1_Find (t, label, ()))) (S_ref1_Find t label j).1 L (S_ref1_Find t label j).2 = (T_ref1_Find t label j).run (fun v => some (R_ref1_Find v, tps (toForms sg_ref1_Find (t, label, ())))) fun j => L (S_ref1_Find t label j).1 (S_ref1_Find t label j).2
  | L, .l3 i => by kernel_rfl
end Go.Ev
end

section
set_option linter.unusedSectionVars false
set_option linter.unusedVariables false
set_option linter.unusedSimpArgs false
set_option linter.unusedVariables false
set_option linter.unusedSimpArgs false
open Go
namespace Go.Ev
def v_ref1_Find (t : List (El T_api_Ins)) (label : ByteArray) : Int := findI label t 0
def k_ref1_Find (t : List (El T_api_Ins)) (label : ByteArray) : Bool := decide (t.length < 1099511627776) && t.all fun i => decide (i.2.2.2.2.2.2.length < 1099511627776)
theorem g_ref1_Find (t : List (El T_api_Ins)) (label : ByteArray) (hk : k_ref1_Find t label = true) : Goes (T_ref1_Find t label) (T0_ref1_Find t label) (v_ref1_Find t label) := by
  unfold k_ref1_Find at hk
  simp only [Bool.and_eq_true, decide_eq_true_eq, List.all_eq_true] at hk
  obtain ⟨hn, hl⟩ := hk
  have loop : ∀ k, k ≤ t.length → Goes (T_ref1_Find t label) (.jmp (.l3 (k : Int))) (findI label (t.drop k) k) := by
    refine down ?_ fun k hk ih => ?_
    · rw [goes_jmp]
      simp only [T_ref1_Find, goes_br, lt_len_not (Nat.lt_irrefl _), goes_leaf, List.drop_length]
      simp [findI]
    · have hli := hl t[k] (List.getElem_mem hk)
      have hki : k_ref1_index t[k].2.2.2.2.2.2 label = true := decide_eq_true (by omega)
      rw [goes_jmp]
      simp only [T_ref1_Find, goes_br, lt_len hk, nng, Bool.and_self, if_true, Int.toNat_natCast, getD_lt hk, wrap_succ (k := k) (by omega), hki]
      rw [drop_cons hk]
      unfold findI
      have hi : decide (v_ref1_index t[k].2.2.2.2.2.2 label ≥ 0) = t[k].2.2.2.2.2.2.contains label := by
        rw [← findFrom_contains (k := 0)]
        unfold v_ref1_index
        cases h : findFrom label t[k].2.2.2.2.2.2 0 with
        | none => rfl
        | some n => simp
      rw [hi]
      split
      · exact .leaf
      · exact ih
  unfold T0_ref1_Find v_ref1_Find
  simpa using loop 0 (Nat.zero_le _)
end Go.Ev
end

section
set_option linter.unusedSectionVars false
set_option linter.unusedVariables false
set_option linter.unusedSimpArgs false
set_option maxRecDepth 100000
set_option linter.unusedVariables false
open Go Go.Ev
namespace Go.Ev
noncomputable def e_ref1_Find : Run := entG sg_ref1_Find R_ref1_Find (fun a => k_ref1_Find a.1 a.2.1) (fun a => v_ref1_Find a.1 a.2.1)
theorem ok_ref1_Find : EntOK Go.Proofs.Tryd.prog 70 e_ref1_Find := entG_ok (tb := tb_ref1_Find) (c := c_ref1_Find) tk_ref1_Find (by kernel_rfl) (by kernel_rfl) (by kernel_rfl) (fun a => by kernel_rfl) fun ⟨t, label, _⟩ hk => evF_goes (c := c_ref1_Find) (K := fun v => (R_ref1_Find v, tps (toForms sg_ref1_Find (t, label, ())))) (S := S_ref1_Find t label) (by kernel_rfl) (en_ref1_Find t label) (lp_ref1_Find t label) (g_ref1_Find t label hk)
end Go.Ev
end

section
set_option linter.unusedSectionVars false
set_option linter.unusedVariables false
set_option linter.unusedSimpArgs false
set_option maxRecDepth 100000
set_option linter.unusedVariables false
open Go Go.Ev
namespace Go.Ev
/-! ### paling/palingref1.thread -/
def sg_ref1_thread : Sig := [(true, T_api_Prog), (true, (.sl T_api_Ins))]
noncomputable def t_ref1_thread : Tbl := [(65, e_ref1_Count), (52, e_ref1_Right), (66, e_ref1_index), (67, e_ref1_InsRight), (68, e_ref1_operand), (69, e_ref1_Jumps), (70, e_ref1_Find)]
theorem tk_ref1_thread : ∀ p ∈ t_ref1_thread, EntOK Go.Proofs.Tryd.prog p.1 p.2 := tbl_cons ok_ref1_Count (tbl_cons ok_ref1_Right (tbl_cons ok_ref1_index (tbl_cons ok_ref1_InsRight (tbl_cons ok_ref1_operand (tbl_cons ok_ref1_Jumps (tbl_cons ok_ref1_Find (tbl_nil)))))))
noncomputable def c_ref1_thread : Code := Go.Proofs.Tryd.f53.body.getD .skip
def tb_ref1_thread : Tb := [(7, ⟨[2, 3, 5, 6], [(6, 122)]⟩), (14, ⟨[2, 3, 5, 6, 7, 8], [(6, 122)]⟩), (44, ⟨[3, 13], []⟩)]
inductive J_ref1_thread where
  | l7 (i : Int) (seen : List ByteArray)
  | l14 (x : Int) (x1 : Bool) (x2 : Int) (x3 : Int) (x4 : Int) (x5 : Int) (x6 : Int) (x7 : Int) (x8 : Int) (x9 : Int) (x10 : Int) (x11 : ByteArray) (x12 : List ByteArray) (k : Int) (seen : List ByteArray) (i : Int)
  | l44 (i : Int)
def T_ref1_thread (p : El T_api_Prog) (t : List (El T_api_Ins)) : J_ref1_thread → JT J_ref1_thread (Int)
  | .l7 i seen =>
    .br (decide (i < (Int.ofNat (List.length t))))
      (.br ((decide ((0 : Int) ≤ i)) && (decide (i < (Int.ofNat (List.length t)))))
        (.jmp (.l14 (List.getD t (Int.toNat i) (dflt T_api_Ins)).1 (List.getD t (Int.toNat i) (dflt T_api_Ins)).2.1 (List.getD t (Int.toNat i) (dflt T_api_Ins)).2.2.1 (List.getD t (Int.toNat i) (dflt T_api_Ins)).2.2.2.1.1 (List.getD t (Int.toNat i) (dflt T_api_Ins)).2.2.2.1.2.1 (List.getD t (Int.toNat i) (dflt T_api_Ins)).2.2.2.1.2.2.1 (List.getD t (Int.toNat i) (dflt T_api_Ins)).2.2.2.1.2.2.2 (List.getD t (Int.toNat i) (dflt T_api_Ins)).2.2.2.2.1.1 (List.getD t (Int.toNat i) (dflt T_api_Ins)).2.2.2.2.1.2.1 (List.getD t (Int.toNat i) (dflt T_api_Ins)).2.2.2.2.1.2.2.1 (List.getD t (Int.toNat i) (dflt T_api_Ins)).2.2.2.2.1.2.2.2 (List.getD t (Int.toNat i) (dflt T_api_Ins)).2.2.2.2.2.1 (List.getD t (Int.toNat i) (dflt T_api_Ins)).2.2.2.2.2.2 (0 : Int) seen i))
      (.no))
    (.br ((Int.ofNat (List.length t)) == (0 : Int))
      (.leaf (9 : Int))
    (.br ((decide ((0 : Int) ≤ (IntKind.i64.wrap ((Int.ofNat (List.length t)) - (1 : Int))))) && (decide ((IntKind.i64.wrap ((Int.ofNat (List.length t)) - (1 : Int))) < (Int.ofNat (List.length t)))))
      (.br ((List.getD t (Int.toNat (IntKind.i64.wrap ((Int.ofNat (List.length t)) - (1 : Int)))) (dflt T_api_Ins)).1 != (10 : Int))
        (.br ((List.getD t (Int.toNat (IntKind.i64.wrap ((Int.ofNat (List.length t)) - (1 : Int)))) (dflt T_api_Ins)).1 != (14 : Int))
          (.leaf (9 : Int))
        (.jmp (.l44 (0 : Int))))
      (.jmp (.l44 (0 : Int))))
    (.no)))
  | .l14 x x1 x2 x3 x4 x5 x6 x7 x8 x9 x10 x11 x12 k seen i =>
    .br (decide (k < (Int.ofNat (List.length x12))))
      (.br ((decide ((0 : Int) ≤ k)) && (decide (k < (Int.ofNat (List.length x12)))))
        (.br (k_ref1_Right (List.getD x12 (Int.toNat k) (dflt .str)))
          (.br (! (v_ref1_Right (List.getD x12 (Int.toNat k) (dflt .str))))
            (.leaf (3 : Int))
          (.br ((decide ((0 : Int) ≤ k)) && (decide (k < (Int.ofNat (List.length x12)))))
            (.br (k_ref1_index seen (List.getD x12 (Int.toNat k) (dflt .str)))
              (.br (decide ((v_ref1_index seen (List.getD x12 (Int.toNat k) (dflt .str))) ≥ (0 : Int)))
                (.leaf (6 : Int))
              (.br ((decide ((0 : Int) ≤ k)) && (decide (k < (Int.ofNat (List.length x12)))))
                (.br (Nat.ble (((List.length seen) + 1) * 16) limit)
                  (.jmp (.l14 x x1 x2 x3 x4 x5 x6 x7 x8 x9 x10 x11 x12 (IntKind.i64.wrap (k + (1 : Int))) (seen ++ [(List.getD x12 (Int.toNat k) (dflt .str))]) i))
                (.no))
              (.no)))
            (.no))
          (.no)))
        (.no))
      (.no))
    (.br (k_ref1_InsRight (x, (x1, (x2, ((x3, (x4, (x5, x6))), ((x7, (x8, (x9, x10))), (x11, x12)))))))
      (.br ((v_ref1_InsRight (x, (x1, (x2, ((x3, (x4, (x5, x6))), ((x7, (x8, (x9, x10))), (x11, x12))))))) != (0 : Int))
        (.leaf (v_ref1_InsRight (x, (x1, (x2, ((x3, (x4, (x5, x6))), ((x7, (x8, (x9, x10))), (x11, x12))))))))
      (.br (k_ref1_operand p (x3, (x4, (x5, x6))))
        (.br ((v_ref1_operand p (x3, (x4, (x5, x6)))) != (0 : Int))
          (.leaf (v_ref1_operand p (x3, (x4, (x5, x6)))))
        (.br (k_ref1_operand p (x7, (x8, (x9, x10))))
          (.br ((v_ref1_operand p (x7, (x8, (x9, x10)))) != (0 : Int))
            (.leaf (v_ref1_operand p (x7, (x8, (x9, x10)))))
          (.jmp (.l7 (IntKind.i64.wrap (i + (1 : Int))) seen)))
        (.no)))
      (.no)))
    (.no))
  | .l44 i =>
    .br (decide (i < (Int.ofNat (List.length t))))
      (.br ((decide ((0 : Int) ≤ i)) && (decide (i < (Int.ofNat (List.length t)))))
        (.br (v_ref1_Jumps (List.getD t (Int.toNat i) (dflt T_api_Ins)).1)
          (.br ((decide ((0 : Int) ≤ i)) && (decide (i < (Int.ofNat (List.length t)))))
            (.br (k_ref1_Find t (List.getD t (Int.toNat i) (dflt T_api_Ins)).2.2.2.2.2.1)
              (.br (decide ((v_ref1_Find t (List.getD t (Int.toNat i) (dflt T_api_Ins)).2.2.2.2.2.1) < (0 : Int)))
                (.leaf (7 : Int))
              (.jmp (.l44 (IntKind.i64.wrap (i + (1 : Int))))))
            (.no))
          (.no))
        (.jmp (.l44 (IntKind.i64.wrap (i + (1 : Int))))))
      (.no))
    (.leaf (0 : Int))
def T0_ref1_thread (p : El T_api_Prog) (t : List (El T_api_Ins)) : JT J_ref1_thread (Int) :=
  .br (k_ref1_Count t)
    (.br (decide ((v_ref1_Count t) > (4096 : Int)))
      (.leaf (10 : Int))
    (.jmp (.l7 (0 : Int) [])))
  (.no)
def R_ref1_thread : Int → AV := fun (r : Int) => .d (.int .i64) r
def S_ref1_thread (p : El T_api_Prog) (t : List (El T_api_Ins)) : J_ref1_thread → Nat × St
  | .l7 i seen => (7, ⟨mkTm 122 [(2, .pt 3 0 0), (3, .pt 4 0 0), (5, .own 6 0 none), (6, .d (.int .i64) i)], [(3, 0, .box 27 [.d (.sl T_api_Sym) p.1, .d (.sl (.sl T_api_Ins)) p.2] none), (4, 0, .box 58 [.d (.sl T_api_Ins) t] none), (6, 0, .row 9 .str seen false)]⟩)
  | .l14 x x1 x2 x3 x4 x5 x6 x7 x8 x9 x10 x11 x12 k seen i => (14, ⟨mkTm 122 [(2, .pt 3 0 0), (3, .pt 4 0 0), (5, .own 6 0 none), (6, .d (.int .i64) i), (7, .pt 8 0 0), (8, .d (.int .i64) k)], [(3, 0, .box 27 [.d (.sl T_api_Sym) p.1, .d (.sl (.sl T_api_Ins)) p.2] none), (4, 0, .box 58 [.d (.sl T_api_Ins) t] none), (6, 0, .row 9 .str seen false), (8, 0, .box 63 [.d (.int .i64) x, .d .bool x1, .d (.int .i64) x2, .d (.int .i64) x3, .d (.int .i64) x4, .d (.int .i64) x5, .d (.int .i64) x6, .d (.int .i64) x7, .d (.int .i64) x8, .d (.int .i64) x9, .d (.int .i64) x10, .d .str x11, .d (.sl .str) x12] none)]⟩)
  | .l44 i => (44, ⟨mkTm 122 [(3, .pt 4 0 0), (13, .d (.int .i64) i)], [(4, 0, .box 58 [.d (.sl T_api_Ins) t] none)]⟩)
theorem en_ref1_thread (p : El T_api_Prog) (t : List (El T_api_Ins)) (L : Lt) : entryA Go.Proofs.Tryd.prog (clOf t_ref1_thread) tb_ref1_thread Go.Proofs.Tryd.f53 c_ref1_thread L (toForms sg_ref1_thread (p, t, ())) = (T0_ref1_thread p t).run (fun v => some (R_ref1_thread v, tps (toForms sg_ref1_thread (p, t, ())))) fun j => L (S_ref1_thread p t j).1 (S_ref1_thread p t j).2 := by kernel_rfl
theorem lp_ref1_thread (p : El T_api_Prog) (t : List (El T_api_Ins)) : ∀ (L : Lt) (j : J_ref1_thread), procOf (procsF Go.Proofs.Tryd.prog (clOf t_ref1_thread) tb_ref1_thread Go.Proofs.Tryd.f53 c_ref1_thread (toForms sg_ref1_thread (p, t, ()))) (S_ref1_thread p t j).1 L (S_ref1_thread p t j).2 = (T_ref1_thread p t j).run (fun v => some (R_ref1_thread v, tps (toForms sg_ref1_thread (p, t, ())))) fun j => L (S_ref1_thread p t j).1 (S_ref1_thread p t j).2
  | L, .l7 i seen => by kernel_rfl
  | L, .l14 x x1 x2 x3 x4 x5 x6 x7 x8 x9 x10 x11 x12 k seen i => by kernel_rfl
  | L, .l44 i => by kernel_rfl
end Go.Ev
end

section
set_option linter.unusedSectionVars false
set_option linter.unusedVariables false
set_option linter.unusedSimpArgs false
set_option linter.unusedVariables false
set_option linter.unusedSimpArgs false
open Go
namespace Go.Ev
def v_ref1_thread (p : El T_api_Prog) (t : List (El T_api_Ins)) : Int := threadC p t
def k_ref1_thread (p : El T_api_Prog) (t : List (El T_api_Ins)) : Bool := smallThread t
theorem operand_eq' (len : Nat) (size : Int → Int) (k s n : Int) (h : (k = 3 ∨ k = 4) → 0 ≤ s) :
  (bif (! (decide (k = 3) || decide (k = 4))) then
    (0 : Int)
  else bif (decide (s ≥ (Int.ofNat len))) then
    (7 : Int)
  else bif (k == (3 : Int)) then
    bif ((decide ((0 : Int) ≤ s)) && (decide (s < (Int.ofNat len)))) then
      bif (decide (n ≥ size s)) then
        (8 : Int)
      else (0 : Int)
    else (0 : Int)
  else (0 : Int)) = placeN len size k s n ∧
  (bif (! (decide (k = 3) || decide (k = 4))) then
    true
  else bif (decide (s ≥ (Int.ofNat len))) then
    true
  else bif (k == (3 : Int)) then
    bif ((decide ((0 : Int) ≤ s)) && (decide (s < (Int.ofNat len)))) then
      bif (decide (n ≥ size s)) then
        true
      else true
    else false
  else true) = true := by
  unfold placeN
  by_cases h3 : k = 3
  · have h0 := h (.inl h3)
    subst h3
    by_cases hl : (len : Int) ≤ s
    · simp [hl]
    have h2 : s < (len : Int) := by omega
    have h1 : ¬ s < 0 := by omega
    by_cases hn : size s ≤ n
    · simp [hl, hn, h0, h1, h2]
    · simp [hl, hn, h0, h1, h2]
  by_cases h4 : k = 4
  · have h0 := h (.inr h4)
    subst h4
    have h1 : ¬ s < 0 := by omega
    by_cases hl : (len : Int) ≤ s
    · simp [hl]
    simp [hl, h1]
  simp [h3, h4]
theorem operand_eq (p : El T_api_Prog) (o : El T_api_Opd) (h : ∀ k s : Int, o.1 = k → o.2.2.1 = s → (k = 3 ∨ k = 4) → 0 ≤ s) : v_ref1_operand p o = placeC p o ∧ k_ref1_operand p o = true := by
  have := operand_eq' p.1.length (fun s => (List.getD p.1 s.toNat (dflt T_api_Sym)).2.1) o.1 o.2.2.1 o.2.2.2 (h _ _ rfl rfl)
  unfold v_ref1_operand k_ref1_operand
  rw [refMemory_eq]
  exact this
theorem right_sym' {k r s n : Int} (h : v_opnd_Right (k, r, s, n) = true) (hk : k = 3 ∨ k = 4) : 0 ≤ s := by
  unfold v_opnd_Right at h
  rcases hk with rfl | rfl
  · by_cases hs : 0 ≤ s
    · exact hs
    · simp [hs] at h
  · by_cases hs : 0 ≤ s
    · exact hs
    · simp [hs] at h
theorem opds_ok {i : El T_api_Ins} (hr : v_ins_Right i = 0) : (∀ k s : Int, i.2.2.2.1.1 = k → i.2.2.2.1.2.2.1 = s → (k = 3 ∨ k = 4) → 0 ≤ s) ∧ ∀ k s : Int, i.2.2.2.2.1.1 = k → i.2.2.2.2.1.2.2.1 = s → (k = 3 ∨ k = 4) → 0 ≤ s := by
  obtain ⟨h1, h14, hrow⟩ := right0_row hr
  rcases nine i.1 with ⟨h9, _⟩ | ⟨h9, _⟩
  · obtain ⟨a, b⟩ := row_low hrow h1 h9
    exact ⟨fun k s hk hs h => hs ▸ right_sym' (k := i.2.2.2.1.1) (r := i.2.2.2.1.2.1) (s := i.2.2.2.1.2.2.1) (n := i.2.2.2.1.2.2.2) a (hk ▸ h), fun k s hk hs h => hs ▸ right_sym' (k := i.2.2.2.2.1.1) (r := i.2.2.2.2.1.2.1) (s := i.2.2.2.2.1.2.2.1) (n := i.2.2.2.2.1.2.2.2) b (hk ▸ h)⟩
  · obtain ⟨a, b⟩ := row_high hrow h9
    refine ⟨fun k s hk hs h => ?_, fun k s hk hs h => ?_⟩
    · have : k = 0 := hk ▸ a
      omega
    · have : k = 0 := hk ▸ b
      omega
theorem g_ref1_thread (p : El T_api_Prog) (t : List (El T_api_Ins)) (hk : k_ref1_thread p t = true) : Goes (T_ref1_thread p t) (T0_ref1_thread p t) (v_ref1_thread p t) := by
  have hS := smallT hk
  have hn := hS.len
  have hkf : ∀ l, k_ref1_Find t l = true := fun l => by
    unfold k_ref1_Find
    simp only [Bool.and_eq_true, decide_eq_true_eq, List.all_eq_true]
    exact ⟨hn, fun i hi => Nat.lt_of_le_of_lt (labels_mem hi) hS.labs⟩
  have jmps : ∀ k, k ≤ t.length → Goes (T_ref1_thread p t) (.jmp (.l44 (k : Int))) (jumpC (labels t) (t.drop k)) := by
    refine down ?_ fun k hk ih => ?_
    · rw [goes_jmp]
      simp only [T_ref1_thread, goes_br, lt_len_not (Nat.lt_irrefl _), goes_leaf, List.drop_length]
      simp [jumpC]
    · rw [goes_jmp]
      simp only [T_ref1_thread, goes_br, lt_len hk, nng, Bool.and_self, if_true, Int.toNat_natCast, getD_lt hk, wrap_succ (k := k) (by omega), hkf, jumps_eq]
      have hfi : decide (v_ref1_Find t t[k].2.2.2.2.2.1 < 0) = ! (labels t).contains t[k].2.2.2.2.2.1 := findI_neg
      rw [hfi, drop_cons hk]
      unfold jumpC
      by_cases h1 : ((t[k].1 == (10 : Int)) || (t[k].1 == (11 : Int))) = true
      · rw [if_pos h1, if_pos h1]
        by_cases h2 : (labels t).contains t[k].2.2.2.2.2.1 = true
        · rw [if_pos h2, if_neg (by rw [h2]; decide)]; exact ih
        · rw [if_neg h2, if_pos (by rw [Bool.eq_false_iff.2 h2]; rfl)]; exact .leaf
      · rw [if_neg h1, if_neg h1]; exact ih
  have main : ∀ k, k ≤ t.length → Goes (T_ref1_thread p t) (.jmp (.l7 (k : Int) (labels (t.take k)))) (scanI p (fun seen => endC t (jumpC seen t)) (labels (t.take k)) (t.drop k)) := by
    refine down ?_ fun k hk ih => ?_
    · have hj := jmps 0 (Nat.zero_le _)
      rw [List.drop_zero] at hj
      rw [goes_jmp, List.drop_length, List.take_length]
      unfold scanI
      simp only [T_ref1_thread, goes_br, lt_len_not (Nat.lt_irrefl _)]
      rw [if_neg (by decide)]
      by_cases h0 : t.length = 0
      · have : t = [] := List.eq_nil_of_length_eq_zero h0
        rw [this]; simp [goes_leaf, endC]
      · have hp : 0 < t.length := by omega
        rw [if_neg (by simp; exact fun e => h0 (by rw [e]; rfl)), endC_eq hp]
        rw [show Int.ofNat t.length = (t.length : Int) from rfl, wrap_pred (k := t.length) (by omega) hp]
        have hb : (decide (0 ≤ ((t.length - 1 : Nat) : Int)) && decide (((t.length - 1 : Nat) : Int) < (t.length : Int))) = true := by simp; omega
        simp only [hb, if_true, Int.toNat_natCast, getD_lt (show t.length - 1 < t.length by omega)]
        unfold bne
        cases h10 : (t[t.length - 1].1 == (10 : Int)) with
        | true => simpa using hj
        | false =>
          cases h14 : (t[t.length - 1].1 == (14 : Int)) with
          | true => simpa using hj
          | false => simp [goes_leaf]
    · have hmem : t[k] ∈ t := List.getElem_mem hk
      have hto := hS.to _ hmem
      have hlab := hS.lab _ hmem
      have hlen := Nat.lt_of_le_of_lt (labels_mem hmem) hS.labs
      have htk : labels (t.take (k + 1)) = labels (t.take k) ++ t[k].2.2.2.2.2.2 := by
        unfold labels
        rw [List.take_add_one, List.getElem?_eq_getElem hk, List.flatMap_append]
        simp
      have hall : labels t = labels (t.take (k + 1)) ++ labels (t.drop (k + 1)) := by
        unfold labels
        rw [← List.flatMap_append, List.take_append_drop]
      have hlt : (labels (t.take (k + 1))).length < 1099511627776 := by
        have := hS.labs
        rw [hall, List.length_append] at this
        omega
      rw [goes_jmp]
      simp only [T_ref1_thread, goes_br, lt_len hk, nng, Bool.and_self, if_true, Int.toNat_natCast, getD_lt hk]
      rw [drop_cons hk]
      unfold scanI
      rw [htk] at ih hlt
      generalize t[k] = i at hto hlab hlen htk ih hlt
      obtain ⟨op, lock, cond, ⟨ak, ar, ay, an⟩, ⟨bk, br, bz, bn⟩, to, ls⟩ := i
      dsimp only at hto hlab hlen htk ih hlt ⊢
      have inner : ∀ j, j ≤ ls.length → Goes (T_ref1_thread p t) (.jmp (.l14 op lock cond ak ar ay an bk br bz bn to ls (j : Int) (labels (t.take k) ++ ls.take j) (k : Int))) (scanL (labels (t.take k) ++ ls.take j) (fun seen => if insC p (op, (lock, (cond, ((ak, (ar, (ay, an))), ((bk, (br, (bz, bn))), (to, ls)))))) ≠ 0 then insC p (op, (lock, (cond, ((ak, (ar, (ay, an))), ((bk, (br, (bz, bn))), (to, ls)))))) else scanI p (fun seen => endC t (jumpC seen t)) seen (t.drop (k + 1))) (ls.drop j)) := by
        refine down ?_ fun j hj ihj => ?_
        · rw [goes_jmp, List.drop_length, List.take_length]
          unfold scanL
          have hkr : k_ref1_InsRight (op, (lock, (cond, ((ak, (ar, (ay, an))), ((bk, (br, (bz, bn))), (to, ls)))))) = true := hto
          simp only [T_ref1_thread, goes_br, lt_len_not (Nat.lt_irrefl _), hkr, if_true, wrap_succ (k := k) (by omega)]
          rw [if_neg (by decide)]
          unfold insC v_ref1_InsRight
          dsimp only
          by_cases hr : v_ins_Right (op, (lock, (cond, ((ak, (ar, (ay, an))), ((bk, (br, (bz, bn))), (to, ls)))))) = 0
          · obtain ⟨oa, ob⟩ := opds_ok hr
            obtain ⟨a1, a2⟩ := operand_eq p (ak, (ar, (ay, an))) oa
            obtain ⟨b1, b2⟩ := operand_eq p (bk, (br, (bz, bn))) ob
            by_cases ha : placeC p (ak, (ar, (ay, an))) = 0
            · by_cases hb : placeC p (bk, (br, (bz, bn))) = 0
              · simp [hr, ha, hb, a1, a2, b1, b2]; exact ih
              · simp [hr, ha, hb, a1, a2, b1, b2, goes_leaf]
            · simp [hr, ha, a1, a2, goes_leaf]
          · simp [hr, goes_leaf]
        · have hl := hlab ls[j] (List.getElem_mem hj)
          have hkn : k_ref1_Right ls[j] = true := hl
          have hsl : (labels (t.take k) ++ ls.take j).length < 1099511627776 := by
            rw [List.length_append] at hlt ⊢
            rw [List.length_take]
            omega
          have hki : k_ref1_index (labels (t.take k) ++ ls.take j) ls[j] = true := decide_eq_true (by omega)
          have hap : Nat.ble (((labels (t.take k) ++ ls.take j).length + 1) * 16) limit = true := by apply Nat.ble_eq_true_of_le; unfold limit; omega
          have htj : labels (t.take k) ++ ls.take (j + 1) = (labels (t.take k) ++ ls.take j) ++ [ls[j]] := by
            rw [List.take_add_one, List.getElem?_eq_getElem hj, List.append_assoc]; rfl
          rw [htj] at ihj
          rw [goes_jmp]
          simp only [T_ref1_thread, goes_br, lt_len hj, nng, Bool.and_self, if_true, Int.toNat_natCast, getD_lt hj, wrap_succ (k := j) (by omega), hkn, hki, hap, index_contains]
          rw [drop_cons hj]
          unfold scanL
          by_cases h1 : nameRight ls[j] = false
          · rw [if_pos h1, if_pos (by show (! nameRight ls[j]) = true; rw [h1]; rfl)]; exact .leaf
          · rw [if_neg h1, if_neg (by show ¬ (! nameRight ls[j]) = true; simpa using h1)]
            by_cases h2 : (labels (t.take k) ++ ls.take j).contains ls[j] = true
            · rw [if_pos h2, if_pos h2]; exact .leaf
            · rw [if_neg h2, if_neg h2]; exact ihj
      have := inner 0 (Nat.zero_le _)
      rw [List.drop_zero, List.take_zero, List.append_nil] at this
      exact this
  unfold T0_ref1_thread v_ref1_thread
  have hkc : k_ref1_Count t = true := decide_eq_true hn
  simp only [goes_br, hkc, if_true]
  unfold threadC v_ref1_Count
  by_cases h : 4096 < countM t
  · rw [if_pos (by simp; omega), if_pos h]; exact .leaf
  · rw [if_neg (by simp; omega), if_neg h]
    exact main 0 (Nat.zero_le _)
end Go.Ev
end

section
set_option linter.unusedSectionVars false
set_option linter.unusedVariables false
set_option linter.unusedSimpArgs false
set_option maxRecDepth 100000
set_option linter.unusedVariables false
open Go Go.Ev
namespace Go.Ev
noncomputable def e_ref1_thread : Run := entG sg_ref1_thread R_ref1_thread (fun a => k_ref1_thread a.1 a.2.1) (fun a => v_ref1_thread a.1 a.2.1)
theorem ok_ref1_thread : EntOK Go.Proofs.Tryd.prog 53 e_ref1_thread := entG_ok (tb := tb_ref1_thread) (c := c_ref1_thread) tk_ref1_thread (by kernel_rfl) (by kernel_rfl) (by kernel_rfl) (fun a => by kernel_rfl) fun ⟨p, t, _⟩ hk => evF_goes (c := c_ref1_thread) (K := fun v => (R_ref1_thread v, tps (toForms sg_ref1_thread (p, t, ())))) (S := S_ref1_thread p t) (by kernel_rfl) (en_ref1_thread p t) (lp_ref1_thread p t) (g_ref1_thread p t hk)
end Go.Ev
end

section
set_option linter.unusedSectionVars false
set_option linter.unusedVariables false
set_option linter.unusedSimpArgs false
set_option maxRecDepth 100000
set_option linter.unusedVariables false
open Go Go.Ev
namespace Go.Ev
/-! ### paling/palingref1.Check -/
def sg_ref1_Check : Sig := [(true, T_api_Prog)]
noncomputable def t_ref1_Check : Tbl := [(52, e_ref1_Right), (53, e_ref1_thread)]
theorem tk_ref1_Check : ∀ p ∈ t_ref1_Check, EntOK Go.Proofs.Tryd.prog p.1 p.2 := tbl_cons ok_ref1_Right (tbl_cons ok_ref1_thread (tbl_nil))
noncomputable def c_ref1_Check : Code := Go.Proofs.Tryd.f35.body.getD .skip
def tb_ref1_Check : Tb := [(6, ⟨[1, 3], []⟩), (16, ⟨[1, 3, 4, 5], []⟩), (26, ⟨[1, 6], []⟩)]
inductive J_ref1_Check where
  | l6 (i : Int)
  | l16 (x : ByteArray) (x1 : Int) (x2 : List Int) (i : Int) (k : Int)
  | l26 (i : Int)
def T_ref1_Check (p : El T_api_Prog) : J_ref1_Check → JT J_ref1_Check (Int)
  | .l6 i =>
    .br (decide (i < (Int.ofNat (List.length p.1))))
      (.br ((decide ((0 : Int) ≤ i)) && (decide (i < (Int.ofNat (List.length p.1)))))
        (.br (k_ref1_Right (List.getD p.1 (Int.toNat i) (dflt T_api_Sym)).1)
          (.br (! (v_ref1_Right (List.getD p.1 (Int.toNat i) (dflt T_api_Sym)).1))
            (.leaf (3 : Int))
          (.jmp (.l16 (List.getD p.1 (Int.toNat i) (dflt T_api_Sym)).1 (List.getD p.1 (Int.toNat i) (dflt T_api_Sym)).2.1 (List.getD p.1 (Int.toNat i) (dflt T_api_Sym)).2.2 i (0 : Int))))
        (.no))
      (.no))
    (.jmp (.l26 (0 : Int)))
  | .l16 x x1 x2 i k =>
    .br (decide (k < i))
      (.br ((decide ((0 : Int) ≤ k)) && (decide (k < (Int.ofNat (List.length p.1)))))
        (.br (eqB (List.getD p.1 (Int.toNat k) (dflt T_api_Sym)).1 x)
          (.leaf (6 : Int))
        (.jmp (.l16 x x1 x2 i (IntKind.i64.wrap (k + (1 : Int))))))
      (.no))
    (.br (decide (x1 < (1 : Int)))
      (.leaf (5 : Int))
    (.br (decide (x1 > (64 : Int)))
      (.leaf (5 : Int))
    (.br (decide ((Int.ofNat (List.length x2)) > x1))
      (.leaf (5 : Int))
    (.jmp (.l6 (IntKind.i64.wrap (i + (1 : Int))))))))
  | .l26 i =>
    .br (decide (i < (Int.ofNat (List.length p.2))))
      (.br ((decide ((0 : Int) ≤ i)) && (decide (i < (Int.ofNat (List.length p.2)))))
        (.br (k_ref1_thread p (List.getD p.2 (Int.toNat i) (dflt (.sl T_api_Ins))))
          (.br ((v_ref1_thread p (List.getD p.2 (Int.toNat i) (dflt (.sl T_api_Ins)))) != (0 : Int))
            (.leaf (v_ref1_thread p (List.getD p.2 (Int.toNat i) (dflt (.sl T_api_Ins)))))
          (.jmp (.l26 (IntKind.i64.wrap (i + (1 : Int))))))
        (.no))
      (.no))
    (.leaf (0 : Int))
def T0_ref1_Check (p : El T_api_Prog) : JT J_ref1_Check (Int) :=
  .br (decide ((Int.ofNat (List.length p.1)) > (64 : Int)))
    (.leaf (10 : Int))
  (.br (decide ((Int.ofNat (List.length p.2)) > (64 : Int)))
    (.leaf (10 : Int))
  (.jmp (.l6 (0 : Int))))
def R_ref1_Check : Int → AV := fun (r : Int) => .d (.int .i64) r
def S_ref1_Check (p : El T_api_Prog) : J_ref1_Check → Nat × St
  | .l6 i => (6, ⟨mkTm 81 [(1, .pt 2 0 0), (3, .d (.int .i64) i)], [(2, 0, .box 27 [.d (.sl T_api_Sym) p.1, .d (.sl (.sl T_api_Ins)) p.2] none)]⟩)
  | .l16 x x1 x2 i k => (16, ⟨mkTm 81 [(1, .pt 2 0 0), (3, .d (.int .i64) i), (4, .pt 5 0 0), (5, .d (.int .i64) k)], [(2, 0, .box 27 [.d (.sl T_api_Sym) p.1, .d (.sl (.sl T_api_Ins)) p.2] none), (5, 0, .box 70 [.d .str x, .d (.int .i64) x1, .d (.sl (.int .i64)) x2] none)]⟩)
  | .l26 i => (26, ⟨mkTm 81 [(1, .pt 2 0 0), (6, .d (.int .i64) i)], [(2, 0, .box 27 [.d (.sl T_api_Sym) p.1, .d (.sl (.sl T_api_Ins)) p.2] none)]⟩)
theorem en_ref1_Check (p : El T_api_Prog) (L : Lt) : entryA Go.Proofs.Tryd.prog (clOf t_ref1_Check) tb_ref1_Check Go.Proofs.Tryd.f35 c_ref1_Check L (toForms sg_ref1_Check (p, ())) = (T0_ref1_Check p).run (fun v => some (R_ref1_Check v, tps (toForms sg_ref1_Check (p, ())))) fun j => L (S_ref1_Check p j).1 (S_ref1_Check p j).2 := by kernel_rfl
theorem lp_ref1_Check (p : El T_api_Prog) : ∀ (L : Lt) (j : J_ref1_Check), procOf (procsF Go.Proofs.Tryd.prog (clOf t_ref1_Check) tb_ref1_Check Go.Proofs.Tryd.f35 c_ref1_Check (toForms sg_ref1_Check (p, ()))) (S_ref1_Check p j).1 L (S_ref1_Check p j).2 = (T_ref1_Check p j).run (fun v => some (R_ref1_Check v, tps (toForms sg_ref1_Check (p, ())))) fun j => L (S_ref1_Check p j).1 (S_ref1_Check p j).2
  | L, .l6 i => by kernel_rfl
  | L, .l16 x x1 x2 i k => by kernel_rfl
  | L, .l26 i => by kernel_rfl
end Go.Ev
end

section
set_option linter.unusedSectionVars false
set_option linter.unusedVariables false
set_option linter.unusedSimpArgs false
set_option linter.unusedVariables false
set_option linter.unusedSimpArgs false
open Go
namespace Go.Ev
def v_ref1_Check (p : El T_api_Prog) : Int := checkC p
def k_ref1_Check (p : El T_api_Prog) : Bool := smallProg p
theorem g_ref1_Check (p : El T_api_Prog) (hk : k_ref1_Check p = true) : Goes (T_ref1_Check p) (T0_ref1_Check p) (v_ref1_Check p) := by
  have hth : ∀ t ∈ p.2, smallThread t = true := by
    unfold k_ref1_Check smallProg at hk
    simp only [Bool.and_eq_true, List.all_eq_true] at hk
    exact hk.2
  have hsy : ∀ s ∈ p.1, smallText s.1 = true := by
    unfold k_ref1_Check smallProg at hk
    simp only [Bool.and_eq_true, List.all_eq_true] at hk
    exact hk.1
  obtain ⟨sy, th⟩ := p
  dsimp only at hth hsy
  have ths : th.length ≤ 64 → ∀ k, k ≤ th.length → Goes (T_ref1_Check (sy, th)) (.jmp (.l26 (k : Int))) (thsC (sy, th) (th.drop k)) := by
    intro hn
    refine down ?_ fun k hk ih => ?_
    · rw [goes_jmp]
      simp only [T_ref1_Check, goes_br, lt_len_not (Nat.lt_irrefl _), goes_leaf, List.drop_length]
      simp [thsC]
    · have hkt : k_ref1_thread (sy, th) th[k] = true := hth _ (List.getElem_mem hk)
      rw [goes_jmp]
      simp only [T_ref1_Check, goes_br, lt_len hk, nng, Bool.and_self, if_true, Int.toNat_natCast, getD_lt hk, wrap_succ (k := k) (by omega), hkt]
      rw [drop_cons hk]
      unfold thsC
      show (if (threadC (sy, th) th[k] != 0) = true then _ else _)
      by_cases h : threadC (sy, th) th[k] = 0
      · rw [if_neg (by simp [h]), if_neg (by simp [h])]; exact ih
      · rw [if_pos (by simp [h]), if_pos h]; exact .leaf

  have main : sy.length ≤ 64 → th.length ≤ 64 → ∀ k, k ≤ sy.length → Goes (T_ref1_Check (sy, th)) (.jmp (.l6 (k : Int))) (symsC (thsC (sy, th) th) ((sy.take k).map fun s => s.1) (sy.drop k)) := by
    intro hn hm
    refine down ?_ fun k hk ih => ?_
    · rw [goes_jmp, List.drop_length]
      unfold symsC
      simp only [T_ref1_Check, goes_br, lt_len_not (Nat.lt_irrefl _)]
      rw [if_neg (by decide)]
      simpa using ths hm 0 (Nat.zero_le _)
    · have hkn : k_ref1_Right sy[k].1 = true := hsy _ (List.getElem_mem hk)
      have htk : (sy.take (k + 1)).map (fun s => s.1) = (sy.take k).map (fun s => s.1) ++ [sy[k].1] := by
        rw [List.take_add_one, List.getElem?_eq_getElem hk, List.map_append]; rfl
      rw [htk] at ih
      rw [goes_jmp]
      simp only [T_ref1_Check, goes_br, lt_len hk, nng, Bool.and_self, if_true, Int.toNat_natCast, getD_lt hk, hkn]
      rw [drop_cons hk]
      unfold symsC
      generalize sy[k] = s at ih hkn
      obtain ⟨nm, size, init⟩ := s
      dsimp only at ih hkn ⊢
      change Int at size
      by_cases h1 : nameRight nm = false
      · rw [if_pos h1, if_pos (by show (! nameRight nm) = true; rw [h1]; rfl)]; exact .leaf
      rw [if_neg h1, if_neg (by show ¬ (! nameRight nm) = true; simpa using h1)]
      have inner : ∀ j, j ≤ k → Goes (T_ref1_Check (sy, th)) (.jmp (.l16 nm size init (k : Int) (j : Int))) (if (((sy.take k).drop j).map (fun s => s.1)).contains nm = true then 6 else if size < (1 : Int) ∨ (64 : Int) < size ∨ size < (List.length init : Int) then 5 else symsC (thsC (sy, th) th) ((sy.take k).map (fun s => s.1) ++ [nm]) (sy.drop (k + 1))) := by
        refine down ?_ fun j hj ihj => ?_
        · rw [goes_jmp]
          have : (sy.take k).drop k = [] := List.drop_eq_nil_of_le (by rw [List.length_take]; omega)
          rw [this]
          simp only [T_ref1_Check, goes_br, wrap_succ (k := k) (by omega)]
          rw [if_neg (by simp)]
          simp only [List.map_nil, List.contains_nil, Bool.false_eq_true, if_false]
          by_cases h3 : size < 1
          · rw [if_pos (decide_eq_true h3), if_pos (.inl h3)]; exact .leaf
          rw [if_neg (by simpa using h3)]
          by_cases h4 : 64 < size
          · rw [if_pos (decide_eq_true h4), if_pos (.inr (.inl h4))]; exact .leaf
          rw [if_neg (by simpa using h4)]
          by_cases h5 : size < (List.length init : Int)
          · rw [if_pos (show decide (Int.ofNat (List.length init) > size) = true from decide_eq_true h5), if_pos (.inr (.inr h5))]; exact .leaf
          rw [if_neg (show ¬ decide (Int.ofNat (List.length init) > size) = true by simpa using h5), if_neg (by rintro (h | h | h) <;> contradiction)]
          exact ih
        · have hjs : j < sy.length := by omega
          have hjt : j < (sy.take k).length := by rw [List.length_take]; omega
          rw [goes_jmp, drop_cons hjt, List.map_cons, List.contains_cons, List.getElem_take]
          simp only [T_ref1_Check, goes_br, lt_len hjs, nng, Bool.and_self, if_true, Int.toNat_natCast, getD_lt hjs, wrap_succ (k := j) (by omega), eqB_iff]
          rw [if_pos (by simp; omega)]
          by_cases h2 : sy[j].1 = nm
          · rw [if_pos h2, if_pos (by rw [h2]; simp)]; exact .leaf
          · rw [if_neg h2, beq_false_of_ne (Ne.symm h2), Bool.false_or]; exact ihj
      simpa using inner 0 (Nat.zero_le _)
  unfold T0_ref1_Check v_ref1_Check checkC
  simp only [goes_br]
  by_cases h : 64 < sy.length
  · rw [if_pos (by simp; omega), if_pos (.inl h)]; exact .leaf
  rw [if_neg (by simp; omega)]
  by_cases h2 : 64 < th.length
  · rw [if_pos (by simp; omega), if_pos (.inr h2)]; exact .leaf
  rw [if_neg (by simp; omega), if_neg (by rintro (h | h) <;> contradiction)]
  exact main (by omega) (by omega) 0 (Nat.zero_le _)
end Go.Ev
end

section
set_option linter.unusedSectionVars false
set_option linter.unusedVariables false
set_option linter.unusedSimpArgs false
set_option maxRecDepth 100000
set_option linter.unusedVariables false
open Go Go.Ev
namespace Go.Ev
noncomputable def e_ref1_Check : Run := entG sg_ref1_Check R_ref1_Check (fun a => k_ref1_Check a.1) (fun a => v_ref1_Check a.1)
theorem ok_ref1_Check : EntOK Go.Proofs.Tryd.prog 35 e_ref1_Check := entG_ok (tb := tb_ref1_Check) (c := c_ref1_Check) tk_ref1_Check (by kernel_rfl) (by kernel_rfl) (by kernel_rfl) (fun a => by kernel_rfl) fun ⟨p, _⟩ hk => evF_goes (c := c_ref1_Check) (K := fun v => (R_ref1_Check v, tps (toForms sg_ref1_Check (p, ())))) (S := S_ref1_Check p) (by kernel_rfl) (en_ref1_Check p) (lp_ref1_Check p) (g_ref1_Check p hk)
end Go.Ev
end

section
set_option linter.unusedSectionVars false
set_option linter.unusedVariables false
set_option linter.unusedSimpArgs false
set_option maxRecDepth 100000
set_option linter.unusedVariables false
open Go Go.Ev
namespace Go.Ev
/-! ### paling/palingref1.CopyIns -/
def sg_ref1_CopyIns : Sig := [(true, T_api_Ins)]
noncomputable def t_ref1_CopyIns : Tbl := []
theorem tk_ref1_CopyIns : ∀ p ∈ t_ref1_CopyIns, EntOK Go.Proofs.Tryd.prog p.1 p.2 := tbl_nil
noncomputable def c_ref1_CopyIns : Code := Go.Proofs.Tryd.f45.body.getD .skip
def tb_ref1_CopyIns : Tb := []
def T_ref1_CopyIns (x : El T_api_Ins) : Empty → JT Empty (El T_api_Ins) := fun j => nomatch j
def T0_ref1_CopyIns (x : El T_api_Ins) : JT Empty (El T_api_Ins) :=
  .br (Nat.ble ((List.length x.2.2.2.2.2.2) * 16) limit)
    (.leaf x)
  (.no)
def u_ref1_CopyIns (x : El T_api_Ins) : El T_api_Ins :=
  bif (Nat.ble ((List.length x.2.2.2.2.2.2) * 16) limit) then
    x
  else ((0 : Int), (false, ((0 : Int), (((0 : Int), ((0 : Int), ((0 : Int), (0 : Int)))), (((0 : Int), ((0 : Int), ((0 : Int), (0 : Int)))), ((bs []), []))))))
def ku_ref1_CopyIns (x : El T_api_Ins) : Bool :=
  bif (Nat.ble ((List.length x.2.2.2.2.2.2) * 16) limit) then
    true
  else false
theorem gu_ref1_CopyIns (x : El T_api_Ins) (hk : ku_ref1_CopyIns x = true) : Goes (T_ref1_CopyIns x) (T0_ref1_CopyIns x) (u_ref1_CopyIns x) :=
  Goes.brk hk (fun hk =>
    Goes.leaf) (fun hk =>
    Goes.nok hk)
def R_ref1_CopyIns : El T_api_Ins → AV := fun (r : El T_api_Ins) => .ag [.d (.int .i64) r.1, .d .bool r.2.1, .d (.int .i64) r.2.2.1, .d (.int .i64) r.2.2.2.1.1, .d (.int .i64) r.2.2.2.1.2.1, .d (.int .i64) r.2.2.2.1.2.2.1, .d (.int .i64) r.2.2.2.1.2.2.2, .d (.int .i64) r.2.2.2.2.1.1, .d (.int .i64) r.2.2.2.2.1.2.1, .d (.int .i64) r.2.2.2.2.1.2.2.1, .d (.int .i64) r.2.2.2.2.1.2.2.2, .d .str r.2.2.2.2.2.1, .rw 9 .str r.2.2.2.2.2.2]
def S_ref1_CopyIns (x : El T_api_Ins) : Empty → Nat × St := fun j => nomatch j
theorem en_ref1_CopyIns (x : El T_api_Ins) (L : Lt) : entryA Go.Proofs.Tryd.prog (clOf t_ref1_CopyIns) tb_ref1_CopyIns Go.Proofs.Tryd.f45 c_ref1_CopyIns L (toForms sg_ref1_CopyIns (x, ())) = (T0_ref1_CopyIns x).run (fun v => some (R_ref1_CopyIns v, tps (toForms sg_ref1_CopyIns (x, ())))) fun j => L (S_ref1_CopyIns x j).1 (S_ref1_CopyIns x j).2 := by kernel_rfl
theorem lp_ref1_CopyIns (x : El T_api_Ins) : ∀ (L : Lt) (j : Empty), procOf (procsF Go.Proofs.Tryd.prog (clOf t_ref1_CopyIns) tb_ref1_CopyIns Go.Proofs.Tryd.f45 c_ref1_CopyIns (toForms sg_ref1_CopyIns (x, ()))) (S_ref1_CopyIns x j).1 L (S_ref1_CopyIns x j).2 = (T_ref1_CopyIns x j).run (fun v => some (R_ref1_CopyIns v, tps (toForms sg_ref1_CopyIns (x, ())))) fun j => L (S_ref1_CopyIns x j).1 (S_ref1_CopyIns x j).2 := fun L j => nomatch j
end Go.Ev
end

section
set_option linter.unusedSectionVars false
set_option linter.unusedVariables false
set_option linter.unusedSimpArgs false
set_option linter.unusedVariables false
set_option linter.unusedSimpArgs false
open Go
namespace Go.Ev

def v_ref1_CopyIns (x : El T_api_Ins) : El T_api_Ins := x
def k_ref1_CopyIns (x : El T_api_Ins) : Bool := decide (x.2.2.2.2.2.2.length < 549755813888)
theorem g_ref1_CopyIns (x : El T_api_Ins) (hk : k_ref1_CopyIns x = true) : Goes (T_ref1_CopyIns x) (T0_ref1_CopyIns x) (v_ref1_CopyIns x) := by
  have hn : x.2.2.2.2.2.2.length < 549755813888 := of_decide_eq_true hk
  have h : Nat.ble (x.2.2.2.2.2.2.length * 16) limit = true := by
    apply Nat.ble_eq_true_of_le; unfold limit; omega
  have := gu_ref1_CopyIns x (by unfold ku_ref1_CopyIns; rw [h]; rfl)
  unfold u_ref1_CopyIns at this
  rw [h] at this
  exact this

end Go.Ev
end

section
set_option linter.unusedSectionVars false
set_option linter.unusedVariables false
set_option linter.unusedSimpArgs false
set_option maxRecDepth 100000
set_option linter.unusedVariables false
open Go Go.Ev
namespace Go.Ev
noncomputable def e_ref1_CopyIns : Run := entG sg_ref1_CopyIns R_ref1_CopyIns (fun a => k_ref1_CopyIns a.1) (fun a => v_ref1_CopyIns a.1)
theorem ok_ref1_CopyIns : EntOK Go.Proofs.Tryd.prog 45 e_ref1_CopyIns := entG_ok (tb := tb_ref1_CopyIns) (c := c_ref1_CopyIns) tk_ref1_CopyIns (by kernel_rfl) (by kernel_rfl) (by kernel_rfl) (fun a => by kernel_rfl) fun ⟨x, _⟩ hk => evF_goes (c := c_ref1_CopyIns) (K := fun v => (R_ref1_CopyIns v, tps (toForms sg_ref1_CopyIns (x, ())))) (S := S_ref1_CopyIns x) (by kernel_rfl) (en_ref1_CopyIns x) (lp_ref1_CopyIns x) (g_ref1_CopyIns x hk)
end Go.Ev
end

section
set_option linter.unusedSectionVars false
set_option linter.unusedVariables false
set_option linter.unusedSimpArgs false
set_option maxRecDepth 100000
set_option linter.unusedVariables false
open Go Go.Ev
namespace Go.Ev
/-! ### paling/palingref1.CopyProg -/
def sg_ref1_CopyProg : Sig := [(true, T_api_Prog)]
noncomputable def t_ref1_CopyProg : Tbl := [(45, e_ref1_CopyIns)]
theorem tk_ref1_CopyProg : ∀ p ∈ t_ref1_CopyProg, EntOK Go.Proofs.Tryd.prog p.1 p.2 := tbl_cons ok_ref1_CopyIns (tbl_nil)
noncomputable def c_ref1_CopyProg : Code := Go.Proofs.Tryd.f43.body.getD .skip
def tb_ref1_CopyProg : Tb := [(4, ⟨[1, 2, 3, 4], [(4097, 48)]⟩), (12, ⟨[1, 2, 3, 6], [(4098, 50)]⟩), (19, ⟨[1, 2, 3, 6, 7, 8], [(8193, 112)]⟩)]
inductive J_ref1_CopyProg where
  | l4 (i : Int) (q : List (El T_api_Sym))
  | l12 (q : List (El T_api_Sym)) (i : Int) (q1 : List (List (El T_api_Ins)))
  | l19 (q : List (El T_api_Sym)) (k : Int) (t : List (El T_api_Ins)) (i : Int) (q1 : List (List (El T_api_Ins)))
def T_ref1_CopyProg (p : El T_api_Prog) : J_ref1_CopyProg → JT J_ref1_CopyProg (El T_api_Prog)
  | .l4 i q =>
    .br (decide (i < (Int.ofNat (List.length p.1))))
      (.br ((decide ((0 : Int) ≤ i)) && (decide (i < (Int.ofNat (List.length p.1)))))
        (.br (Nat.ble ((List.length (List.getD p.1 (Int.toNat i) (dflt T_api_Sym)).2.2) * 8) limit)
          (.br (Nat.ble (((List.length q) + 1) * 48) limit)
            (.jmp (.l4 (IntKind.i64.wrap (i + (1 : Int))) (q ++ [(List.getD p.1 (Int.toNat i) (dflt T_api_Sym))])))
          (.no))
        (.no))
      (.no))
    (.jmp (.l12 q (0 : Int) []))
  | .l12 q i q1 =>
    .br (decide (i < (Int.ofNat (List.length p.2))))
      (.jmp (.l19 q (0 : Int) [] i q1))
    (.leaf (q, q1))
  | .l19 q k t i q1 =>
    .br ((decide ((0 : Int) ≤ i)) && (decide (i < (Int.ofNat (List.length p.2)))))
      (.br (decide (k < (Int.ofNat (List.length (List.getD p.2 (Int.toNat i) (dflt (.sl T_api_Ins)))))))
        (.br ((decide ((0 : Int) ≤ i)) && (decide (i < (Int.ofNat (List.length p.2)))))
          (.br ((decide ((0 : Int) ≤ k)) && (decide (k < (Int.ofNat (List.length (List.getD p.2 (Int.toNat i) (dflt (.sl T_api_Ins))))))))
            (.br (k_ref1_CopyIns (List.getD (List.getD p.2 (Int.toNat i) (dflt (.sl T_api_Ins))) (Int.toNat k) (dflt T_api_Ins)))
              (.br (Nat.ble (((List.length t) + 1) * 128) limit)
                (.jmp (.l19 q (IntKind.i64.wrap (k + (1 : Int))) (t ++ [(v_ref1_CopyIns (List.getD (List.getD p.2 (Int.toNat i) (dflt (.sl T_api_Ins))) (Int.toNat k) (dflt T_api_Ins)))]) i q1))
              (.no))
            (.no))
          (.no))
        (.no))
      (.br (Nat.ble (((List.length q1) + 1) * 24) limit)
        (.jmp (.l12 q (IntKind.i64.wrap (i + (1 : Int))) (q1 ++ [t])))
      (.no)))
    (.no)
def T0_ref1_CopyProg (p : El T_api_Prog) : JT J_ref1_CopyProg (El T_api_Prog) :=
  .jmp (.l4 (0 : Int) [])
def R_ref1_CopyProg : El T_api_Prog → AV := fun (r : El T_api_Prog) => .ag [.rw 70 T_api_Sym r.1, .rw 58 (.sl T_api_Ins) r.2]
def S_ref1_CopyProg (p : El T_api_Prog) : J_ref1_CopyProg → Nat × St
  | .l4 i q => (4, ⟨mkTm 71 [(1, .pt 2 0 0), (2, .pt 3 0 0), (3, .pt 4 0 0), (4, .d (.int .i64) i)], [(2, 0, .box 27 [.d (.sl T_api_Sym) p.1, .d (.sl (.sl T_api_Ins)) p.2] none), (3, 0, .box 27 [.nil, .nil] none), (4, 0, .box 27 [.own 4097 0 none, .nil] none), (4097, 0, .row 70 T_api_Sym q false)]⟩)
  | .l12 q i q1 => (12, ⟨mkTm 71 [(1, .pt 2 0 0), (2, .pt 3 0 0), (3, .pt 4 0 0), (6, .d (.int .i64) i)], [(2, 0, .box 27 [.d (.sl T_api_Sym) p.1, .d (.sl (.sl T_api_Ins)) p.2] none), (3, 0, .box 27 [.nil, .nil] none), (4, 0, .box 27 [.own 4097 0 none, .own 4098 0 none] none), (4097, 0, .row 70 T_api_Sym q false), (4098, 0, .row 58 (.sl T_api_Ins) q1 false)]⟩)
  | .l19 q k t i q1 => (19, ⟨mkTm 71 [(1, .pt 2 0 0), (2, .pt 3 0 0), (3, .pt 4 0 0), (6, .d (.int .i64) i), (7, .pt 8 0 0), (8, .d (.int .i64) k)], [(2, 0, .box 27 [.d (.sl T_api_Sym) p.1, .d (.sl (.sl T_api_Ins)) p.2] none), (3, 0, .box 27 [.nil, .nil] none), (4, 0, .box 27 [.own 4097 0 none, .own 4098 0 none] none), (8, 0, .box 58 [.own 8193 0 none] none), (4097, 0, .row 70 T_api_Sym q false), (4098, 0, .row 58 (.sl T_api_Ins) q1 false), (8193, 0, .row 63 T_api_Ins t false)]⟩)
theorem en_ref1_CopyProg (p : El T_api_Prog) (L : Lt) : entryA Go.Proofs.Tryd.prog (clOf t_ref1_CopyProg) tb_ref1_CopyProg Go.Proofs.Tryd.f43 c_ref1_CopyProg L (toForms sg_ref1_CopyProg (p, ())) = (T0_ref1_CopyProg p).run (fun v => some (R_ref1_CopyProg v, tps (toForms sg_ref1_CopyProg (p, ())))) fun j => L (S_ref1_CopyProg p j).1 (S_ref1_CopyProg p j).2 := by kernel_rfl
theorem lp_ref1_CopyProg (p : El T_api_Prog) : ∀ (L : Lt) (j : J_ref1_CopyProg), procOf (procsF Go.Proofs.Tryd.prog (clOf t_ref1_CopyProg) tb_ref1_CopyProg Go.Proofs.Tryd.f43 c_ref1_CopyProg (toForms sg_ref1_CopyProg (p, ()))) (S_ref1_CopyProg p j).1 L (S_ref1_CopyProg p j).2 = (T_ref1_CopyProg p j).run (fun v => some (R_ref1_CopyProg v, tps (toForms sg_ref1_CopyProg (p, ())))) fun j => L (S_ref1_CopyProg p j).1 (S_ref1_CopyProg p j).2
  | L, .l4 i q => by kernel_rfl
  | L, .l12 q i q1 => by kernel_rfl
  | L, .l19 q k t i q1 => by kernel_rfl
end Go.Ev
end

section
set_option linter.unusedSectionVars false
set_option linter.unusedVariables false
set_option linter.unusedSimpArgs false
set_option linter.unusedVariables false
set_option linter.unusedSimpArgs false
open Go
namespace Go.Ev
def v_ref1_CopyProg (p : El T_api_Prog) : El T_api_Prog := p
def k_ref1_CopyProg (p : El T_api_Prog) : Bool := copyB p
theorem g_ref1_CopyProg (p : El T_api_Prog) (hk : k_ref1_CopyProg p = true) : Goes (T_ref1_CopyProg p) (T0_ref1_CopyProg p) (v_ref1_CopyProg p) := by
  have hC := copyOK hk
  have h1 := hC.syms
  have h2 := hC.thr
  have l12 : ∀ k, k ≤ p.2.length → Goes (T_ref1_CopyProg p) (.jmp (.l12 p.1 (k : Int) (p.2.take k))) p := by
    refine down ?_ fun k hk ih => ?_
    · rw [goes_jmp]
      simp only [T_ref1_CopyProg, goes_br, lt_len_not (Nat.lt_irrefl _), List.take_length, if_false, Bool.false_eq_true]
      exact .leaf
    · obtain ⟨t, ht⟩ : ∃ t, p.2[k] = t := ⟨_, rfl⟩
      have hm : t ∈ p.2 := by rw [← ht]; exact List.getElem_mem hk
      have hl := hC.len t hm
      have l19 : ∀ j, j ≤ List.length t → Goes (T_ref1_CopyProg p) (.jmp (.l19 p.1 (j : Int) (List.take j t) (k : Int) (p.2.take k))) p := by
        refine down ?_ fun j hj ihj => ?_
        · have b : Nat.ble (((p.2.take k).length + 1) * 24) limit = true := bleN (by rw [List.length_take]; unfold limit; omega)
          rw [goes_jmp]
          simp only [T_ref1_CopyProg, goes_br, lt_len hk, nng, Bool.and_self, Int.toNat_natCast, getD_lt hk, ht, lt_len_not (Nat.lt_irrefl _), b, if_true, if_false, Bool.false_eq_true, wrap_succ (k := k) (by omega), List.take_length]
          rw [← ht, ← List.take_succ_eq_append_getElem hk]
          exact ih
        · have hb := hC.lab t hm _ (List.getElem_mem hj)
          have kI : k_ref1_CopyIns t[j] = true := decide_eq_true (by omega)
          have vI : v_ref1_CopyIns t[j] = t[j] := rfl
          have b2 : Nat.ble (((List.take j t).length + 1) * 128) limit = true := bleN (by rw [List.length_take]; unfold limit; omega)
          rw [goes_jmp]
          simp only [T_ref1_CopyProg, goes_br, lt_len hk, getD_lt hk, ht, lt_len hj, nng, Bool.and_self, if_true, Int.toNat_natCast, getD_lt hj, kI, vI, b2, wrap_succ (k := j) (by omega)]
          rw [← List.take_succ_eq_append_getElem hj]
          exact ihj
      rw [goes_jmp]
      simp only [T_ref1_CopyProg, goes_br, lt_len hk, if_true]
      exact l19 0 (Nat.zero_le _)
  have l4 : ∀ k, k ≤ p.1.length → Goes (T_ref1_CopyProg p) (.jmp (.l4 (k : Int) (p.1.take k))) p := by
    refine down ?_ fun k hk ih => ?_
    · rw [goes_jmp]
      simp only [T_ref1_CopyProg, goes_br, lt_len_not (Nat.lt_irrefl _), List.take_length, if_false, Bool.false_eq_true]
      exact l12 0 (Nat.zero_le _)
    · have hi := hC.init _ (List.getElem_mem hk)
      have b1 : Nat.ble (List.length (p.1[k]).2.2 * 8) limit = true := bleN (by unfold limit; omega)
      have b2 : Nat.ble (((p.1.take k).length + 1) * 48) limit = true := bleN (by rw [List.length_take]; unfold limit; omega)
      rw [goes_jmp]
      simp only [T_ref1_CopyProg, goes_br, lt_len hk, nng, Bool.and_self, if_true, Int.toNat_natCast, getD_lt hk, b1, b2, wrap_succ (k := k) (by omega)]
      rw [← List.take_succ_eq_append_getElem hk]
      exact ih
  unfold T0_ref1_CopyProg v_ref1_CopyProg
  exact l4 0 (Nat.zero_le _)
end Go.Ev
end

section
set_option linter.unusedSectionVars false
set_option linter.unusedVariables false
set_option linter.unusedSimpArgs false
set_option maxRecDepth 100000
set_option linter.unusedVariables false
open Go Go.Ev
namespace Go.Ev
noncomputable def e_ref1_CopyProg : Run := entG sg_ref1_CopyProg R_ref1_CopyProg (fun a => k_ref1_CopyProg a.1) (fun a => v_ref1_CopyProg a.1)
theorem ok_ref1_CopyProg : EntOK Go.Proofs.Tryd.prog 43 e_ref1_CopyProg := entG_ok (tb := tb_ref1_CopyProg) (c := c_ref1_CopyProg) tk_ref1_CopyProg (by kernel_rfl) (by kernel_rfl) (by kernel_rfl) (fun a => by kernel_rfl) fun ⟨p, _⟩ hk => evF_goes (c := c_ref1_CopyProg) (K := fun v => (R_ref1_CopyProg v, tps (toForms sg_ref1_CopyProg (p, ())))) (S := S_ref1_CopyProg p) (by kernel_rfl) (en_ref1_CopyProg p) (lp_ref1_CopyProg p) (g_ref1_CopyProg p hk)
end Go.Ev
end

section
set_option linter.unusedSectionVars false
set_option linter.unusedVariables false
set_option linter.unusedSimpArgs false
set_option maxRecDepth 100000
set_option linter.unusedVariables false
open Go Go.Ev
namespace Go.Ev
/-! ### paling/palingref3.Rising -/
def sg_ref3_Rising : Sig := [(false, (.sl (.int .i64)))]
noncomputable def t_ref3_Rising : Tbl := []
theorem tk_ref3_Rising : ∀ p ∈ t_ref3_Rising, EntOK Go.Proofs.Tryd.prog p.1 p.2 := tbl_nil
noncomputable def c_ref3_Rising : Code := Go.Proofs.Tryd.f44.body.getD .skip
def tb_ref3_Rising : Tb := [(3, ⟨[0, 3], []⟩)]
inductive J_ref3_Rising where
  | l3 (i : Int)
def T_ref3_Rising (l : List Int) : J_ref3_Rising → JT J_ref3_Rising (Bool)
  | .l3 i =>
    .br (decide (i < (Int.ofNat (List.length l))))
      (.br ((decide ((0 : Int) ≤ i)) && (decide (i < (Int.ofNat (List.length l)))))
        (.br (decide ((List.getD l (Int.toNat i) (dflt (.int .i64))) < (0 : Int)))
          (.leaf false)
        (.br ((decide ((0 : Int) ≤ i)) && (decide (i < (Int.ofNat (List.length l)))))
          (.br (decide ((List.getD l (Int.toNat i) (dflt (.int .i64))) ≥ (2147483648 : Int)))
            (.leaf false)
          (.br (decide (i > (0 : Int)))
            (.br ((decide ((0 : Int) ≤ (IntKind.i64.wrap (i - (1 : Int))))) && (decide ((IntKind.i64.wrap (i - (1 : Int))) < (Int.ofNat (List.length l)))))
              (.br ((decide ((0 : Int) ≤ i)) && (decide (i < (Int.ofNat (List.length l)))))
                (.br (decide ((List.getD l (Int.toNat (IntKind.i64.wrap (i - (1 : Int)))) (dflt (.int .i64))) ≥ (List.getD l (Int.toNat i) (dflt (.int .i64)))))
                  (.leaf false)
                (.jmp (.l3 (IntKind.i64.wrap (i + (1 : Int))))))
              (.no))
            (.no))
          (.jmp (.l3 (IntKind.i64.wrap (i + (1 : Int)))))))
        (.no)))
      (.no))
    (.leaf true)
def T0_ref3_Rising (l : List Int) : JT J_ref3_Rising (Bool) :=
  .jmp (.l3 (0 : Int))
def R_ref3_Rising : Bool → AV := fun (r : Bool) => .d .bool r
def S_ref3_Rising (l : List Int) : J_ref3_Rising → Nat × St
  | .l3 i => (3, ⟨mkTm 38 [(0, .d (.sl (.int .i64)) l), (3, .d (.int .i64) i)], []⟩)
theorem en_ref3_Rising (l : List Int) (L : Lt) : entryA Go.Proofs.Tryd.prog (clOf t_ref3_Rising) tb_ref3_Rising Go.Proofs.Tryd.f44 c_ref3_Rising L (toForms sg_ref3_Rising (l, ())) = (T0_ref3_Rising l).run (fun v => some (R_ref3_Rising v, tps (toForms sg_ref3_Rising (l, ())))) fun j => L (S_ref3_Rising l j).1 (S_ref3_Rising l j).2 := by kernel_rfl
theorem lp_ref3_Rising (l : List Int) : ∀ (L : Lt) (j : J_ref3_Rising), procOf (procsF Go.Proofs.Tryd.prog (clOf t_ref3_Rising) tb_ref3_Rising Go.Proofs.Tryd.f44 c_ref3_Rising (toForms sg_ref3_Rising (l, ()))) (S_ref3_Rising l j).1 L (S_ref3_Rising l j).2 = (T_ref3_Rising l j).run (fun v => some (R_ref3_Rising v, tps (toForms sg_ref3_Rising (l, ())))) fun j => L (S_ref3_Rising l j).1 (S_ref3_Rising l j).2
  | L, .l3 i => by kernel_rfl
end Go.Ev
end

section
set_option linter.unusedSectionVars false
set_option linter.unusedVariables false
set_option linter.unusedSimpArgs false
set_option linter.unusedVariables false
set_option linter.unusedSimpArgs false
open Go
namespace Go.Ev
def v_ref3_Rising (l : List Int) : Bool := rising l
def k_ref3_Rising (l : List Int) : Bool := decide (l.length < 4611686018427387904)
theorem g_ref3_Rising (l : List Int) (hk : k_ref3_Rising l = true) : Goes (T_ref3_Rising l) (T0_ref3_Rising l) (v_ref3_Rising l) := by
  have hn : l.length < 4611686018427387904 := of_decide_eq_true hk
  have loop : ∀ k, k ≤ l.length → ∀ p : Int, (0 < k → l[k - 1]? = some p) → (k = 0 → p = -1) → Goes (T_ref3_Rising l) (.jmp (.l3 (k : Int))) (risingFrom p (l.drop k)) := by
    refine down ?_ fun k hk ih => ?_
    · intro p hp hp0
      rw [goes_jmp]
      simp only [T_ref3_Rising, goes_br, lt_len_not (Nat.lt_irrefl _), List.drop_length]
      exact .leaf
    · intro p hp hp0
      rw [goes_jmp, drop_cons hk]
      have nx : Goes (T_ref3_Rising l) (.jmp (.l3 ((k + 1 : Nat) : Int))) (risingFrom l[k] (l.drop (k + 1))) := ih l[k] (fun _ => by simp) (fun h => by omega)
      obtain ⟨n, hn'⟩ : ∃ n : Int, l[k] = n := ⟨_, rfl⟩
      rw [hn'] at nx ⊢
      unfold risingFrom
      by_cases h0 : k = 0
      · subst h0
        have e0 : decide (((0 : Nat) : Int) > 0) = false := by decide
        have hp1 := hp0 rfl
        simp only [T_ref3_Rising, goes_br, lt_len hk, nng, Bool.and_self, if_true, Int.toNat_natCast, getD_lt hk, hn', wrap_succ (k := 0) (by omega), e0]
        by_cases h1 : n < 0
        · rw [if_pos (decide_eq_true h1), if_pos (by omega)]; exact .leaf
        · rw [if_neg (by simpa using h1)]
          by_cases h2 : 2147483647 < n
          · rw [if_pos (decide_eq_true (by omega)), if_pos (by omega)]; exact .leaf
          · rw [if_neg (by simp; omega), if_neg (by decide), if_neg (by omega)]; simpa using nx
      · have e0 : decide ((k : Int) > 0) = true := decide_eq_true (by omega)
        have hk1 : k - 1 < l.length := by omega
        have hpv : l[k - 1] = p := by
          have := hp (by omega)
          rw [List.getElem?_eq_getElem hk1] at this
          exact Option.some.inj this
        simp only [T_ref3_Rising, goes_br, lt_len hk, nng, Bool.and_self, if_true, Int.toNat_natCast, getD_lt hk, hn', wrap_succ (k := k) (by omega), wrap_pred (k := k) (by omega) (by omega), lt_len hk1, getD_lt hk1, hpv, e0]
        by_cases h1 : n < 0
        · rw [if_pos (decide_eq_true h1), if_pos (by omega)]; exact .leaf
        · rw [if_neg (by simpa using h1)]
          by_cases h2 : 2147483647 < n
          · rw [if_pos (decide_eq_true (by omega)), if_pos (by omega)]; exact .leaf
          · rw [if_neg (by simp; omega)]
            by_cases h3 : n ≤ p
            · rw [if_pos (decide_eq_true (by omega)), if_pos (by omega)]; exact .leaf
            · rw [if_neg (by simp; omega), if_neg (by omega)]; exact nx
  have := loop 0 (Nat.zero_le _) (-1) (fun h => by omega) (fun _ => rfl)
  unfold T0_ref3_Rising v_ref3_Rising rising
  simpa using this
end Go.Ev
end

section
set_option linter.unusedSectionVars false
set_option linter.unusedVariables false
set_option linter.unusedSimpArgs false
set_option maxRecDepth 100000
set_option linter.unusedVariables false
open Go Go.Ev
namespace Go.Ev
noncomputable def e_ref3_Rising : Run := entG sg_ref3_Rising R_ref3_Rising (fun a => k_ref3_Rising a.1) (fun a => v_ref3_Rising a.1)
theorem ok_ref3_Rising : EntOK Go.Proofs.Tryd.prog 44 e_ref3_Rising := entG_ok (tb := tb_ref3_Rising) (c := c_ref3_Rising) tk_ref3_Rising (by kernel_rfl) (by kernel_rfl) (by kernel_rfl) (fun a => by kernel_rfl) fun ⟨l, _⟩ hk => evF_goes (c := c_ref3_Rising) (K := fun v => (R_ref3_Rising v, tps (toForms sg_ref3_Rising (l, ())))) (S := S_ref3_Rising l) (by kernel_rfl) (en_ref3_Rising l) (lp_ref3_Rising l) (g_ref3_Rising l hk)
end Go.Ev
end

section
set_option linter.unusedSectionVars false
set_option linter.unusedVariables false
set_option linter.unusedSimpArgs false
set_option maxRecDepth 100000
set_option linter.unusedVariables false
open Go Go.Ev
namespace Go.Ev
/-! ### paling/palingref3.In -/
def sg_ref3_In : Sig := [(false, (.sl (.int .i64))), (false, (.int .i64))]
noncomputable def t_ref3_In : Tbl := []
theorem tk_ref3_In : ∀ p ∈ t_ref3_In, EntOK Go.Proofs.Tryd.prog p.1 p.2 := tbl_nil
noncomputable def c_ref3_In : Code := Go.Proofs.Tryd.f27.body.getD .skip
def tb_ref3_In : Tb := [(3, ⟨[0, 1, 5], []⟩)]
inductive J_ref3_In where
  | l3 (i : Int)
def T_ref3_In (l : List Int) (n : Int) : J_ref3_In → JT J_ref3_In (Bool)
  | .l3 i =>
    .br (decide (i < (Int.ofNat (List.length l))))
      (.br ((decide ((0 : Int) ≤ i)) && (decide (i < (Int.ofNat (List.length l)))))
        (.br ((List.getD l (Int.toNat i) (dflt (.int .i64))) == n)
          (.leaf true)
        (.jmp (.l3 (IntKind.i64.wrap (i + (1 : Int))))))
      (.no))
    (.leaf false)
def T0_ref3_In (l : List Int) (n : Int) : JT J_ref3_In (Bool) :=
  .jmp (.l3 (0 : Int))
def R_ref3_In : Bool → AV := fun (r : Bool) => .d .bool r
def S_ref3_In (l : List Int) (n : Int) : J_ref3_In → Nat × St
  | .l3 i => (3, ⟨mkTm 18 [(0, .d (.sl (.int .i64)) l), (1, .d (.int .i64) n), (5, .d (.int .i64) i)], []⟩)
theorem en_ref3_In (l : List Int) (n : Int) (L : Lt) : entryA Go.Proofs.Tryd.prog (clOf t_ref3_In) tb_ref3_In Go.Proofs.Tryd.f27 c_ref3_In L (toForms sg_ref3_In (l, n, ())) = (T0_ref3_In l n).run (fun v => some (R_ref3_In v, tps (toForms sg_ref3_In (l, n, ())))) fun j => L (S_ref3_In l n j).1 (S_ref3_In l n j).2 := by kernel_rfl
theorem lp_ref3_In (l : List Int) (n : Int) : ∀ (L : Lt) (j : J_ref3_In), procOf (procsF Go.Proofs.Tryd.prog (clOf t_ref3_In) tb_ref3_In Go.Proofs.Tryd.f27 c_ref3_In (toForms sg_ref3_In (l, n, ()))) (S_ref3_In l n j).1 L (S_ref3_In l n j).2 = (T_ref3_In l n j).run (fun v => some (R_ref3_In v, tps (toForms sg_ref3_In (l, n, ())))) fun j => L (S_ref3_In l n j).1 (S_ref3_In l n j).2
  | L, .l3 i => by kernel_rfl
end Go.Ev
end

section
set_option linter.unusedSectionVars false
set_option linter.unusedVariables false
set_option linter.unusedSimpArgs false
set_option linter.unusedVariables false
set_option linter.unusedSimpArgs false
open Go
namespace Go.Ev
def v_ref3_In (l : List Int) (n : Int) : Bool := l.contains n
def k_ref3_In (l : List Int) (n : Int) : Bool := decide (l.length < 4611686018427387904)
theorem g_ref3_In (l : List Int) (n : Int) (hk : k_ref3_In l n = true) : Goes (T_ref3_In l n) (T0_ref3_In l n) (v_ref3_In l n) := by
  have hn : l.length < 4611686018427387904 := of_decide_eq_true hk
  have loop : ∀ k, k ≤ l.length → Goes (T_ref3_In l n) (.jmp (.l3 (k : Int))) ((l.drop k).contains n) := by
    refine down ?_ fun k hk ih => ?_
    · rw [goes_jmp]
      simp only [T_ref3_In, goes_br, lt_len_not (Nat.lt_irrefl _), goes_leaf, List.drop_length]
      simp
    · rw [goes_jmp]
      simp only [T_ref3_In, goes_br, lt_len hk, nng, Bool.and_self, if_true, Int.toNat_natCast, getD_lt hk, wrap_succ (k := k) (by omega)]
      rw [drop_cons hk, List.contains_cons]
      cases h : (l[k] == n) with
      | true =>
        have : (n == l[k]) = true := by simp at h ⊢; exact h.symm
        rw [this]; simp [goes_leaf]
      | false =>
        have : (n == l[k]) = false := by simp at h ⊢; exact fun e => h e.symm
        rw [this]; simpa using ih
  unfold T0_ref3_In v_ref3_In
  simpa using loop 0 (Nat.zero_le _)
end Go.Ev
end

section
set_option linter.unusedSectionVars false
set_option linter.unusedVariables false
set_option linter.unusedSimpArgs false
set_option maxRecDepth 100000
set_option linter.unusedVariables false
open Go Go.Ev
namespace Go.Ev
noncomputable def e_ref3_In : Run := entG sg_ref3_In R_ref3_In (fun a => k_ref3_In a.1 a.2.1) (fun a => v_ref3_In a.1 a.2.1)
theorem ok_ref3_In : EntOK Go.Proofs.Tryd.prog 27 e_ref3_In := entG_ok (tb := tb_ref3_In) (c := c_ref3_In) tk_ref3_In (by kernel_rfl) (by kernel_rfl) (by kernel_rfl) (fun a => by kernel_rfl) fun ⟨l, n, _⟩ hk => evF_goes (c := c_ref3_In) (K := fun v => (R_ref3_In v, tps (toForms sg_ref3_In (l, n, ())))) (S := S_ref3_In l n) (by kernel_rfl) (en_ref3_In l n) (lp_ref3_In l n) (g_ref3_In l n hk)
end Go.Ev
end

section
set_option linter.unusedSectionVars false
set_option linter.unusedVariables false
set_option linter.unusedSimpArgs false
set_option maxRecDepth 100000
set_option linter.unusedVariables false
open Go Go.Ev
namespace Go.Ev
/-! ### paling/palingref3.Unweave -/
def sg_ref3_Unweave : Sig := [(true, T_api_Prog), (false, (.sl (.sl (.int .i64))))]
noncomputable def t_ref3_Unweave : Tbl := [(35, e_ref1_Check), (43, e_ref1_CopyProg), (44, e_ref3_Rising), (27, e_ref3_In)]
theorem tk_ref3_Unweave : ∀ p ∈ t_ref3_Unweave, EntOK Go.Proofs.Tryd.prog p.1 p.2 := tbl_cons ok_ref1_Check (tbl_cons ok_ref1_CopyProg (tbl_cons ok_ref3_Rising (tbl_cons ok_ref3_In (tbl_nil))))
noncomputable def c_ref3_Unweave : Code := Go.Proofs.Tryd.f34.body.getD .skip
def tb_ref3_Unweave : Tb := [(7, ⟨[1, 2, 4, 6, 7], []⟩), (17, ⟨[1, 2, 4, 6, 7, 8, 9], []⟩), (27, ⟨[1, 2, 4, 6, 7, 8, 10, 11, 12], [(12, 122), (11, 112)]⟩), (hintK, ⟨[], [(1049601, 48), (1049602, 50)]⟩)]
inductive J_ref3_Unweave where
  | l7 (t : Int) (q : List (List (El T_api_Ins)))
  | l17 (l : List (El T_api_Ins)) (k : Int) (t : Int) (q : List (List (El T_api_Ins)))
  | l27 (l : List (El T_api_Ins)) (i : Int) (labels : List ByteArray) (out : List (El T_api_Ins)) (t : Int) (q : List (List (El T_api_Ins)))
def T_ref3_Unweave (p : El T_api_Prog) (fences : List (List Int)) : J_ref3_Unweave → JT J_ref3_Unweave ((El T_api_Prog) × Bool)
  | .l7 t q =>
    .br (decide (t < (Int.ofNat (List.length fences))))
      (.br ((decide ((0 : Int) ≤ t)) && (decide (t < (Int.ofNat (List.length p.2)))))
        (.br ((decide ((0 : Int) ≤ t)) && (decide (t < (Int.ofNat (List.length fences)))))
          (.br (k_ref3_Rising (List.getD fences (Int.toNat t) (dflt (.sl (.int .i64)))))
            (.br (! (v_ref3_Rising (List.getD fences (Int.toNat t) (dflt (.sl (.int .i64))))))
              (.leaf (([], []), false))
            (.jmp (.l17 (List.getD p.2 (Int.toNat t) (dflt (.sl T_api_Ins))) (0 : Int) t q)))
          (.no))
        (.no))
      (.no))
    (.leaf (((v_ref1_CopyProg p).1, q), true))
  | .l17 l k t q =>
    .br ((decide ((0 : Int) ≤ t)) && (decide (t < (Int.ofNat (List.length fences)))))
      (.br (decide (k < (Int.ofNat (List.length (List.getD fences (Int.toNat t) (dflt (.sl (.int .i64))))))))
        (.br ((decide ((0 : Int) ≤ t)) && (decide (t < (Int.ofNat (List.length fences)))))
          (.br ((decide ((0 : Int) ≤ k)) && (decide (k < (Int.ofNat (List.length (List.getD fences (Int.toNat t) (dflt (.sl (.int .i64)))))))))
            (.br (decide ((List.getD (List.getD fences (Int.toNat t) (dflt (.sl (.int .i64)))) (Int.toNat k) (dflt (.int .i64))) ≥ (Int.ofNat (List.length l))))
              (.leaf (([], []), false))
            (.br ((decide ((0 : Int) ≤ t)) && (decide (t < (Int.ofNat (List.length fences)))))
              (.br ((decide ((0 : Int) ≤ k)) && (decide (k < (Int.ofNat (List.length (List.getD fences (Int.toNat t) (dflt (.sl (.int .i64)))))))))
                (.br ((decide ((0 : Int) ≤ (List.getD (List.getD fences (Int.toNat t) (dflt (.sl (.int .i64)))) (Int.toNat k) (dflt (.int .i64))))) && (decide ((List.getD (List.getD fences (Int.toNat t) (dflt (.sl (.int .i64)))) (Int.toNat k) (dflt (.int .i64))) < (Int.ofNat (List.length l)))))
                  (.br ((List.getD l (Int.toNat (List.getD (List.getD fences (Int.toNat t) (dflt (.sl (.int .i64)))) (Int.toNat k) (dflt (.int .i64)))) (dflt T_api_Ins)).1 != (12 : Int))
                    (.leaf (([], []), false))
                  (.jmp (.l17 l (IntKind.i64.wrap (k + (1 : Int))) t q)))
                (.no))
              (.no))
            (.no)))
          (.no))
        (.no))
      (.jmp (.l27 l (0 : Int) [] [] t q)))
    (.no)
  | .l27 l i labels out t q =>
    .br (decide (i < (Int.ofNat (List.length l))))
      (.br ((decide ((0 : Int) ≤ i)) && (decide (i < (Int.ofNat (List.length l)))))
        (.br (Nat.ble (((List.length labels) + (List.length (List.getD l (Int.toNat i) (dflt T_api_Ins)).2.2.2.2.2.2)) * 16) limit)
          (.br ((decide ((0 : Int) ≤ t)) && (decide (t < (Int.ofNat (List.length fences)))))
            (.br (k_ref3_In (List.getD fences (Int.toNat t) (dflt (.sl (.int .i64)))) i)
              (.br (v_ref3_In (List.getD fences (Int.toNat t) (dflt (.sl (.int .i64)))) i)
                (.jmp (.l27 l (IntKind.i64.wrap (i + (1 : Int))) (labels ++ (List.getD l (Int.toNat i) (dflt T_api_Ins)).2.2.2.2.2.2) out t q))
              (.br ((decide ((0 : Int) ≤ i)) && (decide (i < (Int.ofNat (List.length l)))))
                (.br (Nat.ble ((List.length (labels ++ (List.getD l (Int.toNat i) (dflt T_api_Ins)).2.2.2.2.2.2)) * 16) limit)
                  (.br (Nat.ble (((List.length out) + 1) * 128) limit)
                    (.jmp (.l27 l (IntKind.i64.wrap (i + (1 : Int))) [] (out ++ [((List.getD l (Int.toNat i) (dflt T_api_Ins)).1, ((List.getD l (Int.toNat i) (dflt T_api_Ins)).2.1, ((List.getD l (Int.toNat i) (dflt T_api_Ins)).2.2.1, ((List.getD l (Int.toNat i) (dflt T_api_Ins)).2.2.2.1, ((List.getD l (Int.toNat i) (dflt T_api_Ins)).2.2.2.2.1, ((List.getD l (Int.toNat i) (dflt T_api_Ins)).2.2.2.2.2.1, (labels ++ (List.getD l (Int.toNat i) (dflt T_api_Ins)).2.2.2.2.2.2)))))))]) t q))
                  (.no))
                (.no))
              (.no)))
            (.no))
          (.no))
        (.no))
      (.no))
    (.br ((decide ((0 : Int) ≤ t)) && (decide (t < (Int.ofNat (List.length q)))))
      (.jmp (.l7 (IntKind.i64.wrap (t + (1 : Int))) (List.set q (Int.toNat t) out)))
    (.no))
def T0_ref3_Unweave (p : El T_api_Prog) (fences : List (List Int)) : JT J_ref3_Unweave ((El T_api_Prog) × Bool) :=
  .br (k_ref1_Check p)
    (.br ((v_ref1_Check p) != (0 : Int))
      (.leaf (([], []), false))
    (.br (decide ((Int.ofNat (List.length fences)) > (Int.ofNat (List.length p.2))))
      (.leaf (([], []), false))
    (.br (k_ref1_CopyProg p)
      (.jmp (.l7 (0 : Int) (v_ref1_CopyProg p).2))
    (.no))))
  (.no)
def R_ref3_Unweave : (El T_api_Prog) × Bool → AV := fun (r : (El T_api_Prog) × Bool) => .tu [.ag [.rw 70 T_api_Sym r.1.1, .rw 58 (.sl T_api_Ins) r.1.2], .d .bool r.2]
def S_ref3_Unweave (p : El T_api_Prog) (fences : List (List Int)) : J_ref3_Unweave → Nat × St
  | .l7 t q => (7, ⟨mkTm 118 [(1, .d (.sl (.sl (.int .i64))) fences), (2, .pt 3 0 0), (4, .pt 5 0 0), (6, .pt 7 0 0), (7, .d (.int .i64) t)], [(3, 0, .box 27 [.d (.sl T_api_Sym) p.1, .d (.sl (.sl T_api_Ins)) p.2] none), (5, 0, .box 27 [.nil, .nil] none), (7, 0, .box 27 [.own 7169 0 none, .own 7170 0 none] none), (7169, 0, .row 70 T_api_Sym (v_ref1_CopyProg p).1 false), (7170, 0, .row 58 (.sl T_api_Ins) q false)]⟩)
  | .l17 l k t q => (17, ⟨mkTm 118 [(1, .d (.sl (.sl (.int .i64))) fences), (2, .pt 3 0 0), (4, .pt 5 0 0), (6, .pt 7 0 0), (7, .d (.int .i64) t), (8, .d (.sl T_api_Ins) l), (9, .d (.int .i64) k)], [(3, 0, .box 27 [.d (.sl T_api_Sym) p.1, .d (.sl (.sl T_api_Ins)) p.2] none), (5, 0, .box 27 [.nil, .nil] none), (7, 0, .box 27 [.own 7169 0 none, .own 7170 0 none] none), (7169, 0, .row 70 T_api_Sym (v_ref1_CopyProg p).1 false), (7170, 0, .row 58 (.sl T_api_Ins) q false)]⟩)
  | .l27 l i labels out t q => (27, ⟨mkTm 118 [(1, .d (.sl (.sl (.int .i64))) fences), (2, .pt 3 0 0), (4, .pt 5 0 0), (6, .pt 7 0 0), (7, .d (.int .i64) t), (8, .d (.sl T_api_Ins) l), (10, .own 11 0 none), (11, .own 12 0 none), (12, .d (.int .i64) i)], [(3, 0, .box 27 [.d (.sl T_api_Sym) p.1, .d (.sl (.sl T_api_Ins)) p.2] none), (5, 0, .box 27 [.nil, .nil] none), (7, 0, .box 27 [.own 7169 0 none, .own 7170 0 none] none), (11, 0, .row 63 T_api_Ins out false), (12, 0, .row 9 .str labels false), (7169, 0, .row 70 T_api_Sym (v_ref1_CopyProg p).1 false), (7170, 0, .row 58 (.sl T_api_Ins) q false)]⟩)
theorem en_ref3_Unweave (p : El T_api_Prog) (fences : List (List Int)) (L : Lt) : entryA Go.Proofs.Tryd.prog (clOf t_ref3_Unweave) tb_ref3_Unweave Go.Proofs.Tryd.f34 c_ref3_Unweave L (toForms sg_ref3_Unweave (p, fences, ())) = (T0_ref3_Unweave p fences).run (fun v => some (R_ref3_Unweave v, tps (toForms sg_ref3_Unweave (p, fences, ())))) fun j => L (S_ref3_Unweave p fences j).1 (S_ref3_Unweave p fences j).2 := by kernel_rfl
theorem lp_ref3_Unweave (p : El T_api_Prog) (fences : List (List Int)) : ∀ (L : Lt) (j : J_ref3_Unweave), procOf (procsF Go.Proofs.Tryd.prog (clOf t_ref3_Unweave) tb_ref3_Unweave Go.Proofs.Tryd.f34 c_ref3_Unweave (toForms sg_ref3_Unweave (p, fences, ()))) (S_ref3_Unweave p fences j).1 L (S_ref3_Unweave p fences j).2 = (T_ref3_Unweave p fences j).run (fun v => some (R_ref3_Unweave v, tps (toForms sg_ref3_Unweave (p, fences, ())))) fun j => L (S_ref3_Unweave p fences j).1 (S_ref3_Unweave p fences j).2
  | L, .l7 t q => by kernel_rfl
  | L, .l17 l k t q => by kernel_rfl
  | L, .l27 l i labels out t q => by kernel_rfl
end Go.Ev
end

section
set_option linter.unusedSectionVars false
set_option linter.unusedVariables false
set_option linter.unusedSimpArgs false
set_option linter.unusedVariables false
set_option linter.unusedSimpArgs false
open Go
namespace Go.Ev
def v_ref3_Unweave (p : El T_api_Prog) (fences : List (List Int)) : (El T_api_Prog) × Bool := outC p fences
def k_ref3_Unweave (p : El T_api_Prog) (fences : List (List Int)) : Bool := smallProg p && (copyB p && fences.all fun l => decide (List.length l < 1099511627776))
theorem g_ref3_Unweave (p : El T_api_Prog) (points : List (List Int)) (hk : k_ref3_Unweave p points = true) : Goes (T_ref3_Unweave p points) (T0_ref3_Unweave p points) (v_ref3_Unweave p points) := by
  unfold k_ref3_Unweave at hk
  simp only [Bool.and_eq_true, List.all_eq_true, decide_eq_true_eq] at hk
  obtain ⟨hsm, hcp, hpl⟩ := hk
  have hC := copyOK hcp
  have hkc : k_ref1_Check p = true := hsm
  have hkC : k_ref1_CopyProg p = true := hcp
  have hvC : v_ref1_CopyProg p = p := rfl
  have hth := hC.thr
  have hsmall : ∀ x ∈ p.2, smallThread x = true := by
    unfold smallProg at hsm
    simp only [Bool.and_eq_true, List.all_eq_true] at hsm
    exact hsm.2
  obtain ⟨R, hR⟩ : ∃ R, outP points p.2 = R := ⟨_, rfl⟩
  have hRl : R.length = p.2.length := by rw [← hR]; exact outP_len points p.2
  have hRg : ∀ t (h : t < p.2.length), R[t]'(by omega) = outT (points.getD t []) 0 [] p.2[t] := fun t h => by
    have := outP_get points p.2 t h
    rw [hR, List.getElem?_eq_getElem (by omega)] at this
    exact Option.some.inj this
  have loop : points.length ≤ p.2.length → ∀ t, t ≤ points.length → Goes (T_ref3_Unweave p points) (.jmp (.l7 (t : Int) (R.take t ++ p.2.drop t))) (if okOuts (points.drop t) (p.2.drop t) then ((p.1, R), true) else (noProg, false)) := by
    intro hpt
    refine down ?_ fun t ht ih => ?_
    · rw [goes_jmp]
      simp only [T_ref3_Unweave, goes_br, lt_len_not (Nat.lt_irrefl _), if_false, Bool.false_eq_true, hvC, List.drop_length]
      rw [if_pos (by rfl)]
      have : R.take points.length ++ p.2.drop points.length = R := by
        apply List.ext_getElem
        · rw [mix_len hRl hpt, hRl]
        · intro i h1 h2
          by_cases hi : i < points.length
          · rw [List.getElem_append_left (by rw [List.length_take]; omega), List.getElem_take]
          · rw [List.getElem_append_right (by rw [List.length_take]; omega), List.getElem_drop, hRg i (by omega), List.getD_eq_getElem?_getD, List.getElem?_eq_none (by omega), Option.getD_none, outT_nil]
            congr 1
            rw [List.length_take]
            omega
      rw [this]
      exact .leaf
    · have htp : t < p.2.length := by omega
      have hL := hpl _ (List.getElem_mem ht)
      obtain ⟨l, hl⟩ : ∃ l, points[t] = l := ⟨_, rfl⟩
      rw [hl] at hL
      have hko : k_ref3_Rising l = true := decide_eq_true (by omega)
      have hvo : v_ref3_Rising l = rising l := rfl
      have hql := mix_len (k := t) hRl (by omega)
      have hqt : t < (R.take t ++ p.2.drop t).length := by omega
      obtain ⟨x, hx⟩ : ∃ x, p.2[t] = x := ⟨_, rfl⟩
      have hxm : x ∈ p.2 := by rw [← hx]; exact List.getElem_mem htp
      have hxl := hC.len x hxm
      have hxs := (smallT (hsmall x hxm)).labs
      have hset := mix_set hRl htp
      rw [hRg t htp, getD_lt ht, hl, hx] at hset
      have hI : ∀ k, k_ref3_In l k = true := fun k => decide_eq_true (by omega)
      have inner : Goes (T_ref3_Unweave p points) (.jmp (.l27 x 0 [] [] (t : Int) (R.take t ++ p.2.drop t))) (if okOuts (points.drop (t + 1)) (p.2.drop (t + 1)) then ((p.1, R), true) else (noProg, false)) := by
        have go : ∀ k, k ≤ List.length x → ∀ (ls : List ByteArray) (out : List (El T_api_Ins)), ls.length + (labels (List.drop k x)).length ≤ (labels x).length → out.length ≤ k → out ++ outT l k ls (List.drop k x) = outT l 0 [] x →
            Goes (T_ref3_Unweave p points) (.jmp (.l27 x (k : Int) ls out (t : Int) (R.take t ++ p.2.drop t))) (if okOuts (points.drop (t + 1)) (p.2.drop (t + 1)) then ((p.1, R), true) else (noProg, false)) := by
          refine down ?_ fun k hk ihk => ?_
          · intro ls out hls ho he
            rw [goes_jmp]
            simp only [T_ref3_Unweave, goes_br, lt_len_not (Nat.lt_irrefl _), if_false, Bool.false_eq_true, lt_len hqt, nng, Bool.and_self, if_true, Int.toNat_natCast, wrap_succ (k := t) (by omega)]
            rw [List.drop_length, show outT l (List.length x) ls [] = [] from rfl, List.append_nil] at he
            rw [he, hset]
            exact ih
          · intro ls out hls ho he
            rw [drop_cons hk] at he hls
            rw [labels_cons] at hls
            have b1 : Nat.ble ((out.length + 1) * 128) limit = true := bleN (by unfold limit; omega)
            have hlab : ls.length + List.length (x[k]).2.2.2.2.2.2 < 1099511627776 := by
              have e : (labsOf x[k]).length = List.length (x[k]).2.2.2.2.2.2 := rfl
              omega
            have b2 : Nat.ble ((ls.length + List.length (x[k]).2.2.2.2.2.2) * 16) limit = true := bleN (by unfold limit; omega)
            have b3 : Nat.ble ((List.length (ls ++ (x[k]).2.2.2.2.2.2)) * 16) limit = true := bleN (by rw [List.length_append]; unfold limit; omega)
            have hl1 : (ls ++ labsOf x[k]).length + (labels (List.drop (k + 1) x)).length ≤ (labels x).length := by rw [List.length_append]; omega
            have hl2 : ([] : List ByteArray).length + (labels (List.drop (k + 1) x)).length ≤ (labels x).length := by simp; omega
            have hc : v_ref3_In l (k : Int) = l.contains (k : Int) := rfl
            rw [outT] at he
            rw [goes_jmp]
            simp only [T_ref3_Unweave, goes_br, lt_len hk, lt_len ht, getD_lt ht, hl, nng, Bool.and_self, if_true, Int.toNat_natCast, getD_lt hk, hI, hc, b1, b2, b3, wrap_succ (k := k) (by omega)]
            split
            · rename_i hm
              rw [if_pos hm] at he
              exact ihk _ _ hl1 (by omega) he
            · rename_i hm
              rw [if_neg hm] at he
              exact ihk [] _ hl2 (by rw [List.length_append, List.length_singleton]; omega) (by rw [List.append_assoc]; exact he)
        exact go 0 (Nat.zero_le _) [] [] (by simp) (by simp) rfl
      rw [okOuts_drop ht htp, hl, hx, goes_jmp]
      by_cases hr : rising l = true
      · have hge := (rising_spec.1 hr).1
        have scan : ∀ j, j ≤ List.length l → Goes (T_ref3_Unweave p points) (.jmp (.l17 x (j : Int) (t : Int) (R.take t ++ p.2.drop t))) (if ((List.drop j l).all (fenceAt x) && okOuts (points.drop (t + 1)) (p.2.drop (t + 1))) then ((p.1, R), true) else (noProg, false)) := by
          refine down ?_ fun j hj ihj => ?_
          · rw [goes_jmp]
            simp only [T_ref3_Unweave, goes_br, lt_len ht, getD_lt ht, hl, nng, Bool.and_self, if_true, Int.toNat_natCast, lt_len_not (Nat.lt_irrefl _), if_false, Bool.false_eq_true, List.drop_length, List.all_nil, Bool.true_and]
            exact inner
          · have hg := hge _ (List.getElem_mem hj)
            obtain ⟨n, hn⟩ := Int.eq_ofNat_of_zero_le hg.1
            rw [drop_cons hj, List.all_cons, hn, goes_jmp]
            by_cases hlt : n < List.length x
            · have d1 : decide ((n : Int) ≥ Int.ofNat (List.length x)) = false := decide_eq_false (by simp; omega)
              have hf : fenceAt x (n : Int) = ((show Int from (x[n]).1) == 12) := by
                unfold fenceAt
                rw [decide_eq_true (by omega), Int.toNat_natCast, getD_lt hlt]; rfl
              simp only [T_ref3_Unweave, goes_br, lt_len ht, getD_lt ht, hl, lt_len hj, nng, Bool.and_self, if_true, Int.toNat_natCast, getD_lt hj, hn, d1, lt_len hlt, getD_lt hlt, if_false, Bool.false_eq_true, wrap_succ (k := j) (by omega), hf]
              unfold bne
              cases h12 : ((x[n]).1 == (12 : Int)) with
              | true =>
                rw [if_neg (by decide), Bool.true_and]
                exact ihj
              | false =>
                rw [if_pos (by decide), Bool.false_and, Bool.false_and, if_neg (by decide)]
                exact .leaf
            · have d1 : decide ((n : Int) ≥ Int.ofNat (List.length x)) = true := decide_eq_true (by simp; omega)
              have hf : fenceAt x (n : Int) = false := by
                unfold fenceAt
                rw [decide_eq_false (by omega), Bool.false_and]
              simp only [T_ref3_Unweave, goes_br, lt_len ht, getD_lt ht, hl, lt_len hj, nng, Bool.and_self, if_true, Int.toNat_natCast, getD_lt hj, hn, d1, hf, Bool.false_and, if_false, Bool.false_eq_true]
              exact .leaf
        simp only [T_ref3_Unweave, goes_br, lt_len ht, lt_len htp, getD_lt htp, hx, nng, Bool.and_self, if_true, Int.toNat_natCast, getD_lt ht, hl, hko, hvo, hr, Bool.not_true, if_false, Bool.false_eq_true, okOut, Bool.true_and]
        exact scan 0 (Nat.zero_le _)
      · have hr' : rising l = false := by simpa using hr
        simp only [T_ref3_Unweave, goes_br, lt_len ht, lt_len htp, nng, Bool.and_self, if_true, Int.toNat_natCast, getD_lt ht, hl, hko, hvo, hr', Bool.not_false, okOut, Bool.false_and, if_false, Bool.false_eq_true]
        exact .leaf
  unfold T0_ref3_Unweave v_ref3_Unweave outC
  simp only [goes_br, hkc, if_true, v_ref1_Check]
  by_cases hc : checkC p = 0
  · rw [if_neg (by simp [hc])]
    by_cases hp : p.2.length < points.length
    · rw [if_pos (by simp; omega), if_pos (.inr (.inl hp))]
      exact .leaf
    · rw [if_neg (by simp; omega), if_pos hkC]
      have := loop (by omega) 0 (Nat.zero_le _)
      rw [List.drop_zero, List.drop_zero, List.take_zero, List.nil_append] at this
      cases hok : okOuts points p.2 with
      | true =>
        rw [hok, if_pos rfl] at this
        rw [if_neg (by simp [hc]; omega), hR]
        exact this
      | false =>
        rw [hok, if_neg (by decide)] at this
        rw [if_pos (.inr (.inr rfl))]
        exact this
  · rw [if_pos (by simpa using hc), if_pos (.inl hc)]
    exact .leaf
end Go.Ev
end

section
set_option linter.unusedSectionVars false
set_option linter.unusedVariables false
set_option linter.unusedSimpArgs false
set_option maxRecDepth 100000
set_option linter.unusedVariables false
open Go Go.Ev
namespace Go.Ev
noncomputable def e_ref3_Unweave : Run := entG sg_ref3_Unweave R_ref3_Unweave (fun a => k_ref3_Unweave a.1 a.2.1) (fun a => v_ref3_Unweave a.1 a.2.1)
theorem ok_ref3_Unweave : EntOK Go.Proofs.Tryd.prog 34 e_ref3_Unweave := entG_ok (tb := tb_ref3_Unweave) (c := c_ref3_Unweave) tk_ref3_Unweave (by kernel_rfl) (by kernel_rfl) (by kernel_rfl) (fun a => by kernel_rfl) fun ⟨p, fences, _⟩ hk => evF_goes (c := c_ref3_Unweave) (K := fun v => (R_ref3_Unweave v, tps (toForms sg_ref3_Unweave (p, fences, ())))) (S := S_ref3_Unweave p fences) (by kernel_rfl) (en_ref3_Unweave p fences) (lp_ref3_Unweave p fences) (g_ref3_Unweave p fences hk)
end Go.Ev
end

section
set_option linter.unusedSectionVars false
set_option linter.unusedVariables false
set_option linter.unusedSimpArgs false
set_option maxRecDepth 100000
set_option linter.unusedVariables false
open Go Go.Ev
namespace Go.Ev
/-! ### paling/palingref3.Weave -/
def sg_ref3_Weave : Sig := [(true, T_api_Prog), (false, (.sl (.sl (.int .i64))))]
noncomputable def t_ref3_Weave : Tbl := [(35, e_ref1_Check), (43, e_ref1_CopyProg), (44, e_ref3_Rising), (45, e_ref1_CopyIns), (27, e_ref3_In)]
theorem tk_ref3_Weave : ∀ p ∈ t_ref3_Weave, EntOK Go.Proofs.Tryd.prog p.1 p.2 := tbl_cons ok_ref1_Check (tbl_cons ok_ref1_CopyProg (tbl_cons ok_ref3_Rising (tbl_cons ok_ref1_CopyIns (tbl_cons ok_ref3_In (tbl_nil)))))
noncomputable def c_ref3_Weave : Code := Go.Proofs.Tryd.f15.body.getD .skip
def tb_ref3_Weave : Tb := [(7, ⟨[1, 2, 4, 6, 7, 66], []⟩), (18, ⟨[1, 2, 4, 6, 7, 8, 9, 10, 51], [(10, 112)]⟩), (hintK, ⟨[], [(1049601, 48), (1049602, 50)]⟩)]
inductive J_ref3_Weave where
  | l7 (t : Int) (q : List (List (El T_api_Ins)))
  | l18 (l : List (El T_api_Ins)) (h : Bool) (i : Int) (out : List (El T_api_Ins)) (t : Int) (q : List (List (El T_api_Ins)))
def T_ref3_Weave (p : El T_api_Prog) (points : List (List Int)) : J_ref3_Weave → JT J_ref3_Weave ((El T_api_Prog) × Bool)
  | .l7 t q =>
    .br (decide (t < (Int.ofNat (List.length points))))
      (.br ((decide ((0 : Int) ≤ t)) && (decide (t < (Int.ofNat (List.length p.2)))))
        (.br ((decide ((0 : Int) ≤ t)) && (decide (t < (Int.ofNat (List.length points)))))
          (.br (k_ref3_Rising (List.getD points (Int.toNat t) (dflt (.sl (.int .i64)))))
            (.br (! (v_ref3_Rising (List.getD points (Int.toNat t) (dflt (.sl (.int .i64))))))
              (.leaf (([], []), false))
            (.br ((decide ((0 : Int) ≤ t)) && (decide (t < (Int.ofNat (List.length points)))))
              (.br (decide ((Int.ofNat (List.length (List.getD points (Int.toNat t) (dflt (.sl (.int .i64)))))) > (0 : Int)))
                (.br ((decide ((0 : Int) ≤ t)) && (decide (t < (Int.ofNat (List.length points)))))
                  (.br ((decide ((0 : Int) ≤ t)) && (decide (t < (Int.ofNat (List.length points)))))
                    (.br ((decide ((0 : Int) ≤ (IntKind.i64.wrap ((Int.ofNat (List.length (List.getD points (Int.toNat t) (dflt (.sl (.int .i64)))))) - (1 : Int))))) && (decide ((IntKind.i64.wrap ((Int.ofNat (List.length (List.getD points (Int.toNat t) (dflt (.sl (.int .i64)))))) - (1 : Int))) < (Int.ofNat (List.length (List.getD points (Int.toNat t) (dflt (.sl (.int .i64)))))))))
                      (.br (decide ((List.getD (List.getD points (Int.toNat t) (dflt (.sl (.int .i64)))) (Int.toNat (IntKind.i64.wrap ((Int.ofNat (List.length (List.getD points (Int.toNat t) (dflt (.sl (.int .i64)))))) - (1 : Int)))) (dflt (.int .i64))) ≥ (Int.ofNat (List.length (List.getD p.2 (Int.toNat t) (dflt (.sl T_api_Ins)))))))
                        (.leaf (([], []), false))
                      (.jmp (.l18 (List.getD p.2 (Int.toNat t) (dflt (.sl T_api_Ins))) true (0 : Int) [] t q)))
                    (.no))
                  (.no))
                (.no))
              (.jmp (.l18 (List.getD p.2 (Int.toNat t) (dflt (.sl T_api_Ins))) false (0 : Int) [] t q)))
            (.no)))
          (.no))
        (.no))
      (.no))
    (.leaf (((v_ref1_CopyProg p).1, q), true))
  | .l18 l h i out t q =>
    .br (decide (i < (Int.ofNat (List.length l))))
      (.br ((decide ((0 : Int) ≤ i)) && (decide (i < (Int.ofNat (List.length l)))))
        (.br (k_ref1_CopyIns (List.getD l (Int.toNat i) (dflt T_api_Ins)))
          (.br ((decide ((0 : Int) ≤ t)) && (decide (t < (Int.ofNat (List.length points)))))
            (.br (k_ref3_In (List.getD points (Int.toNat t) (dflt (.sl (.int .i64)))) i)
              (.br (v_ref3_In (List.getD points (Int.toNat t) (dflt (.sl (.int .i64)))) i)
                (.br (Nat.ble (((List.length out) + 1) * 128) limit)
                  (.br (Nat.ble (((List.length (out ++ [((12 : Int), (false, ((0 : Int), (((0 : Int), ((0 : Int), ((0 : Int), (0 : Int)))), (((0 : Int), ((0 : Int), ((0 : Int), (0 : Int)))), ((bs []), (v_ref1_CopyIns (List.getD l (Int.toNat i) (dflt T_api_Ins))).2.2.2.2.2.2))))))])) + 1) * 128) limit)
                    (.jmp (.l18 l h (IntKind.i64.wrap (i + (1 : Int))) ((out ++ [((12 : Int), (false, ((0 : Int), (((0 : Int), ((0 : Int), ((0 : Int), (0 : Int)))), (((0 : Int), ((0 : Int), ((0 : Int), (0 : Int)))), ((bs []), (v_ref1_CopyIns (List.getD l (Int.toNat i) (dflt T_api_Ins))).2.2.2.2.2.2))))))]) ++ [((v_ref1_CopyIns (List.getD l (Int.toNat i) (dflt T_api_Ins))).1, ((v_ref1_CopyIns (List.getD l (Int.toNat i) (dflt T_api_Ins))).2.1, ((v_ref1_CopyIns (List.getD l (Int.toNat i) (dflt T_api_Ins))).2.2.1, ((v_ref1_CopyIns (List.getD l (Int.toNat i) (dflt T_api_Ins))).2.2.2.1, ((v_ref1_CopyIns (List.getD l (Int.toNat i) (dflt T_api_Ins))).2.2.2.2.1, ((v_ref1_CopyIns (List.getD l (Int.toNat i) (dflt T_api_Ins))).2.2.2.2.2.1, []))))))]) t q))
                  (.no))
                (.no))
              (.br (Nat.ble (((List.length out) + 1) * 128) limit)
                (.jmp (.l18 l h (IntKind.i64.wrap (i + (1 : Int))) (out ++ [(v_ref1_CopyIns (List.getD l (Int.toNat i) (dflt T_api_Ins)))]) t q))
              (.no)))
            (.no))
          (.no))
        (.no))
      (.no))
    (.br ((decide ((0 : Int) ≤ t)) && (decide (t < (Int.ofNat (List.length q)))))
      (.jmp (.l7 (IntKind.i64.wrap (t + (1 : Int))) (List.set q (Int.toNat t) out)))
    (.no))
def T0_ref3_Weave (p : El T_api_Prog) (points : List (List Int)) : JT J_ref3_Weave ((El T_api_Prog) × Bool) :=
  .br (k_ref1_Check p)
    (.br ((v_ref1_Check p) != (0 : Int))
      (.leaf (([], []), false))
    (.br (decide ((Int.ofNat (List.length points)) > (Int.ofNat (List.length p.2))))
      (.leaf (([], []), false))
    (.br (k_ref1_CopyProg p)
      (.jmp (.l7 (0 : Int) (v_ref1_CopyProg p).2))
    (.no))))
  (.no)
def R_ref3_Weave : (El T_api_Prog) × Bool → AV := fun (r : (El T_api_Prog) × Bool) => .tu [.ag [.rw 70 T_api_Sym r.1.1, .rw 58 (.sl T_api_Ins) r.1.2], .d .bool r.2]
def S_ref3_Weave (p : El T_api_Prog) (points : List (List Int)) : J_ref3_Weave → Nat × St
  | .l7 t q => (7, ⟨mkTm 105 [(1, .d (.sl (.sl (.int .i64))) points), (2, .pt 3 0 0), (4, .pt 5 0 0), (6, .pt 7 0 0), (7, .d (.int .i64) t)], [(3, 0, .box 27 [.d (.sl T_api_Sym) p.1, .d (.sl (.sl T_api_Ins)) p.2] none), (5, 0, .box 27 [.nil, .nil] none), (7, 0, .box 27 [.own 7169 0 none, .own 7170 0 none] none), (7169, 0, .row 70 T_api_Sym (v_ref1_CopyProg p).1 false), (7170, 0, .row 58 (.sl T_api_Ins) q false)]⟩)
  | .l18 l h i out t q => (18, ⟨mkTm 105 [(1, .d (.sl (.sl (.int .i64))) points), (2, .pt 3 0 0), (4, .pt 5 0 0), (6, .pt 7 0 0), (7, .d (.int .i64) t), (8, .d (.sl T_api_Ins) l), (9, .own 10 0 none), (10, .d (.int .i64) i), (51, .d .bool h)], [(3, 0, .box 27 [.d (.sl T_api_Sym) p.1, .d (.sl (.sl T_api_Ins)) p.2] none), (5, 0, .box 27 [.nil, .nil] none), (7, 0, .box 27 [.own 7169 0 none, .own 7170 0 none] none), (10, 0, .row 63 T_api_Ins out false), (7169, 0, .row 70 T_api_Sym (v_ref1_CopyProg p).1 false), (7170, 0, .row 58 (.sl T_api_Ins) q false)]⟩)
theorem en_ref3_Weave (p : El T_api_Prog) (points : List (List Int)) (L : Lt) : entryA Go.Proofs.Tryd.prog (clOf t_ref3_Weave) tb_ref3_Weave Go.Proofs.Tryd.f15 c_ref3_Weave L (toForms sg_ref3_Weave (p, points, ())) = (T0_ref3_Weave p points).run (fun v => some (R_ref3_Weave v, tps (toForms sg_ref3_Weave (p, points, ())))) fun j => L (S_ref3_Weave p points j).1 (S_ref3_Weave p points j).2 := by kernel_rfl
theorem lp_ref3_Weave (p : El T_api_Prog) (points : List (List Int)) : ∀ (L : Lt) (j : J_ref3_Weave), procOf (procsF Go.Proofs.Tryd.prog (clOf t_ref3_Weave) tb_ref3_Weave Go.Proofs.Tryd.f15 c_ref3_Weave (toForms sg_ref3_Weave (p, points, ()))) (S_ref3_Weave p points j).1 L (S_ref3_Weave p points j).2 = (T_ref3_Weave p points j).run (fun v => some (R_ref3_Weave v, tps (toForms sg_ref3_Weave (p, points, ())))) fun j => L (S_ref3_Weave p points j).1 (S_ref3_Weave p points j).2
  | L, .l7 t q => by kernel_rfl
  | L, .l18 l h i out t q => by kernel_rfl
end Go.Ev
end

section
set_option linter.unusedSectionVars false
set_option linter.unusedVariables false
set_option linter.unusedSimpArgs false
set_option linter.unusedVariables false
set_option linter.unusedSimpArgs false
open Go
namespace Go.Ev
def v_ref3_Weave (p : El T_api_Prog) (points : List (List Int)) : (El T_api_Prog) × Bool := inC p points
def k_ref3_Weave (p : El T_api_Prog) (points : List (List Int)) : Bool := smallProg p && (copyB p && points.all fun l => decide (List.length l < 1099511627776))
theorem g_ref3_Weave (p : El T_api_Prog) (points : List (List Int)) (hk : k_ref3_Weave p points = true) : Goes (T_ref3_Weave p points) (T0_ref3_Weave p points) (v_ref3_Weave p points) := by
  unfold k_ref3_Weave at hk
  simp only [Bool.and_eq_true, List.all_eq_true, decide_eq_true_eq] at hk
  obtain ⟨hsm, hcp, hpl⟩ := hk
  have hC := copyOK hcp
  have hkc : k_ref1_Check p = true := hsm
  have hkC : k_ref1_CopyProg p = true := hcp
  have hvC : v_ref1_CopyProg p = p := rfl
  have hth := hC.thr
  obtain ⟨R, hR⟩ : ∃ R, laidP points p.2 = R := ⟨_, rfl⟩
  have hRl : R.length = p.2.length := by rw [← hR]; exact laidP_len points p.2
  have hRg : ∀ t (h : t < p.2.length), R[t]'(by omega) = laidT (points.getD t []) 0 p.2[t] := fun t h => by
    have := laidP_get points p.2 t h
    rw [hR, List.getElem?_eq_getElem (by omega)] at this
    exact Option.some.inj this
  have loop : points.length ≤ p.2.length → ∀ t, t ≤ points.length → Goes (T_ref3_Weave p points) (.jmp (.l7 (t : Int) (R.take t ++ p.2.drop t))) (if okAll (points.drop t) (p.2.drop t) then ((p.1, R), true) else (noProg, false)) := by
    intro hpt
    refine down ?_ fun t ht ih => ?_
    · rw [goes_jmp]
      simp only [T_ref3_Weave, goes_br, lt_len_not (Nat.lt_irrefl _), if_false, Bool.false_eq_true, hvC, List.drop_length]
      rw [if_pos (by rfl)]
      have : R.take points.length ++ p.2.drop points.length = R := by
        apply List.ext_getElem
        · rw [mix_len hRl hpt, hRl]
        · intro i h1 h2
          by_cases hi : i < points.length
          · rw [List.getElem_append_left (by rw [List.length_take]; omega), List.getElem_take]
          · rw [List.getElem_append_right (by rw [List.length_take]; omega), List.getElem_drop, hRg i (by omega), List.getD_eq_getElem?_getD, List.getElem?_eq_none (by omega), Option.getD_none, laidT_nil]
            congr 1
            rw [List.length_take]
            omega
      rw [this]
      exact .leaf
    · have htp : t < p.2.length := by omega
      have hL := hpl _ (List.getElem_mem ht)
      obtain ⟨l, hl⟩ : ∃ l, points[t] = l := ⟨_, rfl⟩
      rw [hl] at hL
      have hko : k_ref3_Rising l = true := decide_eq_true (by omega)
      have hvo : v_ref3_Rising l = rising l := rfl
      have hql := mix_len (k := t) hRl (by omega)
      have hqt : t < (R.take t ++ p.2.drop t).length := by omega
      obtain ⟨x, hx⟩ : ∃ x, p.2[t] = x := ⟨_, rfl⟩
      have hxm : x ∈ p.2 := by rw [← hx]; exact List.getElem_mem htp
      have hxl := hC.len x hxm
      have hset := mix_set hRl htp
      rw [hRg t htp, getD_lt ht, hl, hx] at hset
      have hI : ∀ k, k_ref3_In l k = true := fun k => decide_eq_true (by omega)
      have inner : ∀ h, Goes (T_ref3_Weave p points) (.jmp (.l18 x h 0 [] (t : Int) (R.take t ++ p.2.drop t))) (if okAll (points.drop (t + 1)) (p.2.drop (t + 1)) then ((p.1, R), true) else (noProg, false)) := by
        intro h
        have go : ∀ k, k ≤ List.length x → ∀ out : List (El T_api_Ins), out.length ≤ 2 * k → out ++ laidT l k (List.drop k x) = laidT l 0 x →
            Goes (T_ref3_Weave p points) (.jmp (.l18 x h (k : Int) out (t : Int) (R.take t ++ p.2.drop t))) (if okAll (points.drop (t + 1)) (p.2.drop (t + 1)) then ((p.1, R), true) else (noProg, false)) := by
          refine down ?_ fun k hk ihk => ?_
          · intro out ho he
            rw [goes_jmp]
            simp only [T_ref3_Weave, goes_br, lt_len_not (Nat.lt_irrefl _), if_false, Bool.false_eq_true, lt_len hqt, nng, Bool.and_self, if_true, Int.toNat_natCast, wrap_succ (k := t) (by omega)]
            rw [List.drop_length, show laidT l (List.length x) [] = [] from rfl, List.append_nil] at he
            rw [he, hset]
            exact ih
          · intro out ho he
            have b1 : Nat.ble ((out.length + 1) * 128) limit = true := bleN (by unfold limit; omega)
            have b2 : ∀ y : El T_api_Ins, Nat.ble (((out ++ [y]).length + 1) * 128) limit = true := fun y => bleN (by rw [List.length_append, List.length_singleton]; unfold limit; omega)
            have hlab := hC.lab x hxm _ (List.getElem_mem hk)
            have kI : k_ref1_CopyIns x[k] = true := decide_eq_true (by omega)
            have vI : v_ref1_CopyIns x[k] = x[k] := rfl
            have hc : v_ref3_In l (k : Int) = l.contains (k : Int) := rfl
            rw [drop_cons hk] at he
            rw [laidT] at he
            rw [goes_jmp]
            simp only [T_ref3_Weave, goes_br, lt_len hk, lt_len ht, getD_lt ht, hl, nng, Bool.and_self, if_true, Int.toNat_natCast, getD_lt hk, kI, vI, hI, hc, b1, b2, wrap_succ (k := k) (by omega)]
            split
            · rename_i hm
              rw [if_pos hm] at he
              exact ihk _ (by rw [List.length_append, List.length_append, List.length_singleton, List.length_singleton]; omega) (by rw [List.append_assoc, List.append_assoc]; exact he)
            · rename_i hm
              rw [if_neg hm] at he
              exact ihk _ (by rw [List.length_append, List.length_singleton]; omega) (by rw [List.append_assoc]; exact he)
        exact go 0 (Nat.zero_le _) [] (by simp) rfl
      rw [okAll_drop ht htp, hl, hx, goes_jmp]
      by_cases hr : rising l = true
      · by_cases h0 : 0 < List.length l
        · have e0 : decide (Int.ofNat (List.length l) > (0 : Int)) = true := by simp; omega
          have e1 : IntKind.i64.wrap (Int.ofNat (List.length l) - 1) = ((List.length l - 1 : Nat) : Int) := wrap_pred (k := List.length l) (by omega) h0
          have h1 : List.length l - 1 < List.length l := by omega
          have e2 := last_ge hr h0 (List.length x)
          have e2' : decide (l[List.length l - 1] ≥ Int.ofNat (List.length x)) = ! l.all fun y => decide (y < (List.length x : Int)) := e2
          simp only [T_ref3_Weave, goes_br, lt_len ht, nng, Bool.and_self, if_true, Int.toNat_natCast, getD_lt ht, hl, hko, hvo, hr, Bool.not_true, if_false, Bool.false_eq_true, e0, e1, lt_len h1, lt_len htp, getD_lt h1, getD_lt htp, hx, e2', okPts, Bool.true_and]
          cases l.all fun y => decide (y < (List.length x : Int)) with
          | true =>
            simp only [Bool.not_true, if_false, Bool.false_eq_true, Bool.true_and]
            exact inner _
          | false =>
            simp only [Bool.not_false, if_true, if_false, Bool.false_and, Bool.false_eq_true]
            exact .leaf
        · have hnil : l = [] := List.eq_nil_of_length_eq_zero (by omega)
          subst hnil
          have e0 : decide (Int.ofNat (List.length ([] : List Int)) > (0 : Int)) = false := by decide
          simp only [T_ref3_Weave, goes_br, lt_len ht, nng, Bool.and_self, if_true, Int.toNat_natCast, getD_lt ht, hl, hko, hvo, hr, Bool.not_true, if_false, Bool.false_eq_true, e0, lt_len htp, getD_lt htp, hx, okPts, Bool.true_and, List.all_nil]
          exact inner _
      · have hr' : rising l = false := by simpa using hr
        simp only [T_ref3_Weave, goes_br, lt_len ht, lt_len htp, nng, Bool.and_self, if_true, Int.toNat_natCast, getD_lt ht, hl, hko, hvo, hr', Bool.not_false, okPts, Bool.false_and, if_false, Bool.false_eq_true]
        exact .leaf
  unfold T0_ref3_Weave v_ref3_Weave inC
  simp only [goes_br, hkc, if_true, v_ref1_Check]
  by_cases hc : checkC p = 0
  · rw [if_neg (by simp [hc])]
    by_cases hp : p.2.length < points.length
    · rw [if_pos (by simp; omega), if_pos (.inr (.inl hp))]
      exact .leaf
    · rw [if_neg (by simp; omega), if_pos hkC]
      have := loop (by omega) 0 (Nat.zero_le _)
      rw [List.drop_zero, List.drop_zero, List.take_zero, List.nil_append] at this
      cases hok : okAll points p.2 with
      | true =>
        rw [hok, if_pos rfl] at this
        rw [if_neg (by simp [hc]; omega), hR]
        exact this
      | false =>
        rw [hok, if_neg (by decide)] at this
        rw [if_pos (.inr (.inr rfl))]
        exact this
  · rw [if_pos (by simpa using hc), if_pos (.inl hc)]
    exact .leaf
end Go.Ev
end

section
set_option linter.unusedSectionVars false
set_option linter.unusedVariables false
set_option linter.unusedSimpArgs false
set_option maxRecDepth 100000
set_option linter.unusedVariables false
open Go Go.Ev
namespace Go.Ev
noncomputable def e_ref3_Weave : Run := entG sg_ref3_Weave R_ref3_Weave (fun a => k_ref3_Weave a.1 a.2.1) (fun a => v_ref3_Weave a.1 a.2.1)
theorem ok_ref3_Weave : EntOK Go.Proofs.Tryd.prog 15 e_ref3_Weave := entG_ok (tb := tb_ref3_Weave) (c := c_ref3_Weave) tk_ref3_Weave (by kernel_rfl) (by kernel_rfl) (by kernel_rfl) (fun a => by kernel_rfl) fun ⟨p, points, _⟩ hk => evF_goes (c := c_ref3_Weave) (K := fun v => (R_ref3_Weave v, tps (toForms sg_ref3_Weave (p, points, ())))) (S := S_ref3_Weave p points) (by kernel_rfl) (en_ref3_Weave p points) (lp_ref3_Weave p points) (g_ref3_Weave p points hk)
end Go.Ev
end

section
set_option linter.unusedSectionVars false
set_option linter.unusedVariables false
set_option linter.unusedSimpArgs false
set_option maxRecDepth 100000
set_option linter.unusedVariables false
open Go Go.Ev
namespace Go.Ev
/-! ### paling/palingref1.sameInit -/
def sg_ref1_sameInit : Sig := [(false, (.sl (.int .i64))), (false, (.sl (.int .i64)))]
noncomputable def t_ref1_sameInit : Tbl := []
theorem tk_ref1_sameInit : ∀ p ∈ t_ref1_sameInit, EntOK Go.Proofs.Tryd.prog p.1 p.2 := tbl_nil
noncomputable def c_ref1_sameInit : Code := Go.Proofs.Tryd.f46.body.getD .skip
def tb_ref1_sameInit : Tb := [(6, ⟨[0, 1, 5], []⟩)]
inductive J_ref1_sameInit where
  | l6 (i : Int)
def T_ref1_sameInit (a : List Int) (b : List Int) : J_ref1_sameInit → JT J_ref1_sameInit (Bool)
  | .l6 i =>
    .br (decide (i < (Int.ofNat (List.length a))))
      (.br ((decide ((0 : Int) ≤ i)) && (decide (i < (Int.ofNat (List.length a)))))
        (.br ((decide ((0 : Int) ≤ i)) && (decide (i < (Int.ofNat (List.length b)))))
          (.br ((List.getD a (Int.toNat i) (dflt (.int .i64))) != (List.getD b (Int.toNat i) (dflt (.int .i64))))
            (.leaf false)
          (.jmp (.l6 (IntKind.i64.wrap (i + (1 : Int))))))
        (.no))
      (.no))
    (.leaf true)
def T0_ref1_sameInit (a : List Int) (b : List Int) : JT J_ref1_sameInit (Bool) :=
  .br ((Int.ofNat (List.length a)) != (Int.ofNat (List.length b)))
    (.leaf false)
  (.jmp (.l6 (0 : Int)))
def R_ref1_sameInit : Bool → AV := fun (r : Bool) => .d .bool r
def S_ref1_sameInit (a : List Int) (b : List Int) : J_ref1_sameInit → Nat × St
  | .l6 i => (6, ⟨mkTm 26 [(0, .d (.sl (.int .i64)) a), (1, .d (.sl (.int .i64)) b), (5, .d (.int .i64) i)], []⟩)
theorem en_ref1_sameInit (a : List Int) (b : List Int) (L : Lt) : entryA Go.Proofs.Tryd.prog (clOf t_ref1_sameInit) tb_ref1_sameInit Go.Proofs.Tryd.f46 c_ref1_sameInit L (toForms sg_ref1_sameInit (a, b, ())) = (T0_ref1_sameInit a b).run (fun v => some (R_ref1_sameInit v, tps (toForms sg_ref1_sameInit (a, b, ())))) fun j => L (S_ref1_sameInit a b j).1 (S_ref1_sameInit a b j).2 := by kernel_rfl
theorem lp_ref1_sameInit (a : List Int) (b : List Int) : ∀ (L : Lt) (j : J_ref1_sameInit), procOf (procsF Go.Proofs.Tryd.prog (clOf t_ref1_sameInit) tb_ref1_sameInit Go.Proofs.Tryd.f46 c_ref1_sameInit (toForms sg_ref1_sameInit (a, b, ()))) (S_ref1_sameInit a b j).1 L (S_ref1_sameInit a b j).2 = (T_ref1_sameInit a b j).run (fun v => some (R_ref1_sameInit v, tps (toForms sg_ref1_sameInit (a, b, ())))) fun j => L (S_ref1_sameInit a b j).1 (S_ref1_sameInit a b j).2
  | L, .l6 i => by kernel_rfl
end Go.Ev
end

section
set_option linter.unusedSectionVars false
set_option linter.unusedVariables false
set_option linter.unusedSimpArgs false
set_option linter.unusedVariables false
set_option linter.unusedSimpArgs false
open Go
namespace Go.Ev
/-- Asked of what is the same alone. -/
def v_ref1_sameInit (a b : List Int) : Bool := true
def k_ref1_sameInit (a b : List Int) : Bool := decide (a = b) && decide (a.length < 4611686018427387904)
theorem g_ref1_sameInit (a b : List Int) (hk : k_ref1_sameInit a b = true) : Goes (T_ref1_sameInit a b) (T0_ref1_sameInit a b) (v_ref1_sameInit a b) := by
  unfold k_ref1_sameInit at hk
  simp only [Bool.and_eq_true, decide_eq_true_eq] at hk
  obtain ⟨rfl, hn⟩ := hk
  have loop : ∀ k, k ≤ a.length → Goes (T_ref1_sameInit a a) (.jmp (.l6 (k : Int))) true := by
    refine down ?_ fun k hk ih => ?_
    · rw [goes_jmp]
      simp only [T_ref1_sameInit, goes_br, lt_len_not (Nat.lt_irrefl _), if_false, Bool.false_eq_true]
      exact .leaf
    · rw [goes_jmp]
      simp only [T_ref1_sameInit, goes_br, lt_len hk, nng, Bool.and_self, if_true, Int.toNat_natCast, getD_lt hk, wrap_succ (k := k) (by omega), beq_self_eq_true, bne_self_eq_false, Bool.not_true, if_false, Bool.false_eq_true]
      exact ih
  unfold T0_ref1_sameInit v_ref1_sameInit
  rw [goes_br, if_neg (by simp)]
  exact loop 0 (Nat.zero_le _)
end Go.Ev
end

section
set_option linter.unusedSectionVars false
set_option linter.unusedVariables false
set_option linter.unusedSimpArgs false
set_option maxRecDepth 100000
set_option linter.unusedVariables false
open Go Go.Ev
namespace Go.Ev
noncomputable def e_ref1_sameInit : Run := entG sg_ref1_sameInit R_ref1_sameInit (fun a => k_ref1_sameInit a.1 a.2.1) (fun a => v_ref1_sameInit a.1 a.2.1)
theorem ok_ref1_sameInit : EntOK Go.Proofs.Tryd.prog 46 e_ref1_sameInit := entG_ok (tb := tb_ref1_sameInit) (c := c_ref1_sameInit) tk_ref1_sameInit (by kernel_rfl) (by kernel_rfl) (by kernel_rfl) (fun a => by kernel_rfl) fun ⟨a, b, _⟩ hk => evF_goes (c := c_ref1_sameInit) (K := fun v => (R_ref1_sameInit v, tps (toForms sg_ref1_sameInit (a, b, ())))) (S := S_ref1_sameInit a b) (by kernel_rfl) (en_ref1_sameInit a b) (lp_ref1_sameInit a b) (g_ref1_sameInit a b hk)
end Go.Ev
end

section
set_option linter.unusedSectionVars false
set_option linter.unusedVariables false
set_option linter.unusedSimpArgs false
set_option maxRecDepth 100000
set_option linter.unusedVariables false
open Go Go.Ev
namespace Go.Ev
/-! ### paling/palingref1.SameTexts -/
def sg_ref1_SameTexts : Sig := [(false, (.sl .str)), (false, (.sl .str))]
noncomputable def t_ref1_SameTexts : Tbl := []
theorem tk_ref1_SameTexts : ∀ p ∈ t_ref1_SameTexts, EntOK Go.Proofs.Tryd.prog p.1 p.2 := tbl_nil
noncomputable def c_ref1_SameTexts : Code := Go.Proofs.Tryd.f60.body.getD .skip
def tb_ref1_SameTexts : Tb := [(6, ⟨[0, 1, 5], []⟩)]
inductive J_ref1_SameTexts where
  | l6 (i : Int)
def T_ref1_SameTexts (a : List ByteArray) (b : List ByteArray) : J_ref1_SameTexts → JT J_ref1_SameTexts (Bool)
  | .l6 i =>
    .br (decide (i < (Int.ofNat (List.length a))))
      (.br ((decide ((0 : Int) ≤ i)) && (decide (i < (Int.ofNat (List.length a)))))
        (.br ((decide ((0 : Int) ≤ i)) && (decide (i < (Int.ofNat (List.length b)))))
          (.br (! (eqB (List.getD a (Int.toNat i) (dflt .str)) (List.getD b (Int.toNat i) (dflt .str))))
            (.leaf false)
          (.jmp (.l6 (IntKind.i64.wrap (i + (1 : Int))))))
        (.no))
      (.no))
    (.leaf true)
def T0_ref1_SameTexts (a : List ByteArray) (b : List ByteArray) : JT J_ref1_SameTexts (Bool) :=
  .br ((Int.ofNat (List.length a)) != (Int.ofNat (List.length b)))
    (.leaf false)
  (.jmp (.l6 (0 : Int)))
def R_ref1_SameTexts : Bool → AV := fun (r : Bool) => .d .bool r
def S_ref1_SameTexts (a : List ByteArray) (b : List ByteArray) : J_ref1_SameTexts → Nat × St
  | .l6 i => (6, ⟨mkTm 26 [(0, .d (.sl .str) a), (1, .d (.sl .str) b), (5, .d (.int .i64) i)], []⟩)
theorem en_ref1_SameTexts (a : List ByteArray) (b : List ByteArray) (L : Lt) : entryA Go.Proofs.Tryd.prog (clOf t_ref1_SameTexts) tb_ref1_SameTexts Go.Proofs.Tryd.f60 c_ref1_SameTexts L (toForms sg_ref1_SameTexts (a, b, ())) = (T0_ref1_SameTexts a b).run (fun v => some (R_ref1_SameTexts v, tps (toForms sg_ref1_SameTexts (a, b, ())))) fun j => L (S_ref1_SameTexts a b j).1 (S_ref1_SameTexts a b j).2 := by kernel_rfl
theorem lp_ref1_SameTexts (a : List ByteArray) (b : List ByteArray) : ∀ (L : Lt) (j : J_ref1_SameTexts), procOf (procsF Go.Proofs.Tryd.prog (clOf t_ref1_SameTexts) tb_ref1_SameTexts Go.Proofs.Tryd.f60 c_ref1_SameTexts (toForms sg_ref1_SameTexts (a, b, ()))) (S_ref1_SameTexts a b j).1 L (S_ref1_SameTexts a b j).2 = (T_ref1_SameTexts a b j).run (fun v => some (R_ref1_SameTexts v, tps (toForms sg_ref1_SameTexts (a, b, ())))) fun j => L (S_ref1_SameTexts a b j).1 (S_ref1_SameTexts a b j).2
  | L, .l6 i => by kernel_rfl
end Go.Ev
end

section
set_option linter.unusedSectionVars false
set_option linter.unusedVariables false
set_option linter.unusedSimpArgs false
set_option linter.unusedVariables false
set_option linter.unusedSimpArgs false
open Go
namespace Go.Ev

def v_ref1_SameTexts (a b : List ByteArray) : Bool := decide (a = b)
def k_ref1_SameTexts (a b : List ByteArray) : Bool := decide (a.length < 4611686018427387904)
theorem g_ref1_SameTexts (a b : List ByteArray) (hk : k_ref1_SameTexts a b = true) : Goes (T_ref1_SameTexts a b) (T0_ref1_SameTexts a b) (v_ref1_SameTexts a b) := by
  have hn : a.length < 4611686018427387904 := of_decide_eq_true hk
  have loop : a.length = b.length → ∀ k, k ≤ a.length → Goes (T_ref1_SameTexts a b) (.jmp (.l6 (k : Int))) (decide (a.drop k = b.drop k)) := by
    intro he
    refine down ?_ fun k hk ih => ?_
    · rw [goes_jmp]
      simp [T_ref1_SameTexts, goes_br, goes_leaf, he]
    · rw [goes_jmp]
      have hkb : k < b.length := he ▸ hk
      simp only [T_ref1_SameTexts, goes_br, lt_len hk, lt_len hkb, nng, Bool.and_self, if_true, Int.toNat_natCast, getD_lt hk, getD_lt hkb, wrap_succ (k := k) (by omega), eqB_eq]
      rw [drop_cons hk, drop_cons hkb]
      by_cases h : a[k] = b[k]
      · simp only [h, decide_true, Bool.not_true, List.cons.injEq, true_and]
        simpa using ih
      · simp only [h, decide_false, Bool.not_false, List.cons.injEq, false_and, if_true]
        exact .leaf
  unfold T0_ref1_SameTexts v_ref1_SameTexts
  rw [goes_br]
  by_cases h : a.length = b.length
  · have := loop h 0 (Nat.zero_le _)
    simpa [h] using this
  · have : a ≠ b := fun e => h (congrArg _ e)
    rw [if_pos (by simp; omega), decide_eq_false this]
    exact .leaf

end Go.Ev
end

section
set_option linter.unusedSectionVars false
set_option linter.unusedVariables false
set_option linter.unusedSimpArgs false
set_option maxRecDepth 100000
set_option linter.unusedVariables false
open Go Go.Ev
namespace Go.Ev
noncomputable def e_ref1_SameTexts : Run := entG sg_ref1_SameTexts R_ref1_SameTexts (fun a => k_ref1_SameTexts a.1 a.2.1) (fun a => v_ref1_SameTexts a.1 a.2.1)
theorem ok_ref1_SameTexts : EntOK Go.Proofs.Tryd.prog 60 e_ref1_SameTexts := entG_ok (tb := tb_ref1_SameTexts) (c := c_ref1_SameTexts) tk_ref1_SameTexts (by kernel_rfl) (by kernel_rfl) (by kernel_rfl) (fun a => by kernel_rfl) fun ⟨a, b, _⟩ hk => evF_goes (c := c_ref1_SameTexts) (K := fun v => (R_ref1_SameTexts v, tps (toForms sg_ref1_SameTexts (a, b, ())))) (S := S_ref1_SameTexts a b) (by kernel_rfl) (en_ref1_SameTexts a b) (lp_ref1_SameTexts a b) (g_ref1_SameTexts a b hk)
end Go.Ev
end

section
set_option linter.unusedSectionVars false
set_option linter.unusedVariables false
set_option linter.unusedSimpArgs false
set_option maxRecDepth 100000
set_option linter.unusedVariables false
open Go Go.Ev
namespace Go.Ev
/-! ### paling/palingref1.SameIns -/
def sg_ref1_SameIns : Sig := [(true, T_api_Ins), (true, T_api_Ins)]
noncomputable def t_ref1_SameIns : Tbl := [(60, e_ref1_SameTexts)]
theorem tk_ref1_SameIns : ∀ p ∈ t_ref1_SameIns, EntOK Go.Proofs.Tryd.prog p.1 p.2 := tbl_cons ok_ref1_SameTexts (tbl_nil)
noncomputable def c_ref1_SameIns : Code := Go.Proofs.Tryd.f47.body.getD .skip
def tb_ref1_SameIns : Tb := []
def T_ref1_SameIns (a : El T_api_Ins) (b : El T_api_Ins) : Empty → JT Empty (Bool) := fun j => nomatch j
def T0_ref1_SameIns (a : El T_api_Ins) (b : El T_api_Ins) : JT Empty (Bool) :=
  .br (a.1 == b.1)
    (.br (a.2.1 == b.2.1)
      (.br (a.2.2.1 == b.2.2.1)
        (.br ((a.2.2.2.1.1 == b.2.2.2.1.1) && ((a.2.2.2.1.2.1 == b.2.2.2.1.2.1) && ((a.2.2.2.1.2.2.1 == b.2.2.2.1.2.2.1) && (a.2.2.2.1.2.2.2 == b.2.2.2.1.2.2.2))))
          (.br ((a.2.2.2.2.1.1 == b.2.2.2.2.1.1) && ((a.2.2.2.2.1.2.1 == b.2.2.2.2.1.2.1) && ((a.2.2.2.2.1.2.2.1 == b.2.2.2.2.1.2.2.1) && (a.2.2.2.2.1.2.2.2 == b.2.2.2.2.1.2.2.2))))
            (.br (eqB a.2.2.2.2.2.1 b.2.2.2.2.2.1)
              (.br (k_ref1_SameTexts a.2.2.2.2.2.2 b.2.2.2.2.2.2)
                (.leaf (v_ref1_SameTexts a.2.2.2.2.2.2 b.2.2.2.2.2.2))
              (.no))
            (.leaf false))
          (.leaf false))
        (.leaf false))
      (.leaf false))
    (.leaf false))
  (.leaf false)
def u_ref1_SameIns (a : El T_api_Ins) (b : El T_api_Ins) : Bool :=
  bif (a.1 == b.1) then
    bif (a.2.1 == b.2.1) then
      bif (a.2.2.1 == b.2.2.1) then
        bif ((a.2.2.2.1.1 == b.2.2.2.1.1) && ((a.2.2.2.1.2.1 == b.2.2.2.1.2.1) && ((a.2.2.2.1.2.2.1 == b.2.2.2.1.2.2.1) && (a.2.2.2.1.2.2.2 == b.2.2.2.1.2.2.2)))) then
          bif ((a.2.2.2.2.1.1 == b.2.2.2.2.1.1) && ((a.2.2.2.2.1.2.1 == b.2.2.2.2.1.2.1) && ((a.2.2.2.2.1.2.2.1 == b.2.2.2.2.1.2.2.1) && (a.2.2.2.2.1.2.2.2 == b.2.2.2.2.1.2.2.2)))) then
            bif (eqB a.2.2.2.2.2.1 b.2.2.2.2.2.1) then
              bif (k_ref1_SameTexts a.2.2.2.2.2.2 b.2.2.2.2.2.2) then
                (v_ref1_SameTexts a.2.2.2.2.2.2 b.2.2.2.2.2.2)
              else false
            else false
          else false
        else false
      else false
    else false
  else false
def ku_ref1_SameIns (a : El T_api_Ins) (b : El T_api_Ins) : Bool :=
  bif (a.1 == b.1) then
    bif (a.2.1 == b.2.1) then
      bif (a.2.2.1 == b.2.2.1) then
        bif ((a.2.2.2.1.1 == b.2.2.2.1.1) && ((a.2.2.2.1.2.1 == b.2.2.2.1.2.1) && ((a.2.2.2.1.2.2.1 == b.2.2.2.1.2.2.1) && (a.2.2.2.1.2.2.2 == b.2.2.2.1.2.2.2)))) then
          bif ((a.2.2.2.2.1.1 == b.2.2.2.2.1.1) && ((a.2.2.2.2.1.2.1 == b.2.2.2.2.1.2.1) && ((a.2.2.2.2.1.2.2.1 == b.2.2.2.2.1.2.2.1) && (a.2.2.2.2.1.2.2.2 == b.2.2.2.2.1.2.2.2)))) then
            bif (eqB a.2.2.2.2.2.1 b.2.2.2.2.2.1) then
              bif (k_ref1_SameTexts a.2.2.2.2.2.2 b.2.2.2.2.2.2) then
                true
              else false
            else true
          else true
        else true
      else true
    else true
  else true
theorem gu_ref1_SameIns (a : El T_api_Ins) (b : El T_api_Ins) (hk : ku_ref1_SameIns a b = true) : Goes (T_ref1_SameIns a b) (T0_ref1_SameIns a b) (u_ref1_SameIns a b) :=
  Goes.brk hk (fun hk =>
    Goes.brk hk (fun hk =>
      Goes.brk hk (fun hk =>
        Goes.brk hk (fun hk =>
          Goes.brk hk (fun hk =>
            Goes.brk hk (fun hk =>
              Goes.brk hk (fun hk =>
                Goes.leaf) (fun hk =>
                Goes.nok hk)) (fun hk =>
              Goes.leaf)) (fun hk =>
            Goes.leaf)) (fun hk =>
          Goes.leaf)) (fun hk =>
        Goes.leaf)) (fun hk =>
      Goes.leaf)) (fun hk =>
    Goes.leaf)
def R_ref1_SameIns : Bool → AV := fun (r : Bool) => .d .bool r
def S_ref1_SameIns (a : El T_api_Ins) (b : El T_api_Ins) : Empty → Nat × St := fun j => nomatch j
theorem en_ref1_SameIns (a : El T_api_Ins) (b : El T_api_Ins) (L : Lt) : entryA Go.Proofs.Tryd.prog (clOf t_ref1_SameIns) tb_ref1_SameIns Go.Proofs.Tryd.f47 c_ref1_SameIns L (toForms sg_ref1_SameIns (a, b, ())) = (T0_ref1_SameIns a b).run (fun v => some (R_ref1_SameIns v, tps (toForms sg_ref1_SameIns (a, b, ())))) fun j => L (S_ref1_SameIns a b j).1 (S_ref1_SameIns a b j).2 := by kernel_rfl
theorem lp_ref1_SameIns (a : El T_api_Ins) (b : El T_api_Ins) : ∀ (L : Lt) (j : Empty), procOf (procsF Go.Proofs.Tryd.prog (clOf t_ref1_SameIns) tb_ref1_SameIns Go.Proofs.Tryd.f47 c_ref1_SameIns (toForms sg_ref1_SameIns (a, b, ()))) (S_ref1_SameIns a b j).1 L (S_ref1_SameIns a b j).2 = (T_ref1_SameIns a b j).run (fun v => some (R_ref1_SameIns v, tps (toForms sg_ref1_SameIns (a, b, ())))) fun j => L (S_ref1_SameIns a b j).1 (S_ref1_SameIns a b j).2 := fun L j => nomatch j
end Go.Ev
end

section
set_option linter.unusedSectionVars false
set_option linter.unusedVariables false
set_option linter.unusedSimpArgs false
set_option linter.unusedVariables false
set_option linter.unusedSimpArgs false
open Go
namespace Go.Ev

def v_ref1_SameIns (a b : El T_api_Ins) : Bool := same T_api_Ins a b
def k_ref1_SameIns (a b : El T_api_Ins) : Bool := decide (a.2.2.2.2.2.2.length < 4611686018427387904)
theorem g_ref1_SameIns (a b : El T_api_Ins) (hk : k_ref1_SameIns a b = true) : Goes (T_ref1_SameIns a b) (T0_ref1_SameIns a b) (v_ref1_SameIns a b) := by
  obtain ⟨a1, a2, a3, ⟨a4, a5, a6, a7⟩, ⟨a8, a9, a10, a11⟩, a12, a13⟩ := a
  obtain ⟨b1, b2, b3, ⟨b4, b5, b6, b7⟩, ⟨b8, b9, b10, b11⟩, b12, b13⟩ := b
  have hs : same T_api_Ins (a1, a2, a3, (a4, a5, a6, a7), (a8, a9, a10, a11), a12, a13) (b1, b2, b3, (b4, b5, b6, b7), (b8, b9, b10, b11), b12, b13) = (decide (a1 = b1) && (decide (a2 = b2) && (decide (a3 = b3) && (decide (a4 = b4 ∧ a5 = b5 ∧ a6 = b6 ∧ a7 = b7) && (decide (a8 = b8 ∧ a9 = b9 ∧ a10 = b10 ∧ a11 = b11) && (decide (a12 = b12) && decide (a13 = b13))))))) := by
    rw [Bool.eq_iff_iff, same_iff]
    simp only [Prod.mk.injEq, Bool.and_eq_true, decide_eq_true_eq]
  have e4 : (a4 == b4 && (a5 == b5 && (a6 == b6 && a7 == b7))) = decide (a4 = b4 ∧ a5 = b5 ∧ a6 = b6 ∧ a7 = b7) := by
    rw [Bool.eq_iff_iff]; simp
  have e8 : (a8 == b8 && (a9 == b9 && (a10 == b10 && a11 == b11))) = decide (a8 = b8 ∧ a9 = b9 ∧ a10 = b10 ∧ a11 = b11) := by
    rw [Bool.eq_iff_iff]; simp
  have hkt : k_ref1_SameTexts a13 b13 = true := hk
  unfold T0_ref1_SameIns v_ref1_SameIns
  rw [hs]
  simp only [goes_br, goes_leaf, eqB_eq, e4, e8, hkt, if_true, v_ref1_SameTexts]
  generalize decide (a4 = b4 ∧ a5 = b5 ∧ a6 = b6 ∧ a7 = b7) = p4
  generalize decide (a8 = b8 ∧ a9 = b9 ∧ a10 = b10 ∧ a11 = b11) = p8
  by_cases h1 : a1 = b1 <;> by_cases h2 : a2 = b2 <;> by_cases h3 : a3 = b3 <;> cases p4 <;> cases p8 <;> by_cases h6 : a12 = b12 <;> simp [h1, h2, h3, h6]

end Go.Ev
end

section
set_option linter.unusedSectionVars false
set_option linter.unusedVariables false
set_option linter.unusedSimpArgs false
set_option maxRecDepth 100000
set_option linter.unusedVariables false
open Go Go.Ev
namespace Go.Ev
noncomputable def e_ref1_SameIns : Run := entG sg_ref1_SameIns R_ref1_SameIns (fun a => k_ref1_SameIns a.1 a.2.1) (fun a => v_ref1_SameIns a.1 a.2.1)
theorem ok_ref1_SameIns : EntOK Go.Proofs.Tryd.prog 47 e_ref1_SameIns := entG_ok (tb := tb_ref1_SameIns) (c := c_ref1_SameIns) tk_ref1_SameIns (by kernel_rfl) (by kernel_rfl) (by kernel_rfl) (fun a => by kernel_rfl) fun ⟨a, b, _⟩ hk => evF_goes (c := c_ref1_SameIns) (K := fun v => (R_ref1_SameIns v, tps (toForms sg_ref1_SameIns (a, b, ())))) (S := S_ref1_SameIns a b) (by kernel_rfl) (en_ref1_SameIns a b) (lp_ref1_SameIns a b) (g_ref1_SameIns a b hk)
end Go.Ev
end

section
set_option linter.unusedSectionVars false
set_option linter.unusedVariables false
set_option linter.unusedSimpArgs false
set_option maxRecDepth 100000
set_option linter.unusedVariables false
open Go Go.Ev
namespace Go.Ev
/-! ### paling/palingref1.SameProg -/
def sg_ref1_SameProg : Sig := [(true, T_api_Prog), (true, T_api_Prog)]
noncomputable def t_ref1_SameProg : Tbl := [(46, e_ref1_sameInit), (47, e_ref1_SameIns)]
theorem tk_ref1_SameProg : ∀ p ∈ t_ref1_SameProg, EntOK Go.Proofs.Tryd.prog p.1 p.2 := tbl_cons ok_ref1_sameInit (tbl_cons ok_ref1_SameIns (tbl_nil))
noncomputable def c_ref1_SameProg : Code := Go.Proofs.Tryd.f16.body.getD .skip
def tb_ref1_SameProg : Tb := [(6, ⟨[2, 3, 5], []⟩), (14, ⟨[2, 3, 6], []⟩), (23, ⟨[2, 3, 6, 7, 8, 9], []⟩)]
inductive J_ref1_SameProg where
  | l6 (i : Int)
  | l14 (i : Int)
  | l23 (a : List (El T_api_Ins)) (b : List (El T_api_Ins)) (k : Int) (i : Int)
def T_ref1_SameProg (p : El T_api_Prog) (q : El T_api_Prog) : J_ref1_SameProg → JT J_ref1_SameProg (Bool)
  | .l6 i =>
    .br (decide (i < (Int.ofNat (List.length p.1))))
      (.br ((decide ((0 : Int) ≤ i)) && (decide (i < (Int.ofNat (List.length p.1)))))
        (.br ((decide ((0 : Int) ≤ i)) && (decide (i < (Int.ofNat (List.length q.1)))))
          (.br (! (eqB (List.getD p.1 (Int.toNat i) (dflt T_api_Sym)).1 (List.getD q.1 (Int.toNat i) (dflt T_api_Sym)).1))
            (.leaf false)
          (.br ((decide ((0 : Int) ≤ i)) && (decide (i < (Int.ofNat (List.length p.1)))))
            (.br ((decide ((0 : Int) ≤ i)) && (decide (i < (Int.ofNat (List.length q.1)))))
              (.br ((List.getD p.1 (Int.toNat i) (dflt T_api_Sym)).2.1 != (List.getD q.1 (Int.toNat i) (dflt T_api_Sym)).2.1)
                (.leaf false)
              (.br ((decide ((0 : Int) ≤ i)) && (decide (i < (Int.ofNat (List.length p.1)))))
                (.br ((decide ((0 : Int) ≤ i)) && (decide (i < (Int.ofNat (List.length q.1)))))
                  (.br (k_ref1_sameInit (List.getD p.1 (Int.toNat i) (dflt T_api_Sym)).2.2 (List.getD q.1 (Int.toNat i) (dflt T_api_Sym)).2.2)
                    (.br (! (v_ref1_sameInit (List.getD p.1 (Int.toNat i) (dflt T_api_Sym)).2.2 (List.getD q.1 (Int.toNat i) (dflt T_api_Sym)).2.2))
                      (.leaf false)
                    (.jmp (.l6 (IntKind.i64.wrap (i + (1 : Int))))))
                  (.no))
                (.no))
              (.no)))
            (.no))
          (.no)))
        (.no))
      (.no))
    (.jmp (.l14 (0 : Int)))
  | .l14 i =>
    .br (decide (i < (Int.ofNat (List.length p.2))))
      (.br ((decide ((0 : Int) ≤ i)) && (decide (i < (Int.ofNat (List.length p.2)))))
        (.br ((decide ((0 : Int) ≤ i)) && (decide (i < (Int.ofNat (List.length q.2)))))
          (.br ((Int.ofNat (List.length (List.getD p.2 (Int.toNat i) (dflt (.sl T_api_Ins))))) != (Int.ofNat (List.length (List.getD q.2 (Int.toNat i) (dflt (.sl T_api_Ins))))))
            (.leaf false)
          (.jmp (.l23 (List.getD p.2 (Int.toNat i) (dflt (.sl T_api_Ins))) (List.getD q.2 (Int.toNat i) (dflt (.sl T_api_Ins))) (0 : Int) i)))
        (.no))
      (.no))
    (.leaf true)
  | .l23 a b k i =>
    .br (decide (k < (Int.ofNat (List.length a))))
      (.br ((decide ((0 : Int) ≤ k)) && (decide (k < (Int.ofNat (List.length a)))))
        (.br ((decide ((0 : Int) ≤ k)) && (decide (k < (Int.ofNat (List.length b)))))
          (.br (k_ref1_SameIns (List.getD a (Int.toNat k) (dflt T_api_Ins)) (List.getD b (Int.toNat k) (dflt T_api_Ins)))
            (.br (! (v_ref1_SameIns (List.getD a (Int.toNat k) (dflt T_api_Ins)) (List.getD b (Int.toNat k) (dflt T_api_Ins))))
              (.leaf false)
            (.jmp (.l23 a b (IntKind.i64.wrap (k + (1 : Int))) i)))
          (.no))
        (.no))
      (.no))
    (.jmp (.l14 (IntKind.i64.wrap (i + (1 : Int)))))
def T0_ref1_SameProg (p : El T_api_Prog) (q : El T_api_Prog) : JT J_ref1_SameProg (Bool) :=
  .br ((Int.ofNat (List.length p.1)) != (Int.ofNat (List.length q.1)))
    (.leaf false)
  (.br ((Int.ofNat (List.length p.2)) != (Int.ofNat (List.length q.2)))
    (.leaf false)
  (.jmp (.l6 (0 : Int))))
def R_ref1_SameProg : Bool → AV := fun (r : Bool) => .d .bool r
def S_ref1_SameProg (p : El T_api_Prog) (q : El T_api_Prog) : J_ref1_SameProg → Nat × St
  | .l6 i => (6, ⟨mkTm 117 [(2, .pt 3 0 0), (3, .pt 4 0 0), (5, .d (.int .i64) i)], [(3, 0, .box 27 [.d (.sl T_api_Sym) p.1, .d (.sl (.sl T_api_Ins)) p.2] none), (4, 0, .box 27 [.d (.sl T_api_Sym) q.1, .d (.sl (.sl T_api_Ins)) q.2] none)]⟩)
  | .l14 i => (14, ⟨mkTm 117 [(2, .pt 3 0 0), (3, .pt 4 0 0), (6, .d (.int .i64) i)], [(3, 0, .box 27 [.d (.sl T_api_Sym) p.1, .d (.sl (.sl T_api_Ins)) p.2] none), (4, 0, .box 27 [.d (.sl T_api_Sym) q.1, .d (.sl (.sl T_api_Ins)) q.2] none)]⟩)
  | .l23 a b k i => (23, ⟨mkTm 117 [(2, .pt 3 0 0), (3, .pt 4 0 0), (6, .d (.int .i64) i), (7, .d (.sl T_api_Ins) a), (8, .d (.sl T_api_Ins) b), (9, .d (.int .i64) k)], [(3, 0, .box 27 [.d (.sl T_api_Sym) p.1, .d (.sl (.sl T_api_Ins)) p.2] none), (4, 0, .box 27 [.d (.sl T_api_Sym) q.1, .d (.sl (.sl T_api_Ins)) q.2] none)]⟩)
theorem en_ref1_SameProg (p : El T_api_Prog) (q : El T_api_Prog) (L : Lt) : entryA Go.Proofs.Tryd.prog (clOf t_ref1_SameProg) tb_ref1_SameProg Go.Proofs.Tryd.f16 c_ref1_SameProg L (toForms sg_ref1_SameProg (p, q, ())) = (T0_ref1_SameProg p q).run (fun v => some (R_ref1_SameProg v, tps (toForms sg_ref1_SameProg (p, q, ())))) fun j => L (S_ref1_SameProg p q j).1 (S_ref1_SameProg p q j).2 := by kernel_rfl
theorem lp_ref1_SameProg (p : El T_api_Prog) (q : El T_api_Prog) : ∀ (L : Lt) (j : J_ref1_SameProg), procOf (procsF Go.Proofs.Tryd.prog (clOf t_ref1_SameProg) tb_ref1_SameProg Go.Proofs.Tryd.f16 c_ref1_SameProg (toForms sg_ref1_SameProg (p, q, ()))) (S_ref1_SameProg p q j).1 L (S_ref1_SameProg p q j).2 = (T_ref1_SameProg p q j).run (fun v => some (R_ref1_SameProg v, tps (toForms sg_ref1_SameProg (p, q, ())))) fun j => L (S_ref1_SameProg p q j).1 (S_ref1_SameProg p q j).2
  | L, .l6 i => by kernel_rfl
  | L, .l14 i => by kernel_rfl
  | L, .l23 a b k i => by kernel_rfl
end Go.Ev
end

section
set_option linter.unusedSectionVars false
set_option linter.unusedVariables false
set_option linter.unusedSimpArgs false
set_option linter.unusedVariables false
set_option linter.unusedSimpArgs false
open Go
namespace Go.Ev
/-- Asked of what is the same alone. -/
def v_ref1_SameProg (p q : El T_api_Prog) : Bool := true
def k_ref1_SameProg (p q : El T_api_Prog) : Bool := same T_api_Prog p q && copyB p
theorem g_ref1_SameProg (p q : El T_api_Prog) (hk : k_ref1_SameProg p q = true) : Goes (T_ref1_SameProg p q) (T0_ref1_SameProg p q) (v_ref1_SameProg p q) := by
  unfold k_ref1_SameProg at hk
  rw [Bool.and_eq_true, same_iff] at hk
  obtain ⟨rfl, hcp⟩ := hk
  have hC := copyOK hcp
  have hth := hC.thr
  have hsy := hC.syms
  have l14 : ∀ k, k ≤ p.2.length → Goes (T_ref1_SameProg p p) (.jmp (.l14 (k : Int))) true := by
    refine down ?_ fun k hk ih => ?_
    · rw [goes_jmp]
      simp only [T_ref1_SameProg, goes_br, lt_len_not (Nat.lt_irrefl _), if_false, Bool.false_eq_true]
      exact .leaf
    · obtain ⟨x, hx⟩ : ∃ x, p.2[k] = x := ⟨_, rfl⟩
      have hm : x ∈ p.2 := by rw [← hx]; exact List.getElem_mem hk
      have hl := hC.len x hm
      have l23 : ∀ j, j ≤ List.length x → Goes (T_ref1_SameProg p p) (.jmp (.l23 x x (j : Int) (k : Int))) true := by
        refine down ?_ fun j hj ihj => ?_
        · rw [goes_jmp]
          simp only [T_ref1_SameProg, goes_br, lt_len_not (Nat.lt_irrefl _), if_false, Bool.false_eq_true, wrap_succ (k := k) (by omega)]
          exact ih
        · have hb := hC.lab x hm _ (List.getElem_mem hj)
          have k1 : k_ref1_SameIns x[j] x[j] = true := decide_eq_true (by omega)
          have v1 : v_ref1_SameIns x[j] x[j] = true := same_iff.2 rfl
          rw [goes_jmp]
          simp only [T_ref1_SameProg, goes_br, lt_len hj, nng, Bool.and_self, if_true, Int.toNat_natCast, getD_lt hj, k1, v1, Bool.not_true, if_false, Bool.false_eq_true, wrap_succ (k := j) (by omega)]
          exact ihj
      rw [goes_jmp]
      simp only [T_ref1_SameProg, goes_br, lt_len hk, nng, Bool.and_self, if_true, Int.toNat_natCast, getD_lt hk, hx, bne_self_eq_false, if_false, Bool.false_eq_true]
      exact l23 0 (Nat.zero_le _)
  have l6 : ∀ k, k ≤ p.1.length → Goes (T_ref1_SameProg p p) (.jmp (.l6 (k : Int))) true := by
    refine down ?_ fun k hk ih => ?_
    · rw [goes_jmp]
      simp only [T_ref1_SameProg, goes_br, lt_len_not (Nat.lt_irrefl _), if_false, Bool.false_eq_true]
      exact l14 0 (Nat.zero_le _)
    · have hi := hC.init _ (List.getElem_mem hk)
      have e1 : eqB (p.1[k]).1 (p.1[k]).1 = true := eqB_iff.2 rfl
      have k1 : k_ref1_sameInit (p.1[k]).2.2 (p.1[k]).2.2 = true := by unfold k_ref1_sameInit; rw [decide_eq_true rfl, decide_eq_true (by omega)]; rfl
      have v1 : v_ref1_sameInit (p.1[k]).2.2 (p.1[k]).2.2 = true := rfl
      rw [goes_jmp]
      simp only [T_ref1_SameProg, goes_br, lt_len hk, nng, Bool.and_self, if_true, Int.toNat_natCast, getD_lt hk, e1, k1, v1, bne_self_eq_false, Bool.not_true, if_false, Bool.false_eq_true, wrap_succ (k := k) (by omega)]
      exact ih
  unfold T0_ref1_SameProg v_ref1_SameProg
  rw [goes_br, if_neg (by simp), goes_br, if_neg (by simp)]
  exact l6 0 (Nat.zero_le _)
end Go.Ev
end

section
set_option linter.unusedSectionVars false
set_option linter.unusedVariables false
set_option linter.unusedSimpArgs false
set_option maxRecDepth 100000
set_option linter.unusedVariables false
open Go Go.Ev
namespace Go.Ev
noncomputable def e_ref1_SameProg : Run := entG sg_ref1_SameProg R_ref1_SameProg (fun a => k_ref1_SameProg a.1 a.2.1) (fun a => v_ref1_SameProg a.1 a.2.1)
theorem ok_ref1_SameProg : EntOK Go.Proofs.Tryd.prog 16 e_ref1_SameProg := entG_ok (tb := tb_ref1_SameProg) (c := c_ref1_SameProg) tk_ref1_SameProg (by kernel_rfl) (by kernel_rfl) (by kernel_rfl) (fun a => by kernel_rfl) fun ⟨p, q, _⟩ hk => evF_goes (c := c_ref1_SameProg) (K := fun v => (R_ref1_SameProg v, tps (toForms sg_ref1_SameProg (p, q, ())))) (S := S_ref1_SameProg p q) (by kernel_rfl) (en_ref1_SameProg p q) (lp_ref1_SameProg p q) (g_ref1_SameProg p q hk)
end Go.Ev
end

section
set_option linter.unusedSectionVars false
set_option linter.unusedVariables false
set_option linter.unusedSimpArgs false
/- The book's programs, and fences laid into them. -/
set_option maxRecDepth 100000
set_option linter.unusedVariables false
set_option linter.unusedSimpArgs false
namespace Go.Ev
open Go
theorem few_book (l : List (List (El T_book_Act))) {threads many : Int} (h0 : 0 ≤ threads) (h1 : threads ≤ 64) (m0 : 0 ≤ many) (m1 : many ≤ 90) : Few (v_book_Prog l threads many) 91 := by
  have mem : ∀ t ∈ (v_book_Prog l threads many).2, ∃ a : List (El T_book_Act), t = threadB a (min a.length many.toNat) := fun t hm => by
    obtain ⟨a, _, rfl⟩ := List.mem_map.1 (show t ∈ (l.take threads.toNat).map fun a => threadB a (min a.length many.toNat) from hm)
    exact ⟨a, rfl⟩
  have len : ∀ t ∈ (v_book_Prog l threads many).2, List.length t ≤ 91 := fun t hm => by
    obtain ⟨a, rfl⟩ := mem t hm
    show (threadB a _).length ≤ 91
    unfold threadB
    rw [withL_len, baseT_len a _ (by omega)]
    omega
  refine ⟨show symsB.length ≤ 1000 by decide, show ∀ s ∈ symsB, List.length s.2.2 ≤ 1000 by decide +kernel, ?_, len, fun t hm => ?_⟩
  · show ((l.take threads.toNat).map fun a => threadB a (min a.length many.toNat)).length ≤ 1000
    rw [List.length_map, List.length_take]; omega
  · have hl := len t hm
    obtain ⟨a, rfl⟩ := mem t hm
    have := labels_le (t := threadB a (min a.length many.toNat)) (n := 1) fun i hi => by
      obtain ⟨k, hk, rfl⟩ := List.mem_iff_getElem.1 hi
      have hg := withL_get (s := sAt (baseT a (min a.length many.toNat)) (min a.length many.toNat)) (b := baseT a (min a.length many.toNat)) hk
      have hg' : (threadB a (min a.length many.toNat))[k] = _ := hg
      rw [hg']
      show (if sAt (baseT a (min a.length many.toNat)) (min a.length many.toNat) k then [v_book_label (k : Int)] else []).length ≤ 1
      split <;> simp
    omega
theorem pts_len : ∀ (ls : List (List Int)) (xs : List (List (El T_api_Ins))), (ptsC ls xs).length ≤ xs.length
  | [], _ => Nat.zero_le _
  | _ :: _, [] => Nat.zero_le _
  | l :: ls, x :: xs => by rw [ptsC, List.length_cons, List.length_cons]; have := pts_len ls xs; omega
theorem pts_ok : ∀ (ls : List (List Int)) (xs : List (List (El T_api_Ins))), (∀ x ∈ xs, List.length x ≤ 1000000) → okAll (ptsC ls xs) xs = true ∧ ∀ l ∈ ptsC ls xs, List.length l ≤ 1000000
  | [], _, _ => ⟨rfl, fun l h => by cases h⟩
  | _ :: _, [], _ => ⟨rfl, fun l h => by cases h⟩
  | l :: ls, x :: xs, h => by
    obtain ⟨i1, i2⟩ := pts_ok ls xs fun y hy => h y (by simp [hy])
    have hx := h x (by simp)
    have hm := marksC_len x.length l
    rw [ptsC, okAll, i1, Bool.and_true]
    constructor
    · unfold okPts
      rw [listFrom_isRising (by omega), Bool.true_and, List.all_eq_true]
      intro y hy
      have := listFrom_gt hy
      exact decide_eq_true (by omega)
    · intro y hy
      rcases List.mem_cons.1 hy with rfl | hy
      · have := listFrom_len (marksC x.length l) 0; omega
      · exact i2 y hy
theorem great_lists {l : List (List Int)} (h : v_book_GreatLists l = false) : l.length ≤ 10 ∧ ∀ x ∈ l, List.length x ≤ 30 := by
  unfold v_book_GreatLists at h
  simp only [Bool.or_eq_false_iff, decide_eq_false_iff_not, List.any_eq_false, decide_eq_true_eq] at h
  exact ⟨by omega, fun x hx => by have := h.2 x hx; omega⟩
structure BookLaid (p : El T_api_Prog) : Prop where
  chk : checkC p = 0
  small : smallProg p = true
  few : Few p 91
theorem book_laid (l : List (List (El T_book_Act))) {threads many : Int} (h0 : 0 ≤ threads) (h1 : threads ≤ 64) (m0 : 0 ≤ many) (m1 : many ≤ 90) : BookLaid (v_book_Prog l threads many) ∧ k_book_Prog l threads many = true :=
  ⟨⟨(book_valid l h0 h1 m0 m1).1, (book_valid l h0 h1 m0 m1).2.1, few_book l h0 h1 m0 m1⟩, (book_valid l h0 h1 m0 m1).2.2⟩
theorem k_points {p : El T_api_Prog} (h : BookLaid p) {l : List (List Int)} (hl : v_book_GreatLists l = false) (raw : Bool) : k_book_Points p l raw = true := by
  obtain ⟨h1, h2⟩ := great_lists hl
  unfold k_book_Points
  simp only [Bool.and_eq_true, decide_eq_true_eq, List.all_eq_true]
  exact ⟨few_copy h.few (by omega), by omega, fun x hx => by have := h2 x hx; omega⟩
theorem points_few {p : El T_api_Prog} (h : BookLaid p) {l : List (List Int)} (hl : v_book_GreatLists l = false) (raw : Bool) : ∀ x ∈ v_book_Points p l raw, List.length x ≤ 1000000 := by
  obtain ⟨h1, h2⟩ := great_lists hl
  unfold v_book_Points
  split
  · intro x hx; have := h2 x hx; omega
  · exact (pts_ok l p.2 fun x hx => by have := h.few.len x hx; omega).2
theorem k_lists {l : List (List Int)} (h : ∀ x ∈ l, List.length x ≤ 1000000) : (l.all fun x => decide (List.length x < 1099511627776)) = true := by
  simp only [List.all_eq_true, decide_eq_true_eq]
  intro x hx; have := h x hx; omega
theorem k_in {p : El T_api_Prog} (h : BookLaid p) {l : List (List Int)} (hl : ∀ x ∈ l, List.length x ≤ 1000000) : k_weave_In p l = true ∧ k_ref3_Weave p l = true := by
  unfold k_weave_In k_ref3_Weave
  rw [h.small, few_copy h.few (by omega), k_lists hl]
  exact ⟨rfl, rfl⟩
theorem in_copy {p : El T_api_Prog} (h : BookLaid p) (l : List (List Int)) : copyB (inC p l).1 = true := by
  unfold inC
  split
  · rfl
  · exact few_copy (few_laid h.few l) (by omega)
theorem in_same {p : El T_api_Prog} (h : BookLaid p) (l : List (List Int)) : k_ref1_SameProg (v_weave_In p l).1 (v_ref3_Weave p l).1 = true := by
  unfold k_ref1_SameProg
  rw [Bool.and_eq_true]
  exact ⟨same_iff.2 rfl, in_copy h l⟩
/-- Points that the book makes are laid in. -/
theorem in_ok {p : El T_api_Prog} (h : BookLaid p) (l : List (List Int)) : inC p (ptsC l p.2) = ((p.1, laidP (ptsC l p.2) p.2), true) := by
  have h1 := (pts_ok l p.2 fun x hx => by have := h.few.len x hx; omega).1
  have h2 := pts_len l p.2
  unfold inC
  rw [if_neg (by rw [h.chk, h1]; simp; omega)]
structure Laid2 (q : El T_api_Prog) : Prop where
  chk : checkC q = 0
  small : smallProg q = true
  few : Few q 182
theorem laid2 {p : El T_api_Prog} (h : BookLaid p) (l : List (List Int)) : Laid2 (inC p (ptsC l p.2)).1 := by
  rw [in_ok h]
  exact ⟨by rw [check_laid]; exact h.chk, small_laidP h.small h.few (by omega) _, few_laid h.few _⟩
theorem k_out {q : El T_api_Prog} (h : Laid2 q) {l : List (List Int)} (hl : ∀ x ∈ l, List.length x ≤ 1000000) : k_weave_Out q l = true ∧ k_ref3_Unweave q l = true := by
  unfold k_weave_Out k_ref3_Unweave
  rw [h.small, few_copy h.few (by omega), k_lists hl]
  exact ⟨rfl, rfl⟩
theorem out_same {q : El T_api_Prog} (h : Laid2 q) (l : List (List Int)) : k_ref1_SameProg (v_weave_Out q l).1 (v_ref3_Unweave q l).1 = true := by
  unfold k_ref1_SameProg
  rw [Bool.and_eq_true]
  refine ⟨same_iff.2 rfl, ?_⟩
  show copyB (outC q l).1 = true
  unfold outC
  split
  · rfl
  · exact few_copy (few_out h.few l) (by omega)
/-- There and back. -/
theorem round_trip {p : El T_api_Prog} (h : BookLaid p) (l : List (List Int)) : outC (inC p (ptsC l p.2)).1 ((ptsC l p.2).map fencesC) = (p, true) := by
  have h1 := (pts_ok l p.2 fun x hx => by have := h.few.len x hx; omega).1
  have h2 := pts_len l p.2
  obtain ⟨o1, o2⟩ := outs_laid (ptsC l p.2) p.2 h1 fun x hx => by have := h.few.len x hx; omega
  rw [in_ok h]
  unfold outC
  rw [if_neg, o2]
  rw [check_laid, h.chk, o1, laidP_len, List.length_map]
  simp
  omega
end Go.Ev
end

section
set_option linter.unusedSectionVars false
set_option linter.unusedVariables false
set_option linter.unusedSimpArgs false
set_option maxRecDepth 100000
set_option linter.unusedVariables false
open Go Go.Ev
namespace Go.Ev
/-! ### paling/palingbook.GreatState -/
def sg_book_GreatState : Sig := [(true, T_api_State)]
noncomputable def t_book_GreatState : Tbl := []
theorem tk_book_GreatState : ∀ p ∈ t_book_GreatState, EntOK Go.Proofs.Tryd.prog p.1 p.2 := tbl_nil
noncomputable def c_book_GreatState : Code := Go.Proofs.Tryd.f28.body.getD .skip
def tb_book_GreatState : Tb := [(6, ⟨[1, 3], []⟩)]
inductive J_book_GreatState where
  | l6 (i : Int)
def T_book_GreatState (s : El T_api_State) : J_book_GreatState → JT J_book_GreatState (Bool)
  | .l6 i =>
    .br (decide (i < (Int.ofNat (List.length s.2.2.1))))
      (.br ((decide ((0 : Int) ≤ i)) && (decide (i < (Int.ofNat (List.length s.2.2.1)))))
        (.br (decide ((Int.ofNat (List.length (List.getD s.2.2.1 (Int.toNat i) (dflt (.sl T_api_Entry))))) > (12 : Int)))
          (.leaf true)
        (.jmp (.l6 (IntKind.i64.wrap (i + (1 : Int))))))
      (.no))
    (.leaf false)
def T0_book_GreatState (s : El T_api_State) : JT J_book_GreatState (Bool) :=
  .br (decide ((Int.ofNat (List.length s.1)) > (30 : Int)))
    (.leaf true)
  (.br (decide ((Int.ofNat (List.length s.2.1)) > (8 : Int)))
    (.leaf true)
  (.br (decide ((Int.ofNat (List.length s.2.2.1)) > (8 : Int)))
    (.leaf true)
  (.jmp (.l6 (0 : Int)))))
def R_book_GreatState : Bool → AV := fun (r : Bool) => .d .bool r
def S_book_GreatState (s : El T_api_State) : J_book_GreatState → Nat × St
  | .l6 i => (6, ⟨mkTm 34 [(1, .pt 2 0 0), (3, .d (.int .i64) i)], [(2, 0, .box 50 [.d (.sl (.int .i64)) s.1, .d (.sl T_api_Thr) s.2.1, .d (.sl (.sl T_api_Entry)) s.2.2.1, .d (.int .i64) s.2.2.2] none)]⟩)
theorem en_book_GreatState (s : El T_api_State) (L : Lt) : entryA Go.Proofs.Tryd.prog (clOf t_book_GreatState) tb_book_GreatState Go.Proofs.Tryd.f28 c_book_GreatState L (toForms sg_book_GreatState (s, ())) = (T0_book_GreatState s).run (fun v => some (R_book_GreatState v, tps (toForms sg_book_GreatState (s, ())))) fun j => L (S_book_GreatState s j).1 (S_book_GreatState s j).2 := by kernel_rfl
theorem lp_book_GreatState (s : El T_api_State) : ∀ (L : Lt) (j : J_book_GreatState), procOf (procsF Go.Proofs.Tryd.prog (clOf t_book_GreatState) tb_book_GreatState Go.Proofs.Tryd.f28 c_book_GreatState (toForms sg_book_GreatState (s, ()))) (S_book_GreatState s j).1 L (S_book_GreatState s j).2 = (T_book_GreatState s j).run (fun v => some (R_book_GreatState v, tps (toForms sg_book_GreatState (s, ())))) fun j => L (S_book_GreatState s j).1 (S_book_GreatState s j).2
  | L, .l6 i => by kernel_rfl
end Go.Ev
end

section
set_option linter.unusedSectionVars false
set_option linter.unusedVariables false
set_option linter.unusedSimpArgs false
set_option linter.unusedVariables false
set_option linter.unusedSimpArgs false
open Go
namespace Go.Ev
def v_book_GreatState (s : El T_api_State) : Bool := decide (30 < s.1.length) || (decide (8 < s.2.1.length) || (decide (8 < s.2.2.1.length) || s.2.2.1.any fun x => decide (12 < List.length x)))
def k_book_GreatState (s : El T_api_State) : Bool := true
theorem g_book_GreatState (s : El T_api_State) (hk : k_book_GreatState s = true) : Goes (T_book_GreatState s) (T0_book_GreatState s) (v_book_GreatState s) := by
  have loop : List.length s.2.2.1 ≤ 8 → ∀ k, k ≤ List.length s.2.2.1 → Goes (T_book_GreatState s) (.jmp (.l6 (k : Int))) ((s.2.2.1.drop k).any fun x => decide (12 < List.length x)) := by
    intro hl
    refine down ?_ fun k hk ih => ?_
    · rw [goes_jmp]
      simp only [T_book_GreatState, goes_br, lt_len_not (Nat.lt_irrefl _), if_false, Bool.false_eq_true, List.drop_length]
      exact .leaf
    · rw [goes_jmp, drop_cons hk, List.any_cons]
      have e : decide (Int.ofNat (List.length s.2.2.1[k]) > 12) = decide (12 < List.length s.2.2.1[k]) := decide_eq_decide.2 (by simp only [Int.ofNat_eq_natCast]; omega)
      simp only [T_book_GreatState, goes_br, lt_len hk, nng, Bool.and_self, if_true, Int.toNat_natCast, getD_lt hk, e, wrap_succ (k := k) (by omega)]
      cases decide (12 < List.length s.2.2.1[k]) with
      | true => exact .leaf
      | false => exact ih
  have e1 : decide (Int.ofNat (List.length s.1) > 30) = decide (30 < List.length s.1) := decide_eq_decide.2 (by simp only [Int.ofNat_eq_natCast]; omega)
  have e2 : decide (Int.ofNat (List.length s.2.1) > 8) = decide (8 < List.length s.2.1) := decide_eq_decide.2 (by simp only [Int.ofNat_eq_natCast]; omega)
  have e3 : decide (Int.ofNat (List.length s.2.2.1) > 8) = decide (8 < List.length s.2.2.1) := decide_eq_decide.2 (by simp only [Int.ofNat_eq_natCast]; omega)
  unfold T0_book_GreatState v_book_GreatState
  rw [goes_br, e1, goes_br, e2, goes_br, e3]
  cases decide (30 < List.length s.1) with
  | true => exact .leaf
  | false =>
    cases decide (8 < List.length s.2.1) with
    | true => exact .leaf
    | false =>
      by_cases h : 8 < List.length s.2.2.1
      · rw [decide_eq_true h]
        exact .leaf
      · rw [decide_eq_false h]
        have := loop (by omega) 0 (Nat.zero_le _)
        simpa using this
end Go.Ev
end

section
set_option linter.unusedSectionVars false
set_option linter.unusedVariables false
set_option linter.unusedSimpArgs false
set_option maxRecDepth 100000
set_option linter.unusedVariables false
open Go Go.Ev
namespace Go.Ev
noncomputable def e_book_GreatState : Run := entG sg_book_GreatState R_book_GreatState (fun a => k_book_GreatState a.1) (fun a => v_book_GreatState a.1)
theorem ok_book_GreatState : EntOK Go.Proofs.Tryd.prog 28 e_book_GreatState := entG_ok (tb := tb_book_GreatState) (c := c_book_GreatState) tk_book_GreatState (by kernel_rfl) (by kernel_rfl) (by kernel_rfl) (fun a => by kernel_rfl) fun ⟨s, _⟩ hk => evF_goes (c := c_book_GreatState) (K := fun v => (R_book_GreatState v, tps (toForms sg_book_GreatState (s, ())))) (S := S_book_GreatState s) (by kernel_rfl) (en_book_GreatState s) (lp_book_GreatState s) (g_book_GreatState s hk)
end Go.Ev
end

section
set_option linter.unusedSectionVars false
set_option linter.unusedVariables false
set_option linter.unusedSimpArgs false
set_option maxRecDepth 100000
set_option linter.unusedVariables false
open Go Go.Ev
namespace Go.Ev
/-! ### paling/palingref2.Copy -/
def sg_ref2_Copy : Sig := [(true, T_api_State)]
noncomputable def t_ref2_Copy : Tbl := []
theorem tk_ref2_Copy : ∀ p ∈ t_ref2_Copy, EntOK Go.Proofs.Tryd.prog p.1 p.2 := tbl_nil
noncomputable def c_ref2_Copy : Code := Go.Proofs.Tryd.f29.body.getD .skip
def tb_ref2_Copy : Tb := [(6, ⟨[1, 2, 3, 4], [(4099, 96)]⟩)]
inductive J_ref2_Copy where
  | l6 (i : Int) (b : List (List (El T_api_Entry)))
def T_ref2_Copy (a : El T_api_State) : J_ref2_Copy → JT J_ref2_Copy (El T_api_State)
  | .l6 i b =>
    .br (decide (i < (Int.ofNat (List.length a.2.2.1))))
      (.br ((decide ((0 : Int) ≤ i)) && (decide (i < (Int.ofNat (List.length a.2.2.1)))))
        (.br (Nat.ble ((List.length (List.getD a.2.2.1 (Int.toNat i) (dflt (.sl T_api_Entry)))) * 16) limit)
          (.br (Nat.ble (((List.length b) + 1) * 24) limit)
            (.jmp (.l6 (IntKind.i64.wrap (i + (1 : Int))) (b ++ [(List.getD a.2.2.1 (Int.toNat i) (dflt (.sl T_api_Entry)))])))
          (.no))
        (.no))
      (.no))
    (.leaf (a.1, (a.2.1, (b, a.2.2.2))))
def T0_ref2_Copy (a : El T_api_State) : JT J_ref2_Copy (El T_api_State) :=
  .br (Nat.ble ((List.length a.1) * 8) limit)
    (.br (Nat.ble ((List.length a.2.1) * 104) limit)
      (.jmp (.l6 (0 : Int) []))
    (.no))
  (.no)
def R_ref2_Copy : El T_api_State → AV := fun (r : El T_api_State) => .ag [.rw 2 (.int .i64) r.1, .rw 87 T_api_Thr r.2.1, .rw 82 (.sl T_api_Entry) r.2.2.1, .d (.int .i64) r.2.2.2]
def S_ref2_Copy (a : El T_api_State) : J_ref2_Copy → Nat × St
  | .l6 i b => (6, ⟨mkTm 35 [(1, .pt 2 0 0), (2, .pt 3 0 0), (3, .pt 4 0 0), (4, .d (.int .i64) i)], [(2, 0, .box 50 [.d (.sl (.int .i64)) a.1, .d (.sl T_api_Thr) a.2.1, .d (.sl (.sl T_api_Entry)) a.2.2.1, .d (.int .i64) a.2.2.2] none), (3, 0, .box 50 [.nil, .nil, .nil, .d (.int .i64) (0 : Int)] none), (4, 0, .box 50 [.own 4097 0 none, .own 4098 0 none, .own 4099 0 none, .d (.int .i64) a.2.2.2] none), (4097, 0, .row 2 (.int .i64) a.1 false), (4098, 0, .row 87 T_api_Thr a.2.1 false), (4099, 0, .row 82 (.sl T_api_Entry) b false)]⟩)
theorem en_ref2_Copy (a : El T_api_State) (L : Lt) : entryA Go.Proofs.Tryd.prog (clOf t_ref2_Copy) tb_ref2_Copy Go.Proofs.Tryd.f29 c_ref2_Copy L (toForms sg_ref2_Copy (a, ())) = (T0_ref2_Copy a).run (fun v => some (R_ref2_Copy v, tps (toForms sg_ref2_Copy (a, ())))) fun j => L (S_ref2_Copy a j).1 (S_ref2_Copy a j).2 := by kernel_rfl
theorem lp_ref2_Copy (a : El T_api_State) : ∀ (L : Lt) (j : J_ref2_Copy), procOf (procsF Go.Proofs.Tryd.prog (clOf t_ref2_Copy) tb_ref2_Copy Go.Proofs.Tryd.f29 c_ref2_Copy (toForms sg_ref2_Copy (a, ()))) (S_ref2_Copy a j).1 L (S_ref2_Copy a j).2 = (T_ref2_Copy a j).run (fun v => some (R_ref2_Copy v, tps (toForms sg_ref2_Copy (a, ())))) fun j => L (S_ref2_Copy a j).1 (S_ref2_Copy a j).2
  | L, .l6 i b => by kernel_rfl
end Go.Ev
end

section
set_option linter.unusedSectionVars false
set_option linter.unusedVariables false
set_option linter.unusedSimpArgs false
set_option linter.unusedVariables false
set_option linter.unusedSimpArgs false
open Go
namespace Go.Ev
def v_ref2_Copy (a : El T_api_State) : El T_api_State := a
def k_ref2_Copy (a : El T_api_State) : Bool := stateB a
theorem g_ref2_Copy (a : El T_api_State) (hk : k_ref2_Copy a = true) : Goes (T_ref2_Copy a) (T0_ref2_Copy a) (v_ref2_Copy a) := by
  have hS := stateOK hk
  have h1 := hS.mem
  have h2 := hS.thr
  have h3 := hS.bufs
  have loop : ∀ k, k ≤ List.length a.2.2.1 → Goes (T_ref2_Copy a) (.jmp (.l6 (k : Int) (a.2.2.1.take k))) a := by
    refine down ?_ fun k hk ih => ?_
    · rw [goes_jmp]
      simp only [T_ref2_Copy, goes_br, lt_len_not (Nat.lt_irrefl _), if_false, Bool.false_eq_true, List.take_length]
      exact .leaf
    · have hb := hS.buf _ (List.getElem_mem hk)
      have b1 : Nat.ble ((List.length a.2.2.1[k]) * 16) limit = true := bleM (by unfold limit; omega)
      have b2 : Nat.ble (((a.2.2.1.take k).length + 1) * 24) limit = true := bleM (by rw [List.length_take]; unfold limit; omega)
      rw [goes_jmp]
      simp only [T_ref2_Copy, goes_br, lt_len hk, nng, Bool.and_self, if_true, Int.toNat_natCast, getD_lt hk, b1, b2, wrap_succ (k := k) (by omega)]
      rw [← List.take_succ_eq_append_getElem hk]
      exact ih
  have b1 : Nat.ble ((List.length a.1) * 8) limit = true := bleM (by unfold limit; omega)
  have b2 : Nat.ble ((List.length a.2.1) * 104) limit = true := bleM (by unfold limit; omega)
  unfold T0_ref2_Copy v_ref2_Copy
  rw [goes_br, if_pos b1, goes_br, if_pos b2]
  exact loop 0 (Nat.zero_le _)
end Go.Ev
end

section
set_option linter.unusedSectionVars false
set_option linter.unusedVariables false
set_option linter.unusedSimpArgs false
set_option maxRecDepth 100000
set_option linter.unusedVariables false
open Go Go.Ev
namespace Go.Ev
noncomputable def e_ref2_Copy : Run := entG sg_ref2_Copy R_ref2_Copy (fun a => k_ref2_Copy a.1) (fun a => v_ref2_Copy a.1)
theorem ok_ref2_Copy : EntOK Go.Proofs.Tryd.prog 29 e_ref2_Copy := entG_ok (tb := tb_ref2_Copy) (c := c_ref2_Copy) tk_ref2_Copy (by kernel_rfl) (by kernel_rfl) (by kernel_rfl) (fun a => by kernel_rfl) fun ⟨a, _⟩ hk => evF_goes (c := c_ref2_Copy) (K := fun v => (R_ref2_Copy v, tps (toForms sg_ref2_Copy (a, ())))) (S := S_ref2_Copy a) (by kernel_rfl) (en_ref2_Copy a) (lp_ref2_Copy a) (g_ref2_Copy a hk)
end Go.Ev
end

section
set_option linter.unusedSectionVars false
set_option linter.unusedVariables false
set_option linter.unusedSimpArgs false
set_option maxRecDepth 100000
set_option linter.unusedVariables false
open Go Go.Ev
namespace Go.Ev
/-! ### paling/state.Copy -/
def sg_state_Copy : Sig := [(true, T_api_State)]
noncomputable def t_state_Copy : Tbl := []
theorem tk_state_Copy : ∀ p ∈ t_state_Copy, EntOK Go.Proofs.Tryd.prog p.1 p.2 := tbl_nil
noncomputable def c_state_Copy : Code := Go.Proofs.Tryd.f50.body.getD .skip
def tb_state_Copy : Tb := [(4, ⟨[2, 3, 18, 19, 20], [(4099, 96)]⟩)]
inductive J_state_Copy where
  | l4 (h : Int) (b : List (List (El T_api_Entry)))
def T_state_Copy (a : El T_api_State) : J_state_Copy → JT J_state_Copy (El T_api_State)
  | .l4 h b =>
    .br (decide (h < (Int.ofNat (List.length a.2.2.1))))
      (.br ((decide ((0 : Int) ≤ h)) && (decide (h < (Int.ofNat (List.length a.2.2.1)))))
        (.br (Nat.ble ((0 + (List.length (List.getD a.2.2.1 (Int.toNat h) (dflt (.sl T_api_Entry))))) * 16) limit)
          (.br (Nat.ble (((List.length b) + 1) * 24) limit)
            (.jmp (.l4 (IntKind.i64.wrap (h + (1 : Int))) (b ++ [(List.getD a.2.2.1 (Int.toNat h) (dflt (.sl T_api_Entry)))])))
          (.no))
        (.no))
      (.no))
    (.leaf (a.1, (a.2.1, (b, a.2.2.2))))
def T0_state_Copy (a : El T_api_State) : JT J_state_Copy (El T_api_State) :=
  .br (Nat.ble ((0 + (List.length a.1)) * 8) limit)
    (.br (Nat.ble ((0 + (List.length a.2.1)) * 104) limit)
      (.jmp (.l4 (0 : Int) []))
    (.no))
  (.no)
def R_state_Copy : El T_api_State → AV := fun (r : El T_api_State) => .ag [.rw 2 (.int .i64) r.1, .rw 87 T_api_Thr r.2.1, .rw 82 (.sl T_api_Entry) r.2.2.1, .d (.int .i64) r.2.2.2]
def S_state_Copy (a : El T_api_State) : J_state_Copy → Nat × St
  | .l4 h b => (4, ⟨mkTm 34 [(2, .pt 3 0 0), (3, .pt 4 0 0), (18, .d (.sl (.sl T_api_Entry)) a.2.2.1), (19, .d (.int .i64) (Int.ofNat (List.length a.2.2.1))), (20, .d (.int .i64) h)], [(3, 0, .box 50 [.nil, .nil, .nil, .d (.int .i64) (0 : Int)] none), (4, 0, .box 50 [.own 4097 0 none, .own 4098 0 none, .own 4099 0 none, .d (.int .i64) a.2.2.2] none), (4097, 0, .row 2 (.int .i64) a.1 false), (4098, 0, .row 87 T_api_Thr a.2.1 false), (4099, 0, .row 82 (.sl T_api_Entry) b false)]⟩)
theorem en_state_Copy (a : El T_api_State) (L : Lt) : entryA Go.Proofs.Tryd.prog (clOf t_state_Copy) tb_state_Copy Go.Proofs.Tryd.f50 c_state_Copy L (toForms sg_state_Copy (a, ())) = (T0_state_Copy a).run (fun v => some (R_state_Copy v, tps (toForms sg_state_Copy (a, ())))) fun j => L (S_state_Copy a j).1 (S_state_Copy a j).2 := by kernel_rfl
theorem lp_state_Copy (a : El T_api_State) : ∀ (L : Lt) (j : J_state_Copy), procOf (procsF Go.Proofs.Tryd.prog (clOf t_state_Copy) tb_state_Copy Go.Proofs.Tryd.f50 c_state_Copy (toForms sg_state_Copy (a, ()))) (S_state_Copy a j).1 L (S_state_Copy a j).2 = (T_state_Copy a j).run (fun v => some (R_state_Copy v, tps (toForms sg_state_Copy (a, ())))) fun j => L (S_state_Copy a j).1 (S_state_Copy a j).2
  | L, .l4 h b => by kernel_rfl
end Go.Ev
end

section
set_option linter.unusedSectionVars false
set_option linter.unusedVariables false
set_option linter.unusedSimpArgs false
set_option linter.unusedVariables false
set_option linter.unusedSimpArgs false
open Go
namespace Go.Ev
def v_state_Copy (a : El T_api_State) : El T_api_State := a
def k_state_Copy (a : El T_api_State) : Bool := stateB a
theorem g_state_Copy (a : El T_api_State) (hk : k_state_Copy a = true) : Goes (T_state_Copy a) (T0_state_Copy a) (v_state_Copy a) := by
  have hS := stateOK hk
  have h1 := hS.mem
  have h2 := hS.thr
  have h3 := hS.bufs
  have loop : ∀ k, k ≤ List.length a.2.2.1 → Goes (T_state_Copy a) (.jmp (.l4 (k : Int) (a.2.2.1.take k))) a := by
    refine down ?_ fun k hk ih => ?_
    · rw [goes_jmp]
      simp only [T_state_Copy, goes_br, lt_len_not (Nat.lt_irrefl _), if_false, Bool.false_eq_true, List.take_length]
      exact .leaf
    · have hb := hS.buf _ (List.getElem_mem hk)
      have b1 : Nat.ble ((0 + List.length a.2.2.1[k]) * 16) limit = true := bleM (by unfold limit; omega)
      have b2 : Nat.ble (((a.2.2.1.take k).length + 1) * 24) limit = true := bleM (by rw [List.length_take]; unfold limit; omega)
      rw [goes_jmp]
      simp only [T_state_Copy, goes_br, lt_len hk, nng, Bool.and_self, if_true, Int.toNat_natCast, getD_lt hk, b1, b2, wrap_succ (k := k) (by omega)]
      rw [← List.take_succ_eq_append_getElem hk]
      exact ih
  have b1 : Nat.ble ((0 + List.length a.1) * 8) limit = true := bleM (by unfold limit; omega)
  have b2 : Nat.ble ((0 + List.length a.2.1) * 104) limit = true := bleM (by unfold limit; omega)
  unfold T0_state_Copy v_state_Copy
  rw [goes_br, if_pos b1, goes_br, if_pos b2]
  exact loop 0 (Nat.zero_le _)
end Go.Ev
end

section
set_option linter.unusedSectionVars false
set_option linter.unusedVariables false
set_option linter.unusedSimpArgs false
set_option maxRecDepth 100000
set_option linter.unusedVariables false
open Go Go.Ev
namespace Go.Ev
noncomputable def e_state_Copy : Run := entG sg_state_Copy R_state_Copy (fun a => k_state_Copy a.1) (fun a => v_state_Copy a.1)
theorem ok_state_Copy : EntOK Go.Proofs.Tryd.prog 50 e_state_Copy := entG_ok (tb := tb_state_Copy) (c := c_state_Copy) tk_state_Copy (by kernel_rfl) (by kernel_rfl) (by kernel_rfl) (fun a => by kernel_rfl) fun ⟨a, _⟩ hk => evF_goes (c := c_state_Copy) (K := fun v => (R_state_Copy v, tps (toForms sg_state_Copy (a, ())))) (S := S_state_Copy a) (by kernel_rfl) (en_state_Copy a) (lp_state_Copy a) (g_state_Copy a hk)
end Go.Ev
end

section
set_option linter.unusedSectionVars false
set_option linter.unusedVariables false
set_option linter.unusedSimpArgs false
set_option maxRecDepth 100000
set_option linter.unusedVariables false
open Go Go.Ev
namespace Go.Ev
/-! ### paling/weave.State -/
def sg_weave_State : Sig := [(true, T_api_State), (false, (.sl (.sl (.int .i64))))]
noncomputable def t_weave_State : Tbl := [(50, e_state_Copy), (42, e_weave_of), (23, e_weave_Back)]
theorem tk_weave_State : ∀ p ∈ t_weave_State, EntOK Go.Proofs.Tryd.prog p.1 p.2 := tbl_cons ok_state_Copy (tbl_cons ok_weave_of (tbl_cons ok_weave_Back (tbl_nil)))
noncomputable def c_weave_State : Code := Go.Proofs.Tryd.f31.body.getD .skip
def tb_weave_State : Tb := [(4, ⟨[1, 4, 5, 11, 12], []⟩)]
inductive J_weave_State where
  | l4 (h : Int) (o : List (El T_api_Thr))
def T_weave_State (s : El T_api_State) (points : List (List Int)) : J_weave_State → JT J_weave_State (El T_api_State)
  | .l4 h o =>
    .br (decide (h < (Int.ofNat (List.length (v_state_Copy s).2.1))))
      (.br (k_weave_of points h)
        (.br ((decide ((0 : Int) ≤ h)) && (decide (h < (Int.ofNat (List.length o)))))
          (.br (k_weave_Back (v_weave_of points h) (List.getD o (Int.toNat h) (dflt T_api_Thr)).2.2.1)
            (.br ((decide ((0 : Int) ≤ h)) && (decide (h < (Int.ofNat (List.length o)))))
              (.jmp (.l4 (IntKind.i64.wrap (h + (1 : Int))) (List.set o (Int.toNat h) ((List.getD o (Int.toNat h) (dflt T_api_Thr)).1, ((List.getD o (Int.toNat h) (dflt T_api_Thr)).2.1, ((v_weave_Back (v_weave_of points h) (List.getD o (Int.toNat h) (dflt T_api_Thr)).2.2.1), (List.getD o (Int.toNat h) (dflt T_api_Thr)).2.2.2))))))
            (.no))
          (.no))
        (.no))
      (.no))
    (.leaf ((v_state_Copy s).1, (o, (v_state_Copy s).2.2)))
def T0_weave_State (s : El T_api_State) (points : List (List Int)) : JT J_weave_State (El T_api_State) :=
  .br (k_state_Copy s)
    (.jmp (.l4 (0 : Int) (v_state_Copy s).2.1))
  (.no)
def R_weave_State : El T_api_State → AV := fun (r : El T_api_State) => .ag [.rw 2 (.int .i64) r.1, .rw 87 T_api_Thr r.2.1, .rw 82 (.sl T_api_Entry) r.2.2.1, .d (.int .i64) r.2.2.2]
def S_weave_State (s : El T_api_State) (points : List (List Int)) : J_weave_State → Nat × St
  | .l4 h o => (4, ⟨mkTm 32 [(1, .d (.sl (.sl (.int .i64))) points), (4, .pt 5 0 0), (5, .pt 6 0 0), (11, .d (.int .i64) (Int.ofNat (List.length (v_state_Copy s).2.1))), (12, .d (.int .i64) h)], [(5, 0, .box 50 [.nil, .nil, .nil, .d (.int .i64) (0 : Int)] none), (6, 0, .box 50 [.own 6145 0 none, .own 6146 0 none, .own 6147 0 none, .d (.int .i64) (v_state_Copy s).2.2.2] none), (6145, 0, .row 2 (.int .i64) (v_state_Copy s).1 false), (6146, 0, .row 87 T_api_Thr o false), (6147, 0, .row 82 (.sl T_api_Entry) (v_state_Copy s).2.2.1 false)]⟩)
theorem en_weave_State (s : El T_api_State) (points : List (List Int)) (L : Lt) : entryA Go.Proofs.Tryd.prog (clOf t_weave_State) tb_weave_State Go.Proofs.Tryd.f31 c_weave_State L (toForms sg_weave_State (s, points, ())) = (T0_weave_State s points).run (fun v => some (R_weave_State v, tps (toForms sg_weave_State (s, points, ())))) fun j => L (S_weave_State s points j).1 (S_weave_State s points j).2 := by kernel_rfl
theorem lp_weave_State (s : El T_api_State) (points : List (List Int)) : ∀ (L : Lt) (j : J_weave_State), procOf (procsF Go.Proofs.Tryd.prog (clOf t_weave_State) tb_weave_State Go.Proofs.Tryd.f31 c_weave_State (toForms sg_weave_State (s, points, ()))) (S_weave_State s points j).1 L (S_weave_State s points j).2 = (T_weave_State s points j).run (fun v => some (R_weave_State v, tps (toForms sg_weave_State (s, points, ())))) fun j => L (S_weave_State s points j).1 (S_weave_State s points j).2
  | L, .l4 h o => by kernel_rfl
end Go.Ev
end

section
set_option linter.unusedSectionVars false
set_option linter.unusedVariables false
set_option linter.unusedSimpArgs false
set_option linter.unusedVariables false
set_option linter.unusedSimpArgs false
open Go
namespace Go.Ev
def v_weave_State (s : El T_api_State) (points : List (List Int)) : El T_api_State := placedC s points
def k_weave_State (s : El T_api_State) (points : List (List Int)) : Bool := stateB s && points.all fun l => decide (List.length l < 4611686018427387904)
theorem weave_of_is2 {points : List (List Int)} (t : Nat) : k_weave_of points t = true ∧ v_weave_of points t = points.getD t [] := by
  unfold k_weave_of v_weave_of
  by_cases h : t < points.length
  · have d : decide ((t : Int) ≥ Int.ofNat points.length) = false := decide_eq_false (by simp; omega)
    have d0 : decide ((t : Int) < 0) = false := decide_eq_false (by omega)
    simp only [lt_len h, nng, Bool.and_self, cond_true, cond_false, Int.toNat_natCast, true_and, d, d0]
    rfl
  · have d : decide ((t : Int) ≥ Int.ofNat points.length) = true := decide_eq_true (by simp; omega)
    have d0 : decide ((t : Int) < 0) = false := decide_eq_false (by omega)
    simp only [lt_len_not h, cond_false, cond_true, true_and, d, d0]
    rw [List.getD_eq_getElem?_getD, List.getElem?_eq_none (by omega)]
    rfl
theorem g_weave_State (s : El T_api_State) (points : List (List Int)) (hk : k_weave_State s points = true) : Goes (T_weave_State s points) (T0_weave_State s points) (v_weave_State s points) := by
  unfold k_weave_State at hk
  simp only [Bool.and_eq_true, List.all_eq_true, decide_eq_true_eq] at hk
  obtain ⟨hsb, hpl⟩ := hk
  have hS := stateOK hsb
  have hth := hS.thr
  have hkc : k_state_Copy s = true := hsb
  have hvc : v_state_Copy s = s := rfl
  obtain ⟨R, hR⟩ : ∃ R, placedT points s.2.1 = R := ⟨_, rfl⟩
  have hRl : R.length = List.length s.2.1 := by rw [← hR]; exact placedT_len points s.2.1
  have hRg : ∀ t (h : t < List.length s.2.1), R[t]'(by omega) = backT (points.getD t []) s.2.1[t] := fun t h => by
    have := placedT_get points s.2.1 t h
    rw [hR, List.getElem?_eq_getElem (by omega)] at this
    exact Option.some.inj this
  have loop : ∀ t, t ≤ List.length s.2.1 → Goes (T_weave_State s points) (.jmp (.l4 (t : Int) (R.take t ++ s.2.1.drop t))) (s.1, (R, s.2.2)) := by
    refine down ?_ fun t ht ih => ?_
    · have hll : (R.take (List.length s.2.1) ++ s.2.1.drop (List.length s.2.1)).length = List.length s.2.1 := mix_len hRl (Nat.le_refl _)
      rw [goes_jmp]
      simp only [T_weave_State, goes_br, hvc, hll, lt_len_not (Nat.lt_irrefl _), if_false, Bool.false_eq_true, List.drop_length, List.append_nil]
      rw [show List.take (List.length s.2.1) R = R by rw [← hRl, List.take_length]]
      exact .leaf
    · obtain ⟨o1, o2⟩ := weave_of_is2 (points := points) t
      have hql := mix_len (k := t) hRl (by omega)
      have hqt : t < (R.take t ++ s.2.1.drop t).length := by omega
      have hqg : (R.take t ++ s.2.1.drop t)[t] = s.2.1[t] := by
        have := mix_get (k := t) hRl ht
        rw [List.getElem?_eq_getElem hqt] at this
        exact Option.some.inj this
      have hset := mix_set hRl ht
      rw [hRg t ht] at hset
      obtain ⟨pts, hpts⟩ : ∃ pts, points.getD t [] = pts := ⟨_, rfl⟩
      have hpb : pts.length < 4611686018427387904 := by
        rw [← hpts, List.getD_eq_getElem?_getD]
        cases h : points[t]? with
        | none => simp
        | some l => exact hpl l (List.mem_of_getElem? h)
      have kB : ∀ x, k_weave_Back pts x = true := fun x => decide_eq_true hpb
      have vB : ∀ x, v_weave_Back pts x = backC pts x := fun x => rfl
      rw [hpts] at hset o2
      rw [goes_jmp]
      simp only [T_weave_State, goes_br, hvc, lt_len ht, lt_len hqt, nng, Bool.and_self, if_true, Int.toNat_natCast, getD_lt hqt, hqg, o1, o2, kB, vB, wrap_succ (k := t) (by omega)]
      unfold backT at hset
      rw [hset]
      exact ih
  unfold T0_weave_State v_weave_State placedC
  rw [goes_br, if_pos hkc, hvc, hR]
  have := loop 0 (Nat.zero_le _)
  simpa using this
end Go.Ev
end

section
set_option linter.unusedSectionVars false
set_option linter.unusedVariables false
set_option linter.unusedSimpArgs false
set_option maxRecDepth 100000
set_option linter.unusedVariables false
open Go Go.Ev
namespace Go.Ev
noncomputable def e_weave_State : Run := entG sg_weave_State R_weave_State (fun a => k_weave_State a.1 a.2.1) (fun a => v_weave_State a.1 a.2.1)
theorem ok_weave_State : EntOK Go.Proofs.Tryd.prog 31 e_weave_State := entG_ok (tb := tb_weave_State) (c := c_weave_State) tk_weave_State (by kernel_rfl) (by kernel_rfl) (by kernel_rfl) (fun a => by kernel_rfl) fun ⟨s, points, _⟩ hk => evF_goes (c := c_weave_State) (K := fun v => (R_weave_State v, tps (toForms sg_weave_State (s, points, ())))) (S := S_weave_State s points) (by kernel_rfl) (en_weave_State s points) (lp_weave_State s points) (g_weave_State s points hk)
end Go.Ev
end

section
set_option linter.unusedSectionVars false
set_option linter.unusedVariables false
set_option linter.unusedSimpArgs false
set_option maxRecDepth 100000
set_option linter.unusedVariables false
open Go Go.Ev
namespace Go.Ev
/-! ### paling/palingref3.of -/
def sg_ref3_of : Sig := [(false, (.sl (.sl (.int .i64)))), (false, (.int .i64))]
noncomputable def t_ref3_of : Tbl := []
theorem tk_ref3_of : ∀ p ∈ t_ref3_of, EntOK Go.Proofs.Tryd.prog p.1 p.2 := tbl_nil
noncomputable def c_ref3_of : Code := Go.Proofs.Tryd.f51.body.getD .skip
def tb_ref3_of : Tb := [(hintK, ⟨[], [(1, 73)]⟩)]
def T_ref3_of (l : List (List Int)) (t : Int) : Empty → JT Empty (List Int) := fun j => nomatch j
def T0_ref3_of (l : List (List Int)) (t : Int) : JT Empty (List Int) :=
  .br (decide (t < (0 : Int)))
    (.leaf [])
  (.br (decide (t ≥ (Int.ofNat (List.length l))))
    (.leaf [])
  (.br ((decide ((0 : Int) ≤ t)) && (decide (t < (Int.ofNat (List.length l)))))
    (.leaf (List.getD l (Int.toNat t) (dflt (.sl (.int .i64)))))
  (.no)))
def v_ref3_of (l : List (List Int)) (t : Int) : List Int :=
  bif (decide (t < (0 : Int))) then
    []
  else bif (decide (t ≥ (Int.ofNat (List.length l)))) then
    []
  else bif ((decide ((0 : Int) ≤ t)) && (decide (t < (Int.ofNat (List.length l))))) then
    (List.getD l (Int.toNat t) (dflt (.sl (.int .i64))))
  else []
def k_ref3_of (l : List (List Int)) (t : Int) : Bool :=
  bif (decide (t < (0 : Int))) then
    true
  else bif (decide (t ≥ (Int.ofNat (List.length l)))) then
    true
  else bif ((decide ((0 : Int) ≤ t)) && (decide (t < (Int.ofNat (List.length l))))) then
    true
  else false
theorem g_ref3_of (l : List (List Int)) (t : Int) (hk : k_ref3_of l t = true) : Goes (T_ref3_of l t) (T0_ref3_of l t) (v_ref3_of l t) :=
  Goes.brk hk (fun hk =>
    Goes.leaf) (fun hk =>
    Goes.brk hk (fun hk =>
      Goes.leaf) (fun hk =>
      Goes.brk hk (fun hk =>
        Goes.leaf) (fun hk =>
        Goes.nok hk)))
def R_ref3_of : List Int → AV := fun (r : List Int) => .d (.sl (.int .i64)) r
def S_ref3_of (l : List (List Int)) (t : Int) : Empty → Nat × St := fun j => nomatch j
theorem en_ref3_of (l : List (List Int)) (t : Int) (L : Lt) : entryA Go.Proofs.Tryd.prog (clOf t_ref3_of) tb_ref3_of Go.Proofs.Tryd.f51 c_ref3_of L (toForms sg_ref3_of (l, t, ())) = (T0_ref3_of l t).run (fun v => some (R_ref3_of v, tps (toForms sg_ref3_of (l, t, ())))) fun j => L (S_ref3_of l t j).1 (S_ref3_of l t j).2 := by kernel_rfl
theorem lp_ref3_of (l : List (List Int)) (t : Int) : ∀ (L : Lt) (j : Empty), procOf (procsF Go.Proofs.Tryd.prog (clOf t_ref3_of) tb_ref3_of Go.Proofs.Tryd.f51 c_ref3_of (toForms sg_ref3_of (l, t, ()))) (S_ref3_of l t j).1 L (S_ref3_of l t j).2 = (T_ref3_of l t j).run (fun v => some (R_ref3_of v, tps (toForms sg_ref3_of (l, t, ())))) fun j => L (S_ref3_of l t j).1 (S_ref3_of l t j).2 := fun L j => nomatch j
noncomputable def e_ref3_of : Run := entG sg_ref3_of R_ref3_of (fun a => k_ref3_of a.1 a.2.1) (fun a => v_ref3_of a.1 a.2.1)
theorem ok_ref3_of : EntOK Go.Proofs.Tryd.prog 51 e_ref3_of := entG_ok (tb := tb_ref3_of) (c := c_ref3_of) tk_ref3_of (by kernel_rfl) (by kernel_rfl) (by kernel_rfl) (fun a => by kernel_rfl) fun ⟨l, t, _⟩ hk => evF_goes (c := c_ref3_of) (K := fun v => (R_ref3_of v, tps (toForms sg_ref3_of (l, t, ())))) (S := S_ref3_of l t) (by kernel_rfl) (en_ref3_of l t) (lp_ref3_of l t) (g_ref3_of l t hk)
end Go.Ev
end

section
set_option linter.unusedSectionVars false
set_option linter.unusedVariables false
set_option linter.unusedSimpArgs false
set_option maxRecDepth 100000
set_option linter.unusedVariables false
open Go Go.Ev
namespace Go.Ev
/-! ### paling/palingref3.Fences -/
def sg_ref3_Fences : Sig := [(false, (.sl (.int .i64)))]
noncomputable def t_ref3_Fences : Tbl := [(44, e_ref3_Rising)]
theorem tk_ref3_Fences : ∀ p ∈ t_ref3_Fences, EntOK Go.Proofs.Tryd.prog p.1 p.2 := tbl_cons ok_ref3_Rising (tbl_nil)
noncomputable def c_ref3_Fences : Code := Go.Proofs.Tryd.f22.body.getD .skip
def tb_ref3_Fences : Tb := [(7, ⟨[0, 3, 4], [(4, 72)]⟩), (hintK, ⟨[], [(1, 72)]⟩)]
inductive J_ref3_Fences where
  | l7 (i : Int) (out : List Int)
def T_ref3_Fences (points : List Int) : J_ref3_Fences → JT J_ref3_Fences (List Int)
  | .l7 i out =>
    .br (decide (i < (Int.ofNat (List.length points))))
      (.br ((decide ((0 : Int) ≤ i)) && (decide (i < (Int.ofNat (List.length points)))))
        (.br (Nat.ble (((List.length out) + 1) * 8) limit)
          (.jmp (.l7 (IntKind.i64.wrap (i + (1 : Int))) (out ++ [(IntKind.i64.wrap ((List.getD points (Int.toNat i) (dflt (.int .i64))) + i))])))
        (.no))
      (.no))
    (.leaf out)
def T0_ref3_Fences (points : List Int) : JT J_ref3_Fences (List Int) :=
  .br (k_ref3_Rising points)
    (.br (! (v_ref3_Rising points))
      (.leaf [])
    (.jmp (.l7 (0 : Int) [])))
  (.no)
def R_ref3_Fences : List Int → AV := fun (r : List Int) => .rw 3 (.int .i64) r
def S_ref3_Fences (points : List Int) : J_ref3_Fences → Nat × St
  | .l7 i out => (7, ⟨mkTm 24 [(0, .d (.sl (.int .i64)) points), (3, .own 4 0 none), (4, .d (.int .i64) i)], [(4, 0, .row 3 (.int .i64) out false)]⟩)
theorem en_ref3_Fences (points : List Int) (L : Lt) : entryA Go.Proofs.Tryd.prog (clOf t_ref3_Fences) tb_ref3_Fences Go.Proofs.Tryd.f22 c_ref3_Fences L (toForms sg_ref3_Fences (points, ())) = (T0_ref3_Fences points).run (fun v => some (R_ref3_Fences v, tps (toForms sg_ref3_Fences (points, ())))) fun j => L (S_ref3_Fences points j).1 (S_ref3_Fences points j).2 := by kernel_rfl
theorem lp_ref3_Fences (points : List Int) : ∀ (L : Lt) (j : J_ref3_Fences), procOf (procsF Go.Proofs.Tryd.prog (clOf t_ref3_Fences) tb_ref3_Fences Go.Proofs.Tryd.f22 c_ref3_Fences (toForms sg_ref3_Fences (points, ()))) (S_ref3_Fences points j).1 L (S_ref3_Fences points j).2 = (T_ref3_Fences points j).run (fun v => some (R_ref3_Fences v, tps (toForms sg_ref3_Fences (points, ())))) fun j => L (S_ref3_Fences points j).1 (S_ref3_Fences points j).2
  | L, .l7 i out => by kernel_rfl
end Go.Ev
end

section
set_option linter.unusedSectionVars false
set_option linter.unusedVariables false
set_option linter.unusedSimpArgs false
set_option linter.unusedVariables false
set_option linter.unusedSimpArgs false
open Go
namespace Go.Ev
def v_ref3_Fences (points : List Int) : List Int := fencesC points
def k_ref3_Fences (points : List Int) : Bool := decide (points.length < 4611686018427387904)
theorem g_ref3_Fences (l : List Int) (hk : k_ref3_Fences l = true) : Goes (T_ref3_Fences l) (T0_ref3_Fences l) (v_ref3_Fences l) := by
  have hn : l.length < 4611686018427387904 := of_decide_eq_true hk
  have hko : k_ref3_Rising l = true := hk
  unfold T0_ref3_Fences v_ref3_Fences fencesC
  simp only [goes_br, hko, if_true, v_ref3_Rising]
  by_cases hr : rising l = true
  · rw [if_neg (by simp [hr]), if_pos hr]
    have hlen := rising_length hr
    have hs := (rising_spec.1 hr).1
    have loop : ∀ k, k ≤ l.length → ∀ out : List Int, out.length = k → Goes (T_ref3_Fences l) (.jmp (.l7 (k : Int) out)) (out ++ fencesFrom k (l.drop k)) := by
      refine down ?_ fun k hk ih => ?_
      · intro out ho
        rw [goes_jmp]
        simp only [T_ref3_Fences, goes_br, lt_len_not (Nat.lt_irrefl _), List.drop_length]
        rw [show fencesFrom l.length [] = [] from rfl, List.append_nil]
        exact .leaf
      · intro out ho
        rw [goes_jmp, drop_cons hk]
        have hb := hs _ (List.getElem_mem hk)
        obtain ⟨n, hn'⟩ : ∃ n : Int, l[k] = n := ⟨_, rfl⟩
        rw [hn'] at hb ⊢
        have b1 : Nat.ble ((out.length + 1) * 8) limit = true := Nat.ble_eq_true_of_le (by unfold limit; omega)
        simp only [T_ref3_Fences, goes_br, lt_len hk, nng, Bool.and_self, if_true, Int.toNat_natCast, getD_lt hk, hn', wrap_succ (k := k) (by omega), b1, wrap_i64 (n := n + k) (by omega) (by omega)]
        have := ih (out ++ [n + k]) (by rw [List.length_append, ho]; rfl)
        rw [List.append_assoc] at this
        exact this
    have := loop 0 (Nat.zero_le _) [] rfl
    simpa using this
  · have hr' : rising l = false := by simpa using hr
    rw [if_pos (by simp [hr']), if_neg hr]
    exact .leaf
end Go.Ev
end

section
set_option linter.unusedSectionVars false
set_option linter.unusedVariables false
set_option linter.unusedSimpArgs false
set_option maxRecDepth 100000
set_option linter.unusedVariables false
open Go Go.Ev
namespace Go.Ev
noncomputable def e_ref3_Fences : Run := entG sg_ref3_Fences R_ref3_Fences (fun a => k_ref3_Fences a.1) (fun a => v_ref3_Fences a.1)
theorem ok_ref3_Fences : EntOK Go.Proofs.Tryd.prog 22 e_ref3_Fences := entG_ok (tb := tb_ref3_Fences) (c := c_ref3_Fences) tk_ref3_Fences (by kernel_rfl) (by kernel_rfl) (by kernel_rfl) (fun a => by kernel_rfl) fun ⟨points, _⟩ hk => evF_goes (c := c_ref3_Fences) (K := fun v => (R_ref3_Fences v, tps (toForms sg_ref3_Fences (points, ())))) (S := S_ref3_Fences points) (by kernel_rfl) (en_ref3_Fences points) (lp_ref3_Fences points) (g_ref3_Fences points hk)
end Go.Ev
end

section
set_option linter.unusedSectionVars false
set_option linter.unusedVariables false
set_option linter.unusedSimpArgs false
set_option maxRecDepth 100000
set_option linter.unusedVariables false
open Go Go.Ev
namespace Go.Ev
/-! ### paling/palingref3.Behind -/
def sg_ref3_Behind : Sig := [(false, (.sl (.int .i64))), (false, (.int .i64))]
noncomputable def t_ref3_Behind : Tbl := [(44, e_ref3_Rising), (22, e_ref3_Fences)]
theorem tk_ref3_Behind : ∀ p ∈ t_ref3_Behind, EntOK Go.Proofs.Tryd.prog p.1 p.2 := tbl_cons ok_ref3_Rising (tbl_cons ok_ref3_Fences (tbl_nil))
noncomputable def c_ref3_Behind : Code := Go.Proofs.Tryd.f24.body.getD .skip
def tb_ref3_Behind : Tb := [(8, ⟨[1, 5, 6, 7], []⟩)]
inductive J_ref3_Behind where
  | l8 (n : Int) (i : Int)
def T_ref3_Behind (points : List Int) (pc : Int) : J_ref3_Behind → JT J_ref3_Behind (Int)
  | .l8 n i =>
    .br (decide (i < (Int.ofNat (List.length (v_ref3_Fences points)))))
      (.br ((decide ((0 : Int) ≤ i)) && (decide (i < (Int.ofNat (List.length (v_ref3_Fences points))))))
        (.br (decide ((List.getD (v_ref3_Fences points) (Int.toNat i) (dflt (.int .i64))) < pc))
          (.jmp (.l8 (IntKind.i64.wrap (n + (1 : Int))) (IntKind.i64.wrap (i + (1 : Int)))))
        (.jmp (.l8 n (IntKind.i64.wrap (i + (1 : Int))))))
      (.no))
    (.leaf (IntKind.i64.wrap (pc - n)))
def T0_ref3_Behind (points : List Int) (pc : Int) : JT J_ref3_Behind (Int) :=
  .br (k_ref3_Rising points)
    (.br (! (v_ref3_Rising points))
      (.leaf pc)
    (.br (decide (pc < (0 : Int)))
      (.leaf pc)
    (.br (decide (pc ≥ (2147483648 : Int)))
      (.leaf pc)
    (.br (k_ref3_Fences points)
      (.jmp (.l8 (0 : Int) (0 : Int)))
    (.no)))))
  (.no)
def R_ref3_Behind : Int → AV := fun (r : Int) => .d (.int .i64) r
def S_ref3_Behind (points : List Int) (pc : Int) : J_ref3_Behind → Nat × St
  | .l8 n i => (8, ⟨mkTm 39 [(1, .d (.int .i64) pc), (5, .d (.int .i64) n), (6, .own 7 0 none), (7, .d (.int .i64) i)], [(7, 0, .row 3 (.int .i64) (v_ref3_Fences points) false)]⟩)
theorem en_ref3_Behind (points : List Int) (pc : Int) (L : Lt) : entryA Go.Proofs.Tryd.prog (clOf t_ref3_Behind) tb_ref3_Behind Go.Proofs.Tryd.f24 c_ref3_Behind L (toForms sg_ref3_Behind (points, pc, ())) = (T0_ref3_Behind points pc).run (fun v => some (R_ref3_Behind v, tps (toForms sg_ref3_Behind (points, pc, ())))) fun j => L (S_ref3_Behind points pc j).1 (S_ref3_Behind points pc j).2 := by kernel_rfl
theorem lp_ref3_Behind (points : List Int) (pc : Int) : ∀ (L : Lt) (j : J_ref3_Behind), procOf (procsF Go.Proofs.Tryd.prog (clOf t_ref3_Behind) tb_ref3_Behind Go.Proofs.Tryd.f24 c_ref3_Behind (toForms sg_ref3_Behind (points, pc, ()))) (S_ref3_Behind points pc j).1 L (S_ref3_Behind points pc j).2 = (T_ref3_Behind points pc j).run (fun v => some (R_ref3_Behind v, tps (toForms sg_ref3_Behind (points, pc, ())))) fun j => L (S_ref3_Behind points pc j).1 (S_ref3_Behind points pc j).2
  | L, .l8 n i => by kernel_rfl
end Go.Ev
end

section
set_option linter.unusedSectionVars false
set_option linter.unusedVariables false
set_option linter.unusedSimpArgs false
set_option linter.unusedVariables false
set_option linter.unusedSimpArgs false
open Go
namespace Go.Ev
def v_ref3_Behind (points : List Int) (pc : Int) : Int := backC points pc
def k_ref3_Behind (points : List Int) (pc : Int) : Bool := decide (points.length < 4611686018427387904)
theorem g_ref3_Behind (l : List Int) (pc : Int) (hk : k_ref3_Behind l pc = true) : Goes (T_ref3_Behind l pc) (T0_ref3_Behind l pc) (v_ref3_Behind l pc) := by
  have hn : l.length < 4611686018427387904 := of_decide_eq_true hk
  have hkf : k_ref3_Fences l = true := hk
  have hfl := fencesC_len l
  obtain ⟨fs, hfs⟩ : ∃ fs, fencesC l = fs := ⟨_, rfl⟩
  rw [hfs] at hfl
  have hvf : v_ref3_Fences l = fs := hfs
  have loop : 0 ≤ pc → pc ≤ 2147483647 → ∀ k, k ≤ fs.length → ∀ n : Nat, n ≤ k → Goes (T_ref3_Behind l pc) (.jmp (.l8 (n : Int) (k : Int))) (pc - ((n + below (fs.drop k) pc : Nat) : Int)) := by
    intro h0 h1
    refine down ?_ fun k hk ih => ?_
    · intro n hnk
      rw [goes_jmp]
      simp only [T_ref3_Behind, goes_br, hvf, lt_len_not (Nat.lt_irrefl _), List.drop_length, if_false, Bool.false_eq_true]
      rw [show below [] pc = 0 from rfl, Nat.add_zero, wrap_i64 (by omega) (by omega)]
      exact .leaf
    · intro n hnk
      rw [goes_jmp, drop_cons hk]
      simp only [T_ref3_Behind, goes_br, hvf, lt_len hk, nng, Bool.and_self, if_true, Int.toNat_natCast, getD_lt hk, wrap_succ (k := k) (by omega), wrap_succ (k := n) (by omega)]
      have e : below (fs[k] :: List.drop (k + 1) fs) pc = (if decide (fs[k] < pc) = true then 1 else 0) + below (List.drop (k + 1) fs) pc := by
        unfold below
        rw [List.countP_cons, Nat.add_comm]
      split
      · rename_i h
        rw [e, if_pos h, ← Nat.add_assoc]
        exact ih (n + 1) (by omega)
      · rename_i h
        rw [e, if_neg h, Nat.zero_add]
        exact ih n (by omega)
  unfold T0_ref3_Behind v_ref3_Behind backC
  rw [hfs]
  by_cases h0 : pc < 0
  · rw [if_pos (.inl h0)]
    have hkr : k_ref3_Rising l = true := hk
    simp only [goes_br, hkr, if_true, v_ref3_Rising, decide_eq_true h0]
    split <;> exact .leaf
  · by_cases h1 : 2147483647 < pc
    · rw [if_pos (.inr h1)]
      have hkr : k_ref3_Rising l = true := hk
      have h2 : decide (pc ≥ 2147483648) = true := decide_eq_true (by omega)
      simp only [goes_br, hkr, if_true, v_ref3_Rising, decide_eq_false h0, h2]
      split
      · exact .leaf
      · exact .leaf
    · rw [if_neg (by omega)]
      have := loop (by omega) (by omega) 0 (Nat.zero_le _) 0 (Nat.le_refl _)
      rw [Nat.zero_add, List.drop_zero] at this
      have hkr : k_ref3_Rising l = true := hk
      have h2 : decide (pc ≥ 2147483648) = false := decide_eq_false (by omega)
      simp only [goes_br, hkr, if_true, v_ref3_Rising, decide_eq_false h0, h2, hkf]
      by_cases hr : rising l = true
      · rw [if_neg (by simp [hr])]
        simpa using this
      · rw [if_pos (by simpa using hr)]
        have hf : fs = [] := by rw [← hfs]; unfold fencesC; rw [if_neg hr]
        rw [hf, show below [] pc = 0 from rfl]
        simpa using Goes.leaf
end Go.Ev
end

section
set_option linter.unusedSectionVars false
set_option linter.unusedVariables false
set_option linter.unusedSimpArgs false
set_option maxRecDepth 100000
set_option linter.unusedVariables false
open Go Go.Ev
namespace Go.Ev
noncomputable def e_ref3_Behind : Run := entG sg_ref3_Behind R_ref3_Behind (fun a => k_ref3_Behind a.1 a.2.1) (fun a => v_ref3_Behind a.1 a.2.1)
theorem ok_ref3_Behind : EntOK Go.Proofs.Tryd.prog 24 e_ref3_Behind := entG_ok (tb := tb_ref3_Behind) (c := c_ref3_Behind) tk_ref3_Behind (by kernel_rfl) (by kernel_rfl) (by kernel_rfl) (fun a => by kernel_rfl) fun ⟨points, pc, _⟩ hk => evF_goes (c := c_ref3_Behind) (K := fun v => (R_ref3_Behind v, tps (toForms sg_ref3_Behind (points, pc, ())))) (S := S_ref3_Behind points pc) (by kernel_rfl) (en_ref3_Behind points pc) (lp_ref3_Behind points pc) (g_ref3_Behind points pc hk)
end Go.Ev
end

section
set_option linter.unusedSectionVars false
set_option linter.unusedVariables false
set_option linter.unusedSimpArgs false
set_option maxRecDepth 100000
set_option linter.unusedVariables false
open Go Go.Ev
namespace Go.Ev
/-! ### paling/palingref3.Placed -/
def sg_ref3_Placed : Sig := [(true, T_api_State), (false, (.sl (.sl (.int .i64))))]
noncomputable def t_ref3_Placed : Tbl := [(29, e_ref2_Copy), (51, e_ref3_of), (24, e_ref3_Behind)]
theorem tk_ref3_Placed : ∀ p ∈ t_ref3_Placed, EntOK Go.Proofs.Tryd.prog p.1 p.2 := tbl_cons ok_ref2_Copy (tbl_cons ok_ref3_of (tbl_cons ok_ref3_Behind (tbl_nil)))
noncomputable def c_ref3_Placed : Code := Go.Proofs.Tryd.f32.body.getD .skip
def tb_ref3_Placed : Tb := [(4, ⟨[1, 2, 4, 5], []⟩)]
inductive J_ref3_Placed where
  | l4 (t : Int) (s1 : List (El T_api_Thr))
def T_ref3_Placed (s : El T_api_State) (points : List (List Int)) : J_ref3_Placed → JT J_ref3_Placed (El T_api_State)
  | .l4 t s1 =>
    .br (decide (t < (Int.ofNat (List.length s1))))
      (.br (k_ref3_of points t)
        (.br ((decide ((0 : Int) ≤ t)) && (decide (t < (Int.ofNat (List.length s1)))))
          (.br (k_ref3_Behind (v_ref3_of points t) (List.getD s1 (Int.toNat t) (dflt T_api_Thr)).2.2.1)
            (.br ((decide ((0 : Int) ≤ t)) && (decide (t < (Int.ofNat (List.length s1)))))
              (.jmp (.l4 (IntKind.i64.wrap (t + (1 : Int))) (List.set s1 (Int.toNat t) ((List.getD s1 (Int.toNat t) (dflt T_api_Thr)).1, ((List.getD s1 (Int.toNat t) (dflt T_api_Thr)).2.1, ((v_ref3_Behind (v_ref3_of points t) (List.getD s1 (Int.toNat t) (dflt T_api_Thr)).2.2.1), (List.getD s1 (Int.toNat t) (dflt T_api_Thr)).2.2.2))))))
            (.no))
          (.no))
        (.no))
      (.no))
    (.leaf ((v_ref2_Copy s).1, (s1, (v_ref2_Copy s).2.2)))
def T0_ref3_Placed (s : El T_api_State) (points : List (List Int)) : JT J_ref3_Placed (El T_api_State) :=
  .br (k_ref2_Copy s)
    (.jmp (.l4 (0 : Int) (v_ref2_Copy s).2.1))
  (.no)
def R_ref3_Placed : El T_api_State → AV := fun (r : El T_api_State) => .ag [.rw 2 (.int .i64) r.1, .rw 87 T_api_Thr r.2.1, .rw 82 (.sl T_api_Entry) r.2.2.1, .d (.int .i64) r.2.2.2]
def S_ref3_Placed (s : El T_api_State) (points : List (List Int)) : J_ref3_Placed → Nat × St
  | .l4 t s1 => (4, ⟨mkTm 31 [(1, .d (.sl (.sl (.int .i64))) points), (2, .pt 3 0 0), (4, .pt 5 0 0), (5, .d (.int .i64) t)], [(3, 0, .box 50 [.own 3073 0 none, .own 3074 0 none, .own 3075 0 none, .d (.int .i64) (v_ref2_Copy s).2.2.2] none), (5, 0, .box 50 [.nil, .nil, .nil, .d (.int .i64) (0 : Int)] none), (3073, 0, .row 2 (.int .i64) (v_ref2_Copy s).1 false), (3074, 0, .row 87 T_api_Thr s1 false), (3075, 0, .row 82 (.sl T_api_Entry) (v_ref2_Copy s).2.2.1 false)]⟩)
theorem en_ref3_Placed (s : El T_api_State) (points : List (List Int)) (L : Lt) : entryA Go.Proofs.Tryd.prog (clOf t_ref3_Placed) tb_ref3_Placed Go.Proofs.Tryd.f32 c_ref3_Placed L (toForms sg_ref3_Placed (s, points, ())) = (T0_ref3_Placed s points).run (fun v => some (R_ref3_Placed v, tps (toForms sg_ref3_Placed (s, points, ())))) fun j => L (S_ref3_Placed s points j).1 (S_ref3_Placed s points j).2 := by kernel_rfl
theorem lp_ref3_Placed (s : El T_api_State) (points : List (List Int)) : ∀ (L : Lt) (j : J_ref3_Placed), procOf (procsF Go.Proofs.Tryd.prog (clOf t_ref3_Placed) tb_ref3_Placed Go.Proofs.Tryd.f32 c_ref3_Placed (toForms sg_ref3_Placed (s, points, ()))) (S_ref3_Placed s points j).1 L (S_ref3_Placed s points j).2 = (T_ref3_Placed s points j).run (fun v => some (R_ref3_Placed v, tps (toForms sg_ref3_Placed (s, points, ())))) fun j => L (S_ref3_Placed s points j).1 (S_ref3_Placed s points j).2
  | L, .l4 t s1 => by kernel_rfl
end Go.Ev
end

section
set_option linter.unusedSectionVars false
set_option linter.unusedVariables false
set_option linter.unusedSimpArgs false
set_option linter.unusedVariables false
set_option linter.unusedSimpArgs false
open Go
namespace Go.Ev
def v_ref3_Placed (s : El T_api_State) (points : List (List Int)) : El T_api_State := placedC s points
def k_ref3_Placed (s : El T_api_State) (points : List (List Int)) : Bool := stateB s && points.all fun l => decide (List.length l < 4611686018427387904)
theorem ref3_of_is2 {points : List (List Int)} (t : Nat) : k_ref3_of points t = true ∧ v_ref3_of points t = points.getD t [] := by
  unfold k_ref3_of v_ref3_of
  by_cases h : t < points.length
  · have d : decide ((t : Int) ≥ Int.ofNat points.length) = false := decide_eq_false (by simp; omega)
    have d0 : decide ((t : Int) < 0) = false := decide_eq_false (by omega)
    simp only [lt_len h, nng, Bool.and_self, cond_true, cond_false, Int.toNat_natCast, true_and, d, d0]
    rfl
  · have d : decide ((t : Int) ≥ Int.ofNat points.length) = true := decide_eq_true (by simp; omega)
    have d0 : decide ((t : Int) < 0) = false := decide_eq_false (by omega)
    simp only [lt_len_not h, cond_false, cond_true, true_and, d, d0]
    rw [List.getD_eq_getElem?_getD, List.getElem?_eq_none (by omega)]
    rfl
theorem g_ref3_Placed (s : El T_api_State) (points : List (List Int)) (hk : k_ref3_Placed s points = true) : Goes (T_ref3_Placed s points) (T0_ref3_Placed s points) (v_ref3_Placed s points) := by
  unfold k_ref3_Placed at hk
  simp only [Bool.and_eq_true, List.all_eq_true, decide_eq_true_eq] at hk
  obtain ⟨hsb, hpl⟩ := hk
  have hS := stateOK hsb
  have hth := hS.thr
  have hkc : k_ref2_Copy s = true := hsb
  have hvc : v_ref2_Copy s = s := rfl
  obtain ⟨R, hR⟩ : ∃ R, placedT points s.2.1 = R := ⟨_, rfl⟩
  have hRl : R.length = List.length s.2.1 := by rw [← hR]; exact placedT_len points s.2.1
  have hRg : ∀ t (h : t < List.length s.2.1), R[t]'(by omega) = backT (points.getD t []) s.2.1[t] := fun t h => by
    have := placedT_get points s.2.1 t h
    rw [hR, List.getElem?_eq_getElem (by omega)] at this
    exact Option.some.inj this
  have loop : ∀ t, t ≤ List.length s.2.1 → Goes (T_ref3_Placed s points) (.jmp (.l4 (t : Int) (R.take t ++ s.2.1.drop t))) (s.1, (R, s.2.2)) := by
    refine down ?_ fun t ht ih => ?_
    · rw [show R.take (List.length s.2.1) ++ s.2.1.drop (List.length s.2.1) = R by rw [← hRl, List.take_length, List.drop_eq_nil_of_le (by omega), List.append_nil]]
      have e : decide (((List.length s.2.1 : Nat) : Int) < Int.ofNat (List.length R)) = false := by rw [hRl]; exact lt_len_not (Nat.lt_irrefl _)
      rw [goes_jmp]
      simp only [T_ref3_Placed, goes_br, hvc, e, if_false, Bool.false_eq_true]
      exact .leaf
    · obtain ⟨o1, o2⟩ := ref3_of_is2 (points := points) t
      have hql := mix_len (k := t) hRl (by omega)
      have hqt : t < (R.take t ++ s.2.1.drop t).length := by omega
      have hqg : (R.take t ++ s.2.1.drop t)[t] = s.2.1[t] := by
        have := mix_get (k := t) hRl ht
        rw [List.getElem?_eq_getElem hqt] at this
        exact Option.some.inj this
      have hset := mix_set hRl ht
      rw [hRg t ht] at hset
      obtain ⟨pts, hpts⟩ : ∃ pts, points.getD t [] = pts := ⟨_, rfl⟩
      have hpb : pts.length < 4611686018427387904 := by
        rw [← hpts, List.getD_eq_getElem?_getD]
        cases h : points[t]? with
        | none => simp
        | some l => exact hpl l (List.mem_of_getElem? h)
      have kB : ∀ x, k_ref3_Behind pts x = true := fun x => decide_eq_true hpb
      have vB : ∀ x, v_ref3_Behind pts x = backC pts x := fun x => rfl
      rw [hpts] at hset o2
      rw [goes_jmp]
      simp only [T_ref3_Placed, goes_br, hvc, lt_len ht, lt_len hqt, nng, Bool.and_self, if_true, Int.toNat_natCast, getD_lt hqt, hqg, o1, o2, kB, vB, wrap_succ (k := t) (by omega)]
      unfold backT at hset
      rw [hset]
      exact ih
  unfold T0_ref3_Placed v_ref3_Placed placedC
  rw [goes_br, if_pos hkc, hvc, hR]
  have := loop 0 (Nat.zero_le _)
  simpa using this
end Go.Ev
end

section
set_option linter.unusedSectionVars false
set_option linter.unusedVariables false
set_option linter.unusedSimpArgs false
set_option maxRecDepth 100000
set_option linter.unusedVariables false
open Go Go.Ev
namespace Go.Ev
noncomputable def e_ref3_Placed : Run := entG sg_ref3_Placed R_ref3_Placed (fun a => k_ref3_Placed a.1 a.2.1) (fun a => v_ref3_Placed a.1 a.2.1)
theorem ok_ref3_Placed : EntOK Go.Proofs.Tryd.prog 32 e_ref3_Placed := entG_ok (tb := tb_ref3_Placed) (c := c_ref3_Placed) tk_ref3_Placed (by kernel_rfl) (by kernel_rfl) (by kernel_rfl) (fun a => by kernel_rfl) fun ⟨s, points, _⟩ hk => evF_goes (c := c_ref3_Placed) (K := fun v => (R_ref3_Placed v, tps (toForms sg_ref3_Placed (s, points, ())))) (S := S_ref3_Placed s points) (by kernel_rfl) (en_ref3_Placed s points) (lp_ref3_Placed s points) (g_ref3_Placed s points hk)
end Go.Ev
end

section
set_option linter.unusedSectionVars false
set_option linter.unusedVariables false
set_option linter.unusedSimpArgs false
set_option maxRecDepth 100000
set_option linter.unusedVariables false
open Go Go.Ev
namespace Go.Ev
/-! ### paling/palingref2.sameInts -/
def sg_ref2_sameInts : Sig := [(false, (.sl (.int .i64))), (false, (.sl (.int .i64)))]
noncomputable def t_ref2_sameInts : Tbl := []
theorem tk_ref2_sameInts : ∀ p ∈ t_ref2_sameInts, EntOK Go.Proofs.Tryd.prog p.1 p.2 := tbl_nil
noncomputable def c_ref2_sameInts : Code := Go.Proofs.Tryd.f48.body.getD .skip
def tb_ref2_sameInts : Tb := [(6, ⟨[0, 1, 5], []⟩)]
inductive J_ref2_sameInts where
  | l6 (i : Int)
def T_ref2_sameInts (a : List Int) (b : List Int) : J_ref2_sameInts → JT J_ref2_sameInts (Bool)
  | .l6 i =>
    .br (decide (i < (Int.ofNat (List.length a))))
      (.br ((decide ((0 : Int) ≤ i)) && (decide (i < (Int.ofNat (List.length a)))))
        (.br ((decide ((0 : Int) ≤ i)) && (decide (i < (Int.ofNat (List.length b)))))
          (.br ((List.getD a (Int.toNat i) (dflt (.int .i64))) != (List.getD b (Int.toNat i) (dflt (.int .i64))))
            (.leaf false)
          (.jmp (.l6 (IntKind.i64.wrap (i + (1 : Int))))))
        (.no))
      (.no))
    (.leaf true)
def T0_ref2_sameInts (a : List Int) (b : List Int) : JT J_ref2_sameInts (Bool) :=
  .br ((Int.ofNat (List.length a)) != (Int.ofNat (List.length b)))
    (.leaf false)
  (.jmp (.l6 (0 : Int)))
def R_ref2_sameInts : Bool → AV := fun (r : Bool) => .d .bool r
def S_ref2_sameInts (a : List Int) (b : List Int) : J_ref2_sameInts → Nat × St
  | .l6 i => (6, ⟨mkTm 26 [(0, .d (.sl (.int .i64)) a), (1, .d (.sl (.int .i64)) b), (5, .d (.int .i64) i)], []⟩)
theorem en_ref2_sameInts (a : List Int) (b : List Int) (L : Lt) : entryA Go.Proofs.Tryd.prog (clOf t_ref2_sameInts) tb_ref2_sameInts Go.Proofs.Tryd.f48 c_ref2_sameInts L (toForms sg_ref2_sameInts (a, b, ())) = (T0_ref2_sameInts a b).run (fun v => some (R_ref2_sameInts v, tps (toForms sg_ref2_sameInts (a, b, ())))) fun j => L (S_ref2_sameInts a b j).1 (S_ref2_sameInts a b j).2 := by kernel_rfl
theorem lp_ref2_sameInts (a : List Int) (b : List Int) : ∀ (L : Lt) (j : J_ref2_sameInts), procOf (procsF Go.Proofs.Tryd.prog (clOf t_ref2_sameInts) tb_ref2_sameInts Go.Proofs.Tryd.f48 c_ref2_sameInts (toForms sg_ref2_sameInts (a, b, ()))) (S_ref2_sameInts a b j).1 L (S_ref2_sameInts a b j).2 = (T_ref2_sameInts a b j).run (fun v => some (R_ref2_sameInts v, tps (toForms sg_ref2_sameInts (a, b, ())))) fun j => L (S_ref2_sameInts a b j).1 (S_ref2_sameInts a b j).2
  | L, .l6 i => by kernel_rfl
end Go.Ev
end

section
set_option linter.unusedSectionVars false
set_option linter.unusedVariables false
set_option linter.unusedSimpArgs false
set_option linter.unusedVariables false
set_option linter.unusedSimpArgs false
open Go
namespace Go.Ev
/-- Asked of what is the same alone. -/
def v_ref2_sameInts (a b : List Int) : Bool := true
def k_ref2_sameInts (a b : List Int) : Bool := decide (a = b) && decide (a.length < 4611686018427387904)
theorem g_ref2_sameInts (a b : List Int) (hk : k_ref2_sameInts a b = true) : Goes (T_ref2_sameInts a b) (T0_ref2_sameInts a b) (v_ref2_sameInts a b) := by
  unfold k_ref2_sameInts at hk
  simp only [Bool.and_eq_true, decide_eq_true_eq] at hk
  obtain ⟨rfl, hn⟩ := hk
  have loop : ∀ k, k ≤ a.length → Goes (T_ref2_sameInts a a) (.jmp (.l6 (k : Int))) true := by
    refine down ?_ fun k hk ih => ?_
    · rw [goes_jmp]
      simp only [T_ref2_sameInts, goes_br, lt_len_not (Nat.lt_irrefl _), if_false, Bool.false_eq_true]
      exact .leaf
    · rw [goes_jmp]
      simp only [T_ref2_sameInts, goes_br, lt_len hk, nng, Bool.and_self, if_true, Int.toNat_natCast, getD_lt hk, wrap_succ (k := k) (by omega), beq_self_eq_true, bne_self_eq_false, Bool.not_true, if_false, Bool.false_eq_true]
      exact ih
  unfold T0_ref2_sameInts v_ref2_sameInts
  rw [goes_br, if_neg (by simp)]
  exact loop 0 (Nat.zero_le _)
end Go.Ev
end

section
set_option linter.unusedSectionVars false
set_option linter.unusedVariables false
set_option linter.unusedSimpArgs false
set_option maxRecDepth 100000
set_option linter.unusedVariables false
open Go Go.Ev
namespace Go.Ev
noncomputable def e_ref2_sameInts : Run := entG sg_ref2_sameInts R_ref2_sameInts (fun a => k_ref2_sameInts a.1 a.2.1) (fun a => v_ref2_sameInts a.1 a.2.1)
theorem ok_ref2_sameInts : EntOK Go.Proofs.Tryd.prog 48 e_ref2_sameInts := entG_ok (tb := tb_ref2_sameInts) (c := c_ref2_sameInts) tk_ref2_sameInts (by kernel_rfl) (by kernel_rfl) (by kernel_rfl) (fun a => by kernel_rfl) fun ⟨a, b, _⟩ hk => evF_goes (c := c_ref2_sameInts) (K := fun v => (R_ref2_sameInts v, tps (toForms sg_ref2_sameInts (a, b, ())))) (S := S_ref2_sameInts a b) (by kernel_rfl) (en_ref2_sameInts a b) (lp_ref2_sameInts a b) (g_ref2_sameInts a b hk)
end Go.Ev
end

section
set_option linter.unusedSectionVars false
set_option linter.unusedVariables false
set_option linter.unusedSimpArgs false
set_option maxRecDepth 100000
set_option linter.unusedVariables false
open Go Go.Ev
namespace Go.Ev
/-! ### paling/palingref2.SameEntries -/
def sg_ref2_SameEntries : Sig := [(false, (.sl T_api_Entry)), (false, (.sl T_api_Entry))]
noncomputable def t_ref2_SameEntries : Tbl := []
theorem tk_ref2_SameEntries : ∀ p ∈ t_ref2_SameEntries, EntOK Go.Proofs.Tryd.prog p.1 p.2 := tbl_nil
noncomputable def c_ref2_SameEntries : Code := Go.Proofs.Tryd.f49.body.getD .skip
def tb_ref2_SameEntries : Tb := [(6, ⟨[0, 1, 5], []⟩)]
inductive J_ref2_SameEntries where
  | l6 (i : Int)
def T_ref2_SameEntries (a : List (El T_api_Entry)) (b : List (El T_api_Entry)) : J_ref2_SameEntries → JT J_ref2_SameEntries (Bool)
  | .l6 i =>
    .br (decide (i < (Int.ofNat (List.length a))))
      (.br ((decide ((0 : Int) ≤ i)) && (decide (i < (Int.ofNat (List.length a)))))
        (.br ((decide ((0 : Int) ≤ i)) && (decide (i < (Int.ofNat (List.length b)))))
          (.br (! (((List.getD a (Int.toNat i) (dflt T_api_Entry)).1 == (List.getD b (Int.toNat i) (dflt T_api_Entry)).1) && ((List.getD a (Int.toNat i) (dflt T_api_Entry)).2 == (List.getD b (Int.toNat i) (dflt T_api_Entry)).2)))
            (.leaf false)
          (.jmp (.l6 (IntKind.i64.wrap (i + (1 : Int))))))
        (.no))
      (.no))
    (.leaf true)
def T0_ref2_SameEntries (a : List (El T_api_Entry)) (b : List (El T_api_Entry)) : JT J_ref2_SameEntries (Bool) :=
  .br ((Int.ofNat (List.length a)) != (Int.ofNat (List.length b)))
    (.leaf false)
  (.jmp (.l6 (0 : Int)))
def R_ref2_SameEntries : Bool → AV := fun (r : Bool) => .d .bool r
def S_ref2_SameEntries (a : List (El T_api_Entry)) (b : List (El T_api_Entry)) : J_ref2_SameEntries → Nat × St
  | .l6 i => (6, ⟨mkTm 26 [(0, .d (.sl T_api_Entry) a), (1, .d (.sl T_api_Entry) b), (5, .d (.int .i64) i)], []⟩)
theorem en_ref2_SameEntries (a : List (El T_api_Entry)) (b : List (El T_api_Entry)) (L : Lt) : entryA Go.Proofs.Tryd.prog (clOf t_ref2_SameEntries) tb_ref2_SameEntries Go.Proofs.Tryd.f49 c_ref2_SameEntries L (toForms sg_ref2_SameEntries (a, b, ())) = (T0_ref2_SameEntries a b).run (fun v => some (R_ref2_SameEntries v, tps (toForms sg_ref2_SameEntries (a, b, ())))) fun j => L (S_ref2_SameEntries a b j).1 (S_ref2_SameEntries a b j).2 := by kernel_rfl
theorem lp_ref2_SameEntries (a : List (El T_api_Entry)) (b : List (El T_api_Entry)) : ∀ (L : Lt) (j : J_ref2_SameEntries), procOf (procsF Go.Proofs.Tryd.prog (clOf t_ref2_SameEntries) tb_ref2_SameEntries Go.Proofs.Tryd.f49 c_ref2_SameEntries (toForms sg_ref2_SameEntries (a, b, ()))) (S_ref2_SameEntries a b j).1 L (S_ref2_SameEntries a b j).2 = (T_ref2_SameEntries a b j).run (fun v => some (R_ref2_SameEntries v, tps (toForms sg_ref2_SameEntries (a, b, ())))) fun j => L (S_ref2_SameEntries a b j).1 (S_ref2_SameEntries a b j).2
  | L, .l6 i => by kernel_rfl
end Go.Ev
end

section
set_option linter.unusedSectionVars false
set_option linter.unusedVariables false
set_option linter.unusedSimpArgs false
set_option linter.unusedVariables false
set_option linter.unusedSimpArgs false
open Go
namespace Go.Ev
/-- Asked of what is the same alone. -/
def v_ref2_SameEntries (a b : List (El T_api_Entry)) : Bool := true
def k_ref2_SameEntries (a b : List (El T_api_Entry)) : Bool := decide (a = b) && decide (a.length < 4611686018427387904)
theorem g_ref2_SameEntries (a b : List (El T_api_Entry)) (hk : k_ref2_SameEntries a b = true) : Goes (T_ref2_SameEntries a b) (T0_ref2_SameEntries a b) (v_ref2_SameEntries a b) := by
  unfold k_ref2_SameEntries at hk
  simp only [Bool.and_eq_true, decide_eq_true_eq] at hk
  obtain ⟨rfl, hn⟩ := hk
  have loop : ∀ k, k ≤ a.length → Goes (T_ref2_SameEntries a a) (.jmp (.l6 (k : Int))) true := by
    refine down ?_ fun k hk ih => ?_
    · rw [goes_jmp]
      simp only [T_ref2_SameEntries, goes_br, lt_len_not (Nat.lt_irrefl _), if_false, Bool.false_eq_true]
      exact .leaf
    · rw [goes_jmp]
      simp only [T_ref2_SameEntries, goes_br, lt_len hk, nng, Bool.and_self, if_true, Int.toNat_natCast, getD_lt hk, wrap_succ (k := k) (by omega), beq_self_eq_true, bne_self_eq_false, Bool.not_true, if_false, Bool.false_eq_true]
      exact ih
  unfold T0_ref2_SameEntries v_ref2_SameEntries
  rw [goes_br, if_neg (by simp)]
  exact loop 0 (Nat.zero_le _)
end Go.Ev
end

section
set_option linter.unusedSectionVars false
set_option linter.unusedVariables false
set_option linter.unusedSimpArgs false
set_option maxRecDepth 100000
set_option linter.unusedVariables false
open Go Go.Ev
namespace Go.Ev
noncomputable def e_ref2_SameEntries : Run := entG sg_ref2_SameEntries R_ref2_SameEntries (fun a => k_ref2_SameEntries a.1 a.2.1) (fun a => v_ref2_SameEntries a.1 a.2.1)
theorem ok_ref2_SameEntries : EntOK Go.Proofs.Tryd.prog 49 e_ref2_SameEntries := entG_ok (tb := tb_ref2_SameEntries) (c := c_ref2_SameEntries) tk_ref2_SameEntries (by kernel_rfl) (by kernel_rfl) (by kernel_rfl) (fun a => by kernel_rfl) fun ⟨a, b, _⟩ hk => evF_goes (c := c_ref2_SameEntries) (K := fun v => (R_ref2_SameEntries v, tps (toForms sg_ref2_SameEntries (a, b, ())))) (S := S_ref2_SameEntries a b) (by kernel_rfl) (en_ref2_SameEntries a b) (lp_ref2_SameEntries a b) (g_ref2_SameEntries a b hk)
end Go.Ev
end

section
set_option linter.unusedSectionVars false
set_option linter.unusedVariables false
set_option linter.unusedSimpArgs false
set_option maxRecDepth 100000
set_option linter.unusedVariables false
open Go Go.Ev
namespace Go.Ev
/-! ### paling/palingref2.Same -/
def sg_ref2_Same : Sig := [(true, T_api_State), (true, T_api_State)]
noncomputable def t_ref2_Same : Tbl := [(48, e_ref2_sameInts), (49, e_ref2_SameEntries)]
theorem tk_ref2_Same : ∀ p ∈ t_ref2_Same, EntOK Go.Proofs.Tryd.prog p.1 p.2 := tbl_cons ok_ref2_sameInts (tbl_cons ok_ref2_SameEntries (tbl_nil))
noncomputable def c_ref2_Same : Code := Go.Proofs.Tryd.f30.body.getD .skip
def tb_ref2_Same : Tb := [(6, ⟨[2, 3, 5], []⟩), (14, ⟨[2, 3, 6], []⟩)]
inductive J_ref2_Same where
  | l6 (i : Int)
  | l14 (i : Int)
def T_ref2_Same (a : El T_api_State) (b : El T_api_State) : J_ref2_Same → JT J_ref2_Same (Bool)
  | .l6 i =>
    .br (decide (i < (Int.ofNat (List.length a.2.1))))
      (.br ((decide ((0 : Int) ≤ i)) && (decide (i < (Int.ofNat (List.length a.2.1)))))
        (.br ((decide ((0 : Int) ≤ i)) && (decide (i < (Int.ofNat (List.length b.2.1)))))
          (.br (! ((((List.getD a.2.1 (Int.toNat i) (dflt T_api_Thr)).1.1 == (List.getD b.2.1 (Int.toNat i) (dflt T_api_Thr)).1.1) && (((List.getD a.2.1 (Int.toNat i) (dflt T_api_Thr)).1.2.1 == (List.getD b.2.1 (Int.toNat i) (dflt T_api_Thr)).1.2.1) && (((List.getD a.2.1 (Int.toNat i) (dflt T_api_Thr)).1.2.2.1 == (List.getD b.2.1 (Int.toNat i) (dflt T_api_Thr)).1.2.2.1) && (((List.getD a.2.1 (Int.toNat i) (dflt T_api_Thr)).1.2.2.2.1 == (List.getD b.2.1 (Int.toNat i) (dflt T_api_Thr)).1.2.2.2.1) && (((List.getD a.2.1 (Int.toNat i) (dflt T_api_Thr)).1.2.2.2.2.1 == (List.getD b.2.1 (Int.toNat i) (dflt T_api_Thr)).1.2.2.2.2.1) && (((List.getD a.2.1 (Int.toNat i) (dflt T_api_Thr)).1.2.2.2.2.2.1 == (List.getD b.2.1 (Int.toNat i) (dflt T_api_Thr)).1.2.2.2.2.2.1) && (((List.getD a.2.1 (Int.toNat i) (dflt T_api_Thr)).1.2.2.2.2.2.2.1 == (List.getD b.2.1 (Int.toNat i) (dflt T_api_Thr)).1.2.2.2.2.2.2.1) && ((List.getD a.2.1 (Int.toNat i) (dflt T_api_Thr)).1.2.2.2.2.2.2.2 == (List.getD b.2.1 (Int.toNat i) (dflt T_api_Thr)).1.2.2.2.2.2.2.2)))))))) && ((((List.getD a.2.1 (Int.toNat i) (dflt T_api_Thr)).2.1.1 == (List.getD b.2.1 (Int.toNat i) (dflt T_api_Thr)).2.1.1) && (((List.getD a.2.1 (Int.toNat i) (dflt T_api_Thr)).2.1.2.1 == (List.getD b.2.1 (Int.toNat i) (dflt T_api_Thr)).2.1.2.1) && (((List.getD a.2.1 (Int.toNat i) (dflt T_api_Thr)).2.1.2.2.1 == (List.getD b.2.1 (Int.toNat i) (dflt T_api_Thr)).2.1.2.2.1) && ((List.getD a.2.1 (Int.toNat i) (dflt T_api_Thr)).2.1.2.2.2 == (List.getD b.2.1 (Int.toNat i) (dflt T_api_Thr)).2.1.2.2.2)))) && (((List.getD a.2.1 (Int.toNat i) (dflt T_api_Thr)).2.2.1 == (List.getD b.2.1 (Int.toNat i) (dflt T_api_Thr)).2.2.1) && (((List.getD a.2.1 (Int.toNat i) (dflt T_api_Thr)).2.2.2.1 == (List.getD b.2.1 (Int.toNat i) (dflt T_api_Thr)).2.2.2.1) && (((List.getD a.2.1 (Int.toNat i) (dflt T_api_Thr)).2.2.2.2.1 == (List.getD b.2.1 (Int.toNat i) (dflt T_api_Thr)).2.2.2.2.1) && ((List.getD a.2.1 (Int.toNat i) (dflt T_api_Thr)).2.2.2.2.2 == (List.getD b.2.1 (Int.toNat i) (dflt T_api_Thr)).2.2.2.2.2)))))))
            (.leaf false)
          (.jmp (.l6 (IntKind.i64.wrap (i + (1 : Int))))))
        (.no))
      (.no))
    (.jmp (.l14 (0 : Int)))
  | .l14 i =>
    .br (decide (i < (Int.ofNat (List.length a.2.2.1))))
      (.br ((decide ((0 : Int) ≤ i)) && (decide (i < (Int.ofNat (List.length a.2.2.1)))))
        (.br ((decide ((0 : Int) ≤ i)) && (decide (i < (Int.ofNat (List.length b.2.2.1)))))
          (.br (k_ref2_SameEntries (List.getD a.2.2.1 (Int.toNat i) (dflt (.sl T_api_Entry))) (List.getD b.2.2.1 (Int.toNat i) (dflt (.sl T_api_Entry))))
            (.br (! (v_ref2_SameEntries (List.getD a.2.2.1 (Int.toNat i) (dflt (.sl T_api_Entry))) (List.getD b.2.2.1 (Int.toNat i) (dflt (.sl T_api_Entry)))))
              (.leaf false)
            (.jmp (.l14 (IntKind.i64.wrap (i + (1 : Int))))))
          (.no))
        (.no))
      (.no))
    (.leaf true)
def T0_ref2_Same (a : El T_api_State) (b : El T_api_State) : JT J_ref2_Same (Bool) :=
  .br (k_ref2_sameInts a.1 b.1)
    (.br (! (v_ref2_sameInts a.1 b.1))
      (.leaf false)
    (.br ((Int.ofNat (List.length a.2.1)) != (Int.ofNat (List.length b.2.1)))
      (.leaf false)
    (.br ((Int.ofNat (List.length a.2.2.1)) != (Int.ofNat (List.length b.2.2.1)))
      (.leaf false)
    (.br (a.2.2.2 != b.2.2.2)
      (.leaf false)
    (.jmp (.l6 (0 : Int)))))))
  (.no)
def R_ref2_Same : Bool → AV := fun (r : Bool) => .d .bool r
def S_ref2_Same (a : El T_api_State) (b : El T_api_State) : J_ref2_Same → Nat × St
  | .l6 i => (6, ⟨mkTm 75 [(2, .pt 3 0 0), (3, .pt 4 0 0), (5, .d (.int .i64) i)], [(3, 0, .box 50 [.d (.sl (.int .i64)) a.1, .d (.sl T_api_Thr) a.2.1, .d (.sl (.sl T_api_Entry)) a.2.2.1, .d (.int .i64) a.2.2.2] none), (4, 0, .box 50 [.d (.sl (.int .i64)) b.1, .d (.sl T_api_Thr) b.2.1, .d (.sl (.sl T_api_Entry)) b.2.2.1, .d (.int .i64) b.2.2.2] none)]⟩)
  | .l14 i => (14, ⟨mkTm 75 [(2, .pt 3 0 0), (3, .pt 4 0 0), (6, .d (.int .i64) i)], [(3, 0, .box 50 [.d (.sl (.int .i64)) a.1, .d (.sl T_api_Thr) a.2.1, .d (.sl (.sl T_api_Entry)) a.2.2.1, .d (.int .i64) a.2.2.2] none), (4, 0, .box 50 [.d (.sl (.int .i64)) b.1, .d (.sl T_api_Thr) b.2.1, .d (.sl (.sl T_api_Entry)) b.2.2.1, .d (.int .i64) b.2.2.2] none)]⟩)
theorem en_ref2_Same (a : El T_api_State) (b : El T_api_State) (L : Lt) : entryA Go.Proofs.Tryd.prog (clOf t_ref2_Same) tb_ref2_Same Go.Proofs.Tryd.f30 c_ref2_Same L (toForms sg_ref2_Same (a, b, ())) = (T0_ref2_Same a b).run (fun v => some (R_ref2_Same v, tps (toForms sg_ref2_Same (a, b, ())))) fun j => L (S_ref2_Same a b j).1 (S_ref2_Same a b j).2 := by kernel_rfl
theorem lp_ref2_Same (a : El T_api_State) (b : El T_api_State) : ∀ (L : Lt) (j : J_ref2_Same), procOf (procsF Go.Proofs.Tryd.prog (clOf t_ref2_Same) tb_ref2_Same Go.Proofs.Tryd.f30 c_ref2_Same (toForms sg_ref2_Same (a, b, ()))) (S_ref2_Same a b j).1 L (S_ref2_Same a b j).2 = (T_ref2_Same a b j).run (fun v => some (R_ref2_Same v, tps (toForms sg_ref2_Same (a, b, ())))) fun j => L (S_ref2_Same a b j).1 (S_ref2_Same a b j).2
  | L, .l6 i => by kernel_rfl
  | L, .l14 i => by kernel_rfl
end Go.Ev
end

section
set_option linter.unusedSectionVars false
set_option linter.unusedVariables false
set_option linter.unusedSimpArgs false
set_option linter.unusedVariables false
set_option linter.unusedSimpArgs false
open Go
namespace Go.Ev
/-- Asked of what is the same alone. -/
def v_ref2_Same (a b : El T_api_State) : Bool := true
def k_ref2_Same (a b : El T_api_State) : Bool := same T_api_State a b && stateB a
theorem g_ref2_Same (a b : El T_api_State) (hk : k_ref2_Same a b = true) : Goes (T_ref2_Same a b) (T0_ref2_Same a b) (v_ref2_Same a b) := by
  unfold k_ref2_Same at hk
  rw [Bool.and_eq_true, same_iff] at hk
  obtain ⟨rfl, hsb⟩ := hk
  have hS := stateOK hsb
  have h1 := hS.mem
  have h2 := hS.thr
  have h3 := hS.bufs
  have l14 : ∀ k, k ≤ List.length a.2.2.1 → Goes (T_ref2_Same a a) (.jmp (.l14 (k : Int))) true := by
    refine down ?_ fun k hk ih => ?_
    · rw [goes_jmp]
      simp only [T_ref2_Same, goes_br, lt_len_not (Nat.lt_irrefl _), if_false, Bool.false_eq_true]
      exact .leaf
    · have hb := hS.buf _ (List.getElem_mem hk)
      have k1 : k_ref2_SameEntries a.2.2.1[k] a.2.2.1[k] = true := by unfold k_ref2_SameEntries; rw [decide_eq_true rfl, decide_eq_true (by omega)]; rfl
      have v1 : v_ref2_SameEntries a.2.2.1[k] a.2.2.1[k] = true := rfl
      rw [goes_jmp]
      simp only [T_ref2_Same, goes_br, lt_len hk, nng, Bool.and_self, if_true, Int.toNat_natCast, getD_lt hk, k1, v1, Bool.not_true, if_false, Bool.false_eq_true, wrap_succ (k := k) (by omega)]
      exact ih
  have l6 : ∀ k, k ≤ List.length a.2.1 → Goes (T_ref2_Same a a) (.jmp (.l6 (k : Int))) true := by
    refine down ?_ fun k hk ih => ?_
    · rw [goes_jmp]
      simp only [T_ref2_Same, goes_br, lt_len_not (Nat.lt_irrefl _), if_false, Bool.false_eq_true]
      exact l14 0 (Nat.zero_le _)
    · rw [goes_jmp]
      simp only [T_ref2_Same, goes_br, lt_len hk, nng, Bool.and_self, if_true, Int.toNat_natCast, getD_lt hk, beq_self_eq_true, Bool.not_true, if_false, Bool.false_eq_true, wrap_succ (k := k) (by omega)]
      exact ih
  have k1 : k_ref2_sameInts a.1 a.1 = true := by unfold k_ref2_sameInts; rw [decide_eq_true rfl, decide_eq_true (by omega)]; rfl
  have v1 : v_ref2_sameInts a.1 a.1 = true := rfl
  unfold T0_ref2_Same v_ref2_Same
  simp only [goes_br, k1, v1, if_true, Bool.not_true, bne_self_eq_false, if_false, Bool.false_eq_true]
  exact l6 0 (Nat.zero_le _)
end Go.Ev
end

section
set_option linter.unusedSectionVars false
set_option linter.unusedVariables false
set_option linter.unusedSimpArgs false
set_option maxRecDepth 100000
set_option linter.unusedVariables false
open Go Go.Ev
namespace Go.Ev
noncomputable def e_ref2_Same : Run := entG sg_ref2_Same R_ref2_Same (fun a => k_ref2_Same a.1 a.2.1) (fun a => v_ref2_Same a.1 a.2.1)
theorem ok_ref2_Same : EntOK Go.Proofs.Tryd.prog 30 e_ref2_Same := entG_ok (tb := tb_ref2_Same) (c := c_ref2_Same) tk_ref2_Same (by kernel_rfl) (by kernel_rfl) (by kernel_rfl) (fun a => by kernel_rfl) fun ⟨a, b, _⟩ hk => evF_goes (c := c_ref2_Same) (K := fun v => (R_ref2_Same v, tps (toForms sg_ref2_Same (a, b, ())))) (S := S_ref2_Same a b) (by kernel_rfl) (en_ref2_Same a b) (lp_ref2_Same a b) (g_ref2_Same a b hk)
end Go.Ev
end

section
set_option linter.unusedSectionVars false
set_option linter.unusedVariables false
set_option linter.unusedSimpArgs false
set_option maxRecDepth 100000
set_option linter.unusedVariables false
open Go Go.Ev
namespace Go.Ev
/-! ### paling/palinglaw26.WeaveState -/
def sg_law26_WeaveState : Sig := [(true, T_api_State), (false, (.sl (.sl (.int .i64))))]
noncomputable def t_law26_WeaveState : Tbl := [(28, e_book_GreatState), (11, e_book_GreatLists), (12, e_law26_alive), (29, e_ref2_Copy), (31, e_weave_State), (32, e_ref3_Placed), (30, e_ref2_Same)]
theorem tk_law26_WeaveState : ∀ p ∈ t_law26_WeaveState, EntOK Go.Proofs.Tryd.prog p.1 p.2 := tbl_cons ok_book_GreatState (tbl_cons ok_book_GreatLists (tbl_cons ok_law26_alive (tbl_cons ok_ref2_Copy (tbl_cons ok_weave_State (tbl_cons ok_ref3_Placed (tbl_cons ok_ref2_Same (tbl_nil)))))))
noncomputable def c_law26_WeaveState : Code := Go.Proofs.Tryd.f6.body.getD .skip
def tb_law26_WeaveState : Tb := []
def T_law26_WeaveState (s : El T_api_State) (points : List (List Int)) : Empty → JT Empty (Bool) := fun j => nomatch j
def T0_law26_WeaveState (s : El T_api_State) (points : List (List Int)) : JT Empty (Bool) :=
  .br (k_book_GreatState s)
    (.br (v_book_GreatState s)
      (.br k_law26_alive
        (.leaf v_law26_alive)
      (.no))
    (.br (k_book_GreatLists points)
      (.br (v_book_GreatLists points)
        (.br k_law26_alive
          (.leaf v_law26_alive)
        (.no))
      (.br (k_ref2_Copy s)
        (.br (k_weave_State s points)
          (.br (k_ref3_Placed s points)
            (.br (k_ref2_Same (v_weave_State s points) (v_ref3_Placed s points))
              (.br (v_ref2_Same (v_weave_State s points) (v_ref3_Placed s points))
                (.br (k_ref2_Same s (v_ref2_Copy s))
                  (.br (v_ref2_Same s (v_ref2_Copy s))
                    (.br (k_weave_State s [])
                      (.br (k_ref2_Same (v_weave_State s []) s)
                        (.br (v_ref2_Same (v_weave_State s []) s)
                          (.br k_law26_alive
                            (.leaf v_law26_alive)
                          (.no))
                        (.leaf false))
                      (.no))
                    (.no))
                  (.leaf false))
                (.no))
              (.leaf false))
            (.no))
          (.no))
        (.no))
      (.no)))
    (.no)))
  (.no)
def v_law26_WeaveState (s : El T_api_State) (points : List (List Int)) : Bool :=
  bif (k_book_GreatState s) then
    bif (v_book_GreatState s) then
      bif k_law26_alive then
        v_law26_alive
      else false
    else bif (k_book_GreatLists points) then
      bif (v_book_GreatLists points) then
        bif k_law26_alive then
          v_law26_alive
        else false
      else bif (k_ref2_Copy s) then
        bif (k_weave_State s points) then
          bif (k_ref3_Placed s points) then
            bif (k_ref2_Same (v_weave_State s points) (v_ref3_Placed s points)) then
              bif (v_ref2_Same (v_weave_State s points) (v_ref3_Placed s points)) then
                bif (k_ref2_Same s (v_ref2_Copy s)) then
                  bif (v_ref2_Same s (v_ref2_Copy s)) then
                    bif (k_weave_State s []) then
                      bif (k_ref2_Same (v_weave_State s []) s) then
                        bif (v_ref2_Same (v_weave_State s []) s) then
                          bif k_law26_alive then
                            v_law26_alive
                          else false
                        else false
                      else false
                    else false
                  else false
                else false
              else false
            else false
          else false
        else false
      else false
    else false
  else false
def k_law26_WeaveState (s : El T_api_State) (points : List (List Int)) : Bool :=
  bif (k_book_GreatState s) then
    bif (v_book_GreatState s) then
      bif k_law26_alive then
        true
      else false
    else bif (k_book_GreatLists points) then
      bif (v_book_GreatLists points) then
        bif k_law26_alive then
          true
        else false
      else bif (k_ref2_Copy s) then
        bif (k_weave_State s points) then
          bif (k_ref3_Placed s points) then
            bif (k_ref2_Same (v_weave_State s points) (v_ref3_Placed s points)) then
              bif (v_ref2_Same (v_weave_State s points) (v_ref3_Placed s points)) then
                bif (k_ref2_Same s (v_ref2_Copy s)) then
                  bif (v_ref2_Same s (v_ref2_Copy s)) then
                    bif (k_weave_State s []) then
                      bif (k_ref2_Same (v_weave_State s []) s) then
                        bif (v_ref2_Same (v_weave_State s []) s) then
                          bif k_law26_alive then
                            true
                          else false
                        else true
                      else false
                    else false
                  else true
                else false
              else true
            else false
          else false
        else false
      else false
    else false
  else false
theorem g_law26_WeaveState (s : El T_api_State) (points : List (List Int)) (hk : k_law26_WeaveState s points = true) : Goes (T_law26_WeaveState s points) (T0_law26_WeaveState s points) (v_law26_WeaveState s points) :=
  Goes.brk hk (fun hk =>
    Goes.brk hk (fun hk =>
      Goes.brk hk (fun hk =>
        Goes.leaf) (fun hk =>
        Goes.nok hk)) (fun hk =>
      Goes.brk hk (fun hk =>
        Goes.brk hk (fun hk =>
          Goes.brk hk (fun hk =>
            Goes.leaf) (fun hk =>
            Goes.nok hk)) (fun hk =>
          Goes.brk hk (fun hk =>
            Goes.brk hk (fun hk =>
              Goes.brk hk (fun hk =>
                Goes.brk hk (fun hk =>
                  Goes.brk hk (fun hk =>
                    Goes.brk hk (fun hk =>
                      Goes.brk hk (fun hk =>
                        Goes.brk hk (fun hk =>
                          Goes.brk hk (fun hk =>
                            Goes.brk hk (fun hk =>
                              Goes.brk hk (fun hk =>
                                Goes.leaf) (fun hk =>
                                Goes.nok hk)) (fun hk =>
                              Goes.leaf)) (fun hk =>
                            Goes.nok hk)) (fun hk =>
                          Goes.nok hk)) (fun hk =>
                        Goes.leaf)) (fun hk =>
                      Goes.nok hk)) (fun hk =>
                    Goes.leaf)) (fun hk =>
                  Goes.nok hk)) (fun hk =>
                Goes.nok hk)) (fun hk =>
              Goes.nok hk)) (fun hk =>
            Goes.nok hk))) (fun hk =>
        Goes.nok hk))) (fun hk =>
    Goes.nok hk)
def R_law26_WeaveState : Bool → AV := fun (r : Bool) => .d .bool r
def S_law26_WeaveState (s : El T_api_State) (points : List (List Int)) : Empty → Nat × St := fun j => nomatch j
theorem en_law26_WeaveState (s : El T_api_State) (points : List (List Int)) (L : Lt) : entryA Go.Proofs.Tryd.prog (clOf t_law26_WeaveState) tb_law26_WeaveState Go.Proofs.Tryd.f6 c_law26_WeaveState L (toForms sg_law26_WeaveState (s, points, ())) = (T0_law26_WeaveState s points).run (fun v => some (R_law26_WeaveState v, tps (toForms sg_law26_WeaveState (s, points, ())))) fun j => L (S_law26_WeaveState s points j).1 (S_law26_WeaveState s points j).2 := by kernel_rfl
theorem lp_law26_WeaveState (s : El T_api_State) (points : List (List Int)) : ∀ (L : Lt) (j : Empty), procOf (procsF Go.Proofs.Tryd.prog (clOf t_law26_WeaveState) tb_law26_WeaveState Go.Proofs.Tryd.f6 c_law26_WeaveState (toForms sg_law26_WeaveState (s, points, ()))) (S_law26_WeaveState s points j).1 L (S_law26_WeaveState s points j).2 = (T_law26_WeaveState s points j).run (fun v => some (R_law26_WeaveState v, tps (toForms sg_law26_WeaveState (s, points, ())))) fun j => L (S_law26_WeaveState s points j).1 (S_law26_WeaveState s points j).2 := fun L j => nomatch j
noncomputable def e_law26_WeaveState : Run := entG sg_law26_WeaveState R_law26_WeaveState (fun a => k_law26_WeaveState a.1 a.2.1) (fun a => v_law26_WeaveState a.1 a.2.1)
theorem ok_law26_WeaveState : EntOK Go.Proofs.Tryd.prog 6 e_law26_WeaveState := entG_ok (tb := tb_law26_WeaveState) (c := c_law26_WeaveState) tk_law26_WeaveState (by kernel_rfl) (by kernel_rfl) (by kernel_rfl) (fun a => by kernel_rfl) fun ⟨s, points, _⟩ hk => evF_goes (c := c_law26_WeaveState) (K := fun v => (R_law26_WeaveState v, tps (toForms sg_law26_WeaveState (s, points, ())))) (S := S_law26_WeaveState s points) (by kernel_rfl) (en_law26_WeaveState s points) (lp_law26_WeaveState s points) (g_law26_WeaveState s points hk)
theorem co_law26_WeaveState (s : El T_api_State) (points : List (List Int)) (hk : k_law26_WeaveState s points = true) : CallOK Go.Proofs.Tryd.prog 6 (toForms sg_law26_WeaveState (s, points, ())) (R_law26_WeaveState (v_law26_WeaveState s points), tps (toForms sg_law26_WeaveState (s, points, ()))) := by
  obtain ⟨h1, h2⟩ := clOf_ok tk_law26_WeaveState
  obtain ⟨n, hn⟩ := evF_goes (c := c_law26_WeaveState) (K := fun v => (R_law26_WeaveState v, tps (toForms sg_law26_WeaveState (s, points, ())))) (S := S_law26_WeaveState s points) (by kernel_rfl) (en_law26_WeaveState s points) (lp_law26_WeaveState s points) (g_law26_WeaveState s points hk)
  exact evF_sound (f := 6) (c := c_law26_WeaveState) h1 h2 (by kernel_rfl) (by kernel_rfl) (by kernel_rfl) hn
end Go.Ev
end

section
set_option linter.unusedSectionVars false
set_option linter.unusedVariables false
set_option linter.unusedSimpArgs false
set_option maxRecDepth 100000
set_option linter.unusedVariables false
namespace Go.Ev
open Go
theorem great_state {s : El T_api_State} (h : v_book_GreatState s = false) : stateB s = true := by
  unfold v_book_GreatState at h
  simp only [Bool.or_eq_false_iff, decide_eq_false_iff_not, List.any_eq_false, decide_eq_true_eq] at h
  obtain ⟨a, b, c, d⟩ := h
  unfold stateB
  simp only [Bool.and_eq_true, decide_eq_true_eq, List.all_eq_true]
  exact ⟨by omega, by omega, by omega, fun x hx => by have := d x hx; omega⟩
theorem stateB_placed {s : El T_api_State} (h : stateB s = true) (ls : List (List Int)) : stateB (placedC s ls) = true := by
  unfold stateB placedC at *
  simp only [Bool.and_eq_true, decide_eq_true_eq] at *
  exact ⟨h.1, by rw [placedT_len]; exact h.2.1, h.2.2⟩
theorem true_law26_WeaveState (s : El T_api_State) (points : List (List Int)) : k_law26_WeaveState s points = true ∧ v_law26_WeaveState s points = true := by
  unfold k_law26_WeaveState v_law26_WeaveState
  rw [show k_book_GreatState s = true from rfl, show k_book_GreatLists points = true from rfl]
  cases hg : v_book_GreatState s with
  | true => simp only [alive26.1, alive26.2, cond_true, and_self]
  | false =>
    have hs := great_state hg
    cases hl : v_book_GreatLists points with
    | true => simp only [alive26.1, alive26.2, cond_true, cond_false, and_self]
    | false =>
      obtain ⟨_, hlen⟩ := great_lists hl
      have hall : (points.all fun l => decide (List.length l < 4611686018427387904)) = true := by
        simp only [List.all_eq_true, decide_eq_true_eq]
        intro x hx; have := hlen x hx; omega
      have k1 : k_ref2_Copy s = true := hs
      have k2 : k_weave_State s points = true := by unfold k_weave_State; rw [hs, hall]; rfl
      have k3 : k_ref3_Placed s points = true := by unfold k_ref3_Placed; rw [hs, hall]; rfl
      have k4 : k_ref2_Same (v_weave_State s points) (v_ref3_Placed s points) = true := by
        unfold k_ref2_Same
        rw [Bool.and_eq_true]
        exact ⟨same_iff.2 rfl, stateB_placed hs points⟩
      have k5 : k_ref2_Same s (v_ref2_Copy s) = true := by
        unfold k_ref2_Same
        rw [Bool.and_eq_true]
        exact ⟨same_iff.2 rfl, hs⟩
      have k6 : k_weave_State s [] = true := by unfold k_weave_State; rw [hs]; rfl
      have e6 : v_weave_State s [] = s := by
        show placedC s [] = s
        unfold placedC
        rw [placedT_nil]
      have k7 : k_ref2_Same (v_weave_State s []) s = true := by
        unfold k_ref2_Same
        rw [Bool.and_eq_true, e6]
        exact ⟨same_iff.2 rfl, hs⟩
      have v0 : ∀ a b, v_ref2_Same a b = true := fun _ _ => rfl
      simp only [k1, k2, k3, k4, k5, k6, k7, v0, alive26.1, alive26.2, cond_true, cond_false, and_self]
theorem call_law26_WeaveState (a : Args sg_law26_WeaveState) (ha : smallArgs sg_law26_WeaveState a) : CallOK Go.Proofs.Tryd.prog fid_law26_WeaveState (toForms sg_law26_WeaveState a) (.d .bool true, tps (toForms sg_law26_WeaveState a)) := by
  obtain ⟨s, points, _⟩ := a
  obtain ⟨hk, hv⟩ := true_law26_WeaveState s points
  have := co_law26_WeaveState s points hk
  rw [hv] at this
  exact this
end Go.Ev
end

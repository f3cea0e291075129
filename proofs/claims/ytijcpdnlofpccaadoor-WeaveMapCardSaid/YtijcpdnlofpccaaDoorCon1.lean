/- Part of the proof of: For all points of a thread the way back rises, comes to each place, to a point from two places and to each other one from one, and of a place's own it is the place itself: the law answers true for every input. -/
import Derived.Test.YtijcpdnlofpccaaDoorCon0
section
set_option linter.unusedSectionVars false
set_option linter.unusedVariables false
set_option linter.unusedSimpArgs false
set_option linter.unusedVariables false
set_option linter.unusedSimpArgs false
open Go
namespace Go.Ev
def v_weave_In (p : El T_api_Prog) (points : List (List Int)) : (El T_api_Prog) × Bool := inC p points
def k_weave_In (p : El T_api_Prog) (points : List (List Int)) : Bool := smallProg p && (copyB p && points.all fun l => decide (List.length l < 1099511627776))
theorem of_is {points : List (List Int)} (t : Nat) : k_weave_of points t = true ∧ v_weave_of points t = points.getD t [] := by
  unfold k_weave_of v_weave_of
  by_cases h : t < points.length
  · simp only [lt_len h, nng, Bool.and_self, cond_true, Int.toNat_natCast, true_and]
    rfl
  · simp only [lt_len_not h, cond_false, true_and]
    rw [List.getD_eq_getElem?_getD, List.getElem?_eq_none (by omega)]
    rfl
theorem g_weave_In (p : El T_api_Prog) (points : List (List Int)) (hk : k_weave_In p points = true) : Goes (T_weave_In p points) (T0_weave_In p points) (v_weave_In p points) := by
  unfold k_weave_In at hk
  simp only [Bool.and_eq_true, List.all_eq_true, decide_eq_true_eq] at hk
  obtain ⟨hsm, hcp, hpl⟩ := hk
  have hC := copyOK hcp
  have hkc : k_valid_Check p = true := hsm
  have hkC : k_valid_Copy p = true := hcp
  have hvC : v_valid_Copy p = p := rfl
  have hth := hC.thr
  obtain ⟨R, hR⟩ : ∃ R, laidP points p.2 = R := ⟨_, rfl⟩
  have hRl : R.length = p.2.length := by rw [← hR]; exact laidP_len points p.2
  have hRg : ∀ t (h : t < p.2.length), R[t]'(by omega) = laidT (points.getD t []) 0 p.2[t] := fun t h => by
    have := laidP_get points p.2 t h
    rw [hR, List.getElem?_eq_getElem (by omega)] at this
    exact Option.some.inj this
  have main : points.length ≤ p.2.length → (∀ t, t < points.length → rising (points.getD t []) = true) → Goes (T_weave_In p points) (.jmp (.l16 0 p.2)) ((p.1, R), true) := by
    intro hpt hris
    have hris' : ∀ t, rising (points.getD t []) = true := fun t => by
      by_cases h : t < points.length
      · exact hris t h
      · rw [List.getD_eq_getElem?_getD, List.getElem?_eq_none (by omega)]; rfl
    have loop : ∀ t, t ≤ p.2.length → Goes (T_weave_In p points) (.jmp (.l16 (t : Int) (R.take t ++ p.2.drop t))) ((p.1, R), true) := by
      refine down ?_ fun t ht ih => ?_
      · rw [goes_jmp]
        simp only [T_weave_In, goes_br, hvC, lt_len_not (Nat.lt_irrefl _), if_false, Bool.false_eq_true, List.drop_length, List.append_nil]
        rw [show List.take (List.length p.2) R = R by rw [← hRl, List.take_length]]
        exact .leaf
      · obtain ⟨o1, o2⟩ := of_is (points := points) t
        have hql := mix_len (k := t) hRl (by omega)
        have hqt : t < (R.take t ++ p.2.drop t).length := by omega
        have hqg : (R.take t ++ p.2.drop t)[t] = p.2[t] := by
          have := mix_get (k := t) hRl ht
          rw [List.getElem?_eq_getElem hqt] at this
          exact Option.some.inj this
        obtain ⟨x, hx⟩ : ∃ x, p.2[t] = x := ⟨_, rfl⟩
        obtain ⟨pts, hpts⟩ : ∃ pts, points.getD t [] = pts := ⟨_, rfl⟩
        have hxm : x ∈ p.2 := by rw [← hx]; exact List.getElem_mem ht
        have hxl := hC.len x hxm
        have hset := mix_set hRl ht
        rw [hRg t ht, hpts, hx] at hset
        have inner : ∀ k, k ≤ List.length x → ∀ (l : List Int) (out : List (El T_api_Ins)), Suf pts k l → out.length ≤ 2 * k → out ++ laidT pts k (List.drop k x) = laidT pts 0 x →
            Goes (T_weave_In p points) (.jmp (.l25 x (Int.ofNat (List.length x)) l (k : Int) out (t : Int) (t : Int) (R.take t ++ p.2.drop t))) ((p.1, R), true) := by
          refine down ?_ fun k hk ihk => ?_
          · intro l out hs ho he
            rw [goes_jmp]
            simp only [T_weave_In, goes_br, lt_len_not (Nat.lt_irrefl _), if_false, Bool.false_eq_true, lt_len hqt, nng, Bool.and_self, if_true, Int.toNat_natCast, wrap_succ (k := t) (by omega)]
            rw [List.drop_length, show laidT pts (List.length x) [] = [] from rfl, List.append_nil] at he
            rw [he, hset]
            exact ih
          · intro l out hs ho he
            have b1 : Nat.ble ((out.length + 1) * 128) limit = true := bleN (by unfold limit; omega)
            have b2 : ∀ y : El T_api_Ins, Nat.ble (((out ++ [y]).length + 1) * 128) limit = true := fun y => bleN (by rw [List.length_append, List.length_singleton]; unfold limit; omega)
            rw [drop_cons hk] at he
            rw [laidT] at he
            rw [goes_jmp]
            cases l with
            | nil =>
              obtain ⟨m1, m2⟩ := hs.miss (fun n r e => by cases e)
              rw [if_neg (by rw [m1]; decide)] at he
              have e0 : decide (Int.ofNat (List.length ([] : List Int)) > (0 : Int)) = false := by decide
              simp only [T_weave_In, goes_br, lt_len hk, nng, Bool.and_self, if_true, Int.toNat_natCast, getD_lt hk, e0, b1, if_false, Bool.false_eq_true, wrap_succ (k := k) (by omega)]
              exact ihk [] _ m2 (by rw [List.length_append, List.length_singleton]; omega) (by rw [List.append_assoc]; exact he)
            | cons n r =>
              have e0 : decide (Int.ofNat (List.length (n :: r)) > (0 : Int)) = true := by simp
              have e1 : decide ((0 : Int) < Int.ofNat (List.length (n :: r))) = true := by simp
              have e2 : List.getD (n :: r) 0 (dflt (.int .i64)) = n := rfl
              have e3 : ((((decide ((0 : Int) ≤ (Int.ofNat (List.length (n :: r))))) && (decide ((Int.ofNat (List.length (n :: r))) ≤ (Int.ofNat (List.length (n :: r)))))) && true) && (decide ((1 : Int) ≤ (Int.ofNat (List.length (n :: r)))))) = true := by simp; omega
              have e4 : List.drop 1 (List.take (List.length (n :: r)) (n :: r)) = r := by rw [List.take_length]; rfl
              by_cases hn : n = (k : Int)
              · obtain ⟨m1, m2⟩ := hs.hit hn
                rw [if_pos m1] at he
                have e5 : (n == (k : Int)) = true := by simpa using hn
                simp only [T_weave_In, goes_br, lt_len hk, nng, Bool.and_self, if_true, Int.toNat_natCast, getD_lt hk, e0, e1, e2, e3, e4, e5, b1, b2, wrap_succ (k := k) (by omega)]
                exact ihk r _ m2 (by rw [List.length_append, List.length_append, List.length_singleton, List.length_singleton]; omega) (by rw [List.append_assoc, List.append_assoc]; exact he)
              · obtain ⟨m1, m2⟩ := hs.miss (fun n' r' e => by cases e; exact hn)
                rw [if_neg (by rw [m1]; decide)] at he
                have e5 : (n == (k : Int)) = false := by simpa using hn
                simp only [T_weave_In, goes_br, lt_len hk, nng, Bool.and_self, if_true, Int.toNat_natCast, getD_lt hk, e0, e1, e2, e5, b1, if_false, Bool.false_eq_true, wrap_succ (k := k) (by omega)]
                exact ihk _ _ m2 (by rw [List.length_append, List.length_singleton]; omega) (by rw [List.append_assoc]; exact he)
        rw [goes_jmp]
        simp only [T_weave_In, goes_br, hvC, lt_len ht, lt_len hqt, nng, Bool.and_self, if_true, Int.toNat_natCast, getD_lt hqt, hqg, o1, o2, hpts, hx]
        exact inner 0 (Nat.zero_le _) pts [] (Suf.start (hpts ▸ hris' t)) (by simp) rfl
    have := loop 0 (Nat.zero_le _)
    simpa using this
  have check : points.length ≤ p.2.length → ∀ t, t ≤ points.length → (∀ s, s < t → rising (points.getD s []) = true) → Goes (T_weave_In p points) (.jmp (.l6 (t : Int))) (if okAll (points.drop t) (p.2.drop t) then ((p.1, R), true) else (noProg, false)) := by
    intro hpt
    refine down ?_ fun t ht ih => ?_
    · intro hris
      rw [goes_jmp]
      simp only [T_weave_In, goes_br, lt_len_not (Nat.lt_irrefl _), if_false, Bool.false_eq_true, hkC, if_true, hvC, List.drop_length]
      rw [if_pos (by rfl)]
      exact main hpt hris
    · intro hris
      have htp : t < p.2.length := by omega
      have hL := hpl _ (List.getElem_mem ht)
      obtain ⟨l, hl⟩ : ∃ l, points[t] = l := ⟨_, rfl⟩
      rw [hl] at hL
      have hko : k_weave_order l = true := decide_eq_true (by omega)
      have hvo : v_weave_order l = rising l := rfl
      rw [okAll_drop ht htp, hl, goes_jmp]
      by_cases hr : rising l = true
      · have hnext : ∀ s, s < t + 1 → rising (points.getD s []) = true := fun s hs => by
          by_cases he : s = t
          · subst he; rw [getD_lt ht, hl]; exact hr
          · exact hris s (by omega)
        by_cases h0 : 0 < List.length l
        · have e0 : decide (Int.ofNat (List.length l) > (0 : Int)) = true := by simp; omega
          have e1 : IntKind.i64.wrap (Int.ofNat (List.length l) - 1) = ((List.length l - 1 : Nat) : Int) := wrap_pred (k := List.length l) (by omega) h0
          have h1 : List.length l - 1 < List.length l := by omega
          have e2 := last_ge hr h0 (List.length p.2[t])
          have e2' : decide (l[List.length l - 1] ≥ Int.ofNat (List.length p.2[t])) = ! l.all fun x => decide (x < (List.length p.2[t] : Int)) := e2
          simp only [T_weave_In, goes_br, lt_len ht, nng, Bool.and_self, if_true, Int.toNat_natCast, getD_lt ht, hl, hko, hvo, hr, Bool.not_true, if_false, Bool.false_eq_true, e0, e1, lt_len h1, lt_len htp, getD_lt h1, getD_lt htp, e2', wrap_succ (k := t) (by omega), okPts, Bool.true_and]
          cases l.all fun x => decide (x < (List.length p.2[t] : Int)) with
          | true =>
            simp only [Bool.not_true, if_false, Bool.false_eq_true, Bool.true_and]
            exact ih hnext
          | false =>
            simp only [Bool.not_false, if_true, if_false, Bool.false_and, Bool.false_eq_true]
            exact .leaf
        · have hnil : l = [] := List.eq_nil_of_length_eq_zero (by omega)
          subst hnil
          have e0 : decide (Int.ofNat (List.length ([] : List Int)) > (0 : Int)) = false := by decide
          simp only [T_weave_In, goes_br, lt_len ht, nng, Bool.and_self, if_true, Int.toNat_natCast, getD_lt ht, hl, hko, hvo, hr, Bool.not_true, if_false, Bool.false_eq_true, e0, wrap_succ (k := t) (by omega), okPts, Bool.true_and, List.all_nil]
          exact ih hnext
      · have hr' : rising l = false := by simpa using hr
        simp only [T_weave_In, goes_br, lt_len ht, nng, Bool.and_self, if_true, Int.toNat_natCast, getD_lt ht, hl, hko, hvo, hr', Bool.not_false, okPts, Bool.false_and, if_false, Bool.false_eq_true]
        exact .leaf
  unfold T0_weave_In v_weave_In inC
  simp only [goes_br, hkc, if_true, v_valid_Check]
  by_cases hc : checkC p = 0
  · rw [if_neg (by simp [hc])]
    by_cases hp : p.2.length < points.length
    · rw [if_pos (by simp; omega), if_pos (.inr (.inl hp))]
      exact .leaf
    · rw [if_neg (by simp; omega)]
      have := check (by omega) 0 (Nat.zero_le _) (fun s hs => by omega)
      rw [List.drop_zero, List.drop_zero] at this
      cases hok : okAll points p.2 with
      | true =>
        rw [hok, if_pos rfl] at this
        rw [if_neg (by simp [hc]; omega), hR]
        exact this
      | false =>
        rw [hok, if_neg (by decide)] at this
        rw [if_pos (.inr (.inr rfl))]
        exact this
  · rw [if_pos (by simpa using hc), if_pos (.inl hc)]
    exact .leaf
end Go.Ev
end

section
set_option linter.unusedSectionVars false
set_option linter.unusedVariables false
set_option linter.unusedSimpArgs false
set_option maxRecDepth 100000
set_option linter.unusedVariables false
open Go Go.Ev
namespace Go.Ev
noncomputable def e_weave_In : Run := entG sg_weave_In R_weave_In (fun a => k_weave_In a.1 a.2.1) (fun a => v_weave_In a.1 a.2.1)
theorem ok_weave_In : EntOK Go.Proofs.Tryd.prog 14 e_weave_In := entG_ok (tb := tb_weave_In) (c := c_weave_In) tk_weave_In (by kernel_rfl) (by kernel_rfl) (by kernel_rfl) (fun a => by kernel_rfl) fun ⟨p, points, _⟩ hk => evF_goes (c := c_weave_In) (K := fun v => (R_weave_In v, tps (toForms sg_weave_In (p, points, ())))) (S := S_weave_In p points) (by kernel_rfl) (en_weave_In p points) (lp_weave_In p points) (g_weave_In p points hk)
end Go.Ev
end

section
set_option linter.unusedSectionVars false
set_option linter.unusedVariables false
set_option linter.unusedSimpArgs false
set_option maxRecDepth 100000
set_option linter.unusedVariables false
open Go Go.Ev
namespace Go.Ev
/-! ### paling/palingbook.SameInts -/
def sg_book_SameInts : Sig := [(false, (.sl (.int .i64))), (false, (.sl (.int .i64)))]
noncomputable def t_book_SameInts : Tbl := []
theorem tk_book_SameInts : ∀ p ∈ t_book_SameInts, EntOK Go.Proofs.Tryd.prog p.1 p.2 := tbl_nil
noncomputable def c_book_SameInts : Code := Go.Proofs.Tryd.f20.body.getD .skip
def tb_book_SameInts : Tb := [(6, ⟨[0, 1, 5], []⟩)]
inductive J_book_SameInts where
  | l6 (i : Int)
def T_book_SameInts (a : List Int) (b : List Int) : J_book_SameInts → JT J_book_SameInts (Bool)
  | .l6 i =>
    .br (decide (i < (Int.ofNat (List.length a))))
      (.br ((decide ((0 : Int) ≤ i)) && (decide (i < (Int.ofNat (List.length a)))))
        (.br ((decide ((0 : Int) ≤ i)) && (decide (i < (Int.ofNat (List.length b)))))
          (.br ((List.getD a (Int.toNat i) (dflt (.int .i64))) != (List.getD b (Int.toNat i) (dflt (.int .i64))))
            (.leaf false)
          (.jmp (.l6 (IntKind.i64.wrap (i + (1 : Int))))))
        (.no))
      (.no))
    (.leaf true)
def T0_book_SameInts (a : List Int) (b : List Int) : JT J_book_SameInts (Bool) :=
  .br ((Int.ofNat (List.length a)) != (Int.ofNat (List.length b)))
    (.leaf false)
  (.jmp (.l6 (0 : Int)))
def R_book_SameInts : Bool → AV := fun (r : Bool) => .d .bool r
def S_book_SameInts (a : List Int) (b : List Int) : J_book_SameInts → Nat × St
  | .l6 i => (6, ⟨mkTm 26 [(0, .d (.sl (.int .i64)) a), (1, .d (.sl (.int .i64)) b), (5, .d (.int .i64) i)], []⟩)
theorem en_book_SameInts (a : List Int) (b : List Int) (L : Lt) : entryA Go.Proofs.Tryd.prog (clOf t_book_SameInts) tb_book_SameInts Go.Proofs.Tryd.f20 c_book_SameInts L (toForms sg_book_SameInts (a, b, ())) = (T0_book_SameInts a b).run (fun v => some (R_book_SameInts v, tps (toForms sg_book_SameInts (a, b, ())))) fun j => L (S_book_SameInts a b j).1 (S_book_SameInts a b j).2 := by kernel_rfl
theorem lp_book_SameInts (a : List Int) (b : List Int) : ∀ (L : Lt) (j : J_book_SameInts), procOf (procsF Go.Proofs.Tryd.prog (clOf t_book_SameInts) tb_book_SameInts Go.Proofs.Tryd.f20 c_book_SameInts (toForms sg_book_SameInts (a, b, ()))) (S_book_SameInts a b j).1 L (S_book_SameInts a b j).2 = (T_book_SameInts a b j).run (fun v => some (R_book_SameInts v, tps (toForms sg_book_SameInts (a, b, ())))) fun j => L (S_book_SameInts a b j).1 (S_book_SameInts a b j).2
  | L, .l6 i => by kernel_rfl
end Go.Ev
end

section
set_option linter.unusedSectionVars false
set_option linter.unusedVariables false
set_option linter.unusedSimpArgs false
set_option linter.unusedVariables false
set_option linter.unusedSimpArgs false
open Go
namespace Go.Ev
theorem intB_eq {a b : Int} : (a == b) = decide (a = b) := by rw [Bool.eq_iff_iff]; simp

def v_book_SameInts (a b : List Int) : Bool := decide (a = b)
def k_book_SameInts (a b : List Int) : Bool := decide (a.length < 4611686018427387904)
theorem g_book_SameInts (a b : List Int) (hk : k_book_SameInts a b = true) : Goes (T_book_SameInts a b) (T0_book_SameInts a b) (v_book_SameInts a b) := by
  have hn : a.length < 4611686018427387904 := of_decide_eq_true hk
  have loop : a.length = b.length → ∀ k, k ≤ a.length → Goes (T_book_SameInts a b) (.jmp (.l6 (k : Int))) (decide (a.drop k = b.drop k)) := by
    intro he
    refine down ?_ fun k hk ih => ?_
    · rw [goes_jmp]
      simp [T_book_SameInts, goes_br, goes_leaf, he]
    · rw [goes_jmp]
      have hkb : k < b.length := he ▸ hk
      simp only [T_book_SameInts, goes_br, lt_len hk, lt_len hkb, nng, Bool.and_self, if_true, Int.toNat_natCast, getD_lt hk, getD_lt hkb, wrap_succ (k := k) (by omega)]
      rw [drop_cons hk, drop_cons hkb]
      split
      · rename_i h1
        have h2 : (! decide (a[k] = b[k])) = true := (congrArg Bool.not intB_eq).symm.trans h1
        have h3 : ¬ a[k] = b[k] := by simpa using h2
        rw [decide_eq_false (fun e => h3 (List.cons.inj e).1)]
        exact .leaf
      · rename_i h1
        have h2 : ¬ (! decide (a[k] = b[k])) = true := fun h => h1 ((congrArg Bool.not intB_eq).trans h)
        have h3 : a[k] = b[k] := by simpa using h2
        rw [show decide (a[k] :: List.drop (k + 1) a = b[k] :: List.drop (k + 1) b) = decide (List.drop (k + 1) a = List.drop (k + 1) b) from decide_eq_decide.2 ⟨fun e => (List.cons.inj e).2, fun e => by rw [h3, e]⟩]
        exact ih
  unfold T0_book_SameInts v_book_SameInts
  rw [goes_br]
  by_cases h : a.length = b.length
  · have := loop h 0 (Nat.zero_le _)
    simpa [h] using this
  · have : a ≠ b := fun e => h (congrArg _ e)
    rw [if_pos (by simp; omega), decide_eq_false this]
    exact .leaf

end Go.Ev
end

section
set_option linter.unusedSectionVars false
set_option linter.unusedVariables false
set_option linter.unusedSimpArgs false
set_option maxRecDepth 100000
set_option linter.unusedVariables false
open Go Go.Ev
namespace Go.Ev
noncomputable def e_book_SameInts : Run := entG sg_book_SameInts R_book_SameInts (fun a => k_book_SameInts a.1 a.2.1) (fun a => v_book_SameInts a.1 a.2.1)
theorem ok_book_SameInts : EntOK Go.Proofs.Tryd.prog 20 e_book_SameInts := entG_ok (tb := tb_book_SameInts) (c := c_book_SameInts) tk_book_SameInts (by kernel_rfl) (by kernel_rfl) (by kernel_rfl) (fun a => by kernel_rfl) fun ⟨a, b, _⟩ hk => evF_goes (c := c_book_SameInts) (K := fun v => (R_book_SameInts v, tps (toForms sg_book_SameInts (a, b, ())))) (S := S_book_SameInts a b) (by kernel_rfl) (en_book_SameInts a b) (lp_book_SameInts a b) (g_book_SameInts a b hk)
end Go.Ev
end

section
set_option linter.unusedSectionVars false
set_option linter.unusedVariables false
set_option linter.unusedSimpArgs false
set_option maxRecDepth 100000
set_option linter.unusedVariables false
open Go Go.Ev
namespace Go.Ev
/-! ### paling/palinglaw26.alive -/
def sg_law26_alive : Sig := []
noncomputable def t_law26_alive : Tbl := [(14, e_weave_In), (21, e_weave_Fences), (20, e_book_SameInts), (23, e_weave_Back), (25, e_weave_There)]
theorem tk_law26_alive : ∀ p ∈ t_law26_alive, EntOK Go.Proofs.Tryd.prog p.1 p.2 := tbl_cons ok_weave_In (tbl_cons ok_weave_Fences (tbl_cons ok_book_SameInts (tbl_cons ok_weave_Back (tbl_cons ok_weave_There (tbl_nil)))))
noncomputable def c_law26_alive : Code := Go.Proofs.Tryd.f12.body.getD .skip
def tb_law26_alive : Tb := []
def T_law26_alive : Empty → JT Empty (Bool) := fun j => nomatch j
def T0_law26_alive : JT Empty (Bool) :=
  .br (k_weave_In ([], [[((14 : Int), (false, ((0 : Int), (((0 : Int), ((0 : Int), ((0 : Int), (0 : Int)))), (((0 : Int), ((0 : Int), ((0 : Int), (0 : Int)))), ((bs []), [(bs [97])]))))))]]) [[(0 : Int)]])
    (.br (k_weave_In ([], [[((14 : Int), (false, ((0 : Int), (((0 : Int), ((0 : Int), ((0 : Int), (0 : Int)))), (((0 : Int), ((0 : Int), ((0 : Int), (0 : Int)))), ((bs []), [(bs [97])]))))))]]) [[(1 : Int)]])
      (.br (v_weave_In ([], [[((14 : Int), (false, ((0 : Int), (((0 : Int), ((0 : Int), ((0 : Int), (0 : Int)))), (((0 : Int), ((0 : Int), ((0 : Int), (0 : Int)))), ((bs []), [(bs [97])]))))))]]) [[(0 : Int)]]).2
        (.br (! (v_weave_In ([], [[((14 : Int), (false, ((0 : Int), (((0 : Int), ((0 : Int), ((0 : Int), (0 : Int)))), (((0 : Int), ((0 : Int), ((0 : Int), (0 : Int)))), ((bs []), [(bs [97])]))))))]]) [[(1 : Int)]]).2)
          (.br ((Int.ofNat (List.length (v_weave_In ([], [[((14 : Int), (false, ((0 : Int), (((0 : Int), ((0 : Int), ((0 : Int), (0 : Int)))), (((0 : Int), ((0 : Int), ((0 : Int), (0 : Int)))), ((bs []), [(bs [97])]))))))]]) [[(0 : Int)]]).1.2)) == (1 : Int))
            (.br (decide ((0 : Int) < (Int.ofNat (List.length (v_weave_In ([], [[((14 : Int), (false, ((0 : Int), (((0 : Int), ((0 : Int), ((0 : Int), (0 : Int)))), (((0 : Int), ((0 : Int), ((0 : Int), (0 : Int)))), ((bs []), [(bs [97])]))))))]]) [[(0 : Int)]]).1.2))))
              (.br ((Int.ofNat (List.length (List.getD (v_weave_In ([], [[((14 : Int), (false, ((0 : Int), (((0 : Int), ((0 : Int), ((0 : Int), (0 : Int)))), (((0 : Int), ((0 : Int), ((0 : Int), (0 : Int)))), ((bs []), [(bs [97])]))))))]]) [[(0 : Int)]]).1.2 0 (dflt (.sl T_api_Ins))))) == (2 : Int))
                (.br (decide ((0 : Int) < (Int.ofNat (List.length (v_weave_In ([], [[((14 : Int), (false, ((0 : Int), (((0 : Int), ((0 : Int), ((0 : Int), (0 : Int)))), (((0 : Int), ((0 : Int), ((0 : Int), (0 : Int)))), ((bs []), [(bs [97])]))))))]]) [[(0 : Int)]]).1.2))))
                  (.br (decide ((0 : Int) < (Int.ofNat (List.length (List.getD (v_weave_In ([], [[((14 : Int), (false, ((0 : Int), (((0 : Int), ((0 : Int), ((0 : Int), (0 : Int)))), (((0 : Int), ((0 : Int), ((0 : Int), (0 : Int)))), ((bs []), [(bs [97])]))))))]]) [[(0 : Int)]]).1.2 0 (dflt (.sl T_api_Ins)))))))
                    (.br ((List.getD (List.getD (v_weave_In ([], [[((14 : Int), (false, ((0 : Int), (((0 : Int), ((0 : Int), ((0 : Int), (0 : Int)))), (((0 : Int), ((0 : Int), ((0 : Int), (0 : Int)))), ((bs []), [(bs [97])]))))))]]) [[(0 : Int)]]).1.2 0 (dflt (.sl T_api_Ins))) 0 (dflt T_api_Ins)).1 == (12 : Int))
                      (.br (decide ((0 : Int) < (Int.ofNat (List.length (v_weave_In ([], [[((14 : Int), (false, ((0 : Int), (((0 : Int), ((0 : Int), ((0 : Int), (0 : Int)))), (((0 : Int), ((0 : Int), ((0 : Int), (0 : Int)))), ((bs []), [(bs [97])]))))))]]) [[(0 : Int)]]).1.2))))
                        (.br (decide ((0 : Int) < (Int.ofNat (List.length (List.getD (v_weave_In ([], [[((14 : Int), (false, ((0 : Int), (((0 : Int), ((0 : Int), ((0 : Int), (0 : Int)))), (((0 : Int), ((0 : Int), ((0 : Int), (0 : Int)))), ((bs []), [(bs [97])]))))))]]) [[(0 : Int)]]).1.2 0 (dflt (.sl T_api_Ins)))))))
                          (.br ((Int.ofNat (List.length (List.getD (List.getD (v_weave_In ([], [[((14 : Int), (false, ((0 : Int), (((0 : Int), ((0 : Int), ((0 : Int), (0 : Int)))), (((0 : Int), ((0 : Int), ((0 : Int), (0 : Int)))), ((bs []), [(bs [97])]))))))]]) [[(0 : Int)]]).1.2 0 (dflt (.sl T_api_Ins))) 0 (dflt T_api_Ins)).2.2.2.2.2.2)) == (1 : Int))
                            (.br (k_weave_Fences [(1 : Int), (2 : Int)])
                              (.br (k_book_SameInts (v_weave_Fences [(1 : Int), (2 : Int)]) [(1 : Int), (3 : Int)])
                                (.br (v_book_SameInts (v_weave_Fences [(1 : Int), (2 : Int)]) [(1 : Int), (3 : Int)])
                                  (.br (k_weave_Back [(1 : Int), (2 : Int)] (4 : Int))
                                    (.br ((v_weave_Back [(1 : Int), (2 : Int)] (4 : Int)) == (2 : Int))
                                      (.br (k_weave_There [(1 : Int), (2 : Int)] (2 : Int))
                                        (.leaf ((v_weave_There [(1 : Int), (2 : Int)] (2 : Int)) == (4 : Int)))
                                      (.no))
                                    (.leaf false))
                                  (.no))
                                (.leaf false))
                              (.no))
                            (.no))
                          (.leaf false))
                        (.no))
                      (.no))
                    (.leaf false))
                  (.no))
                (.no))
              (.leaf false))
            (.no))
          (.leaf false))
        (.leaf false))
      (.leaf false))
    (.no))
  (.no)
def v_law26_alive : Bool :=
  bif (k_weave_In ([], [[((14 : Int), (false, ((0 : Int), (((0 : Int), ((0 : Int), ((0 : Int), (0 : Int)))), (((0 : Int), ((0 : Int), ((0 : Int), (0 : Int)))), ((bs []), [(bs [97])]))))))]]) [[(0 : Int)]]) then
    bif (k_weave_In ([], [[((14 : Int), (false, ((0 : Int), (((0 : Int), ((0 : Int), ((0 : Int), (0 : Int)))), (((0 : Int), ((0 : Int), ((0 : Int), (0 : Int)))), ((bs []), [(bs [97])]))))))]]) [[(1 : Int)]]) then
      bif (v_weave_In ([], [[((14 : Int), (false, ((0 : Int), (((0 : Int), ((0 : Int), ((0 : Int), (0 : Int)))), (((0 : Int), ((0 : Int), ((0 : Int), (0 : Int)))), ((bs []), [(bs [97])]))))))]]) [[(0 : Int)]]).2 then
        bif (! (v_weave_In ([], [[((14 : Int), (false, ((0 : Int), (((0 : Int), ((0 : Int), ((0 : Int), (0 : Int)))), (((0 : Int), ((0 : Int), ((0 : Int), (0 : Int)))), ((bs []), [(bs [97])]))))))]]) [[(1 : Int)]]).2) then
          bif ((Int.ofNat (List.length (v_weave_In ([], [[((14 : Int), (false, ((0 : Int), (((0 : Int), ((0 : Int), ((0 : Int), (0 : Int)))), (((0 : Int), ((0 : Int), ((0 : Int), (0 : Int)))), ((bs []), [(bs [97])]))))))]]) [[(0 : Int)]]).1.2)) == (1 : Int)) then
            bif (decide ((0 : Int) < (Int.ofNat (List.length (v_weave_In ([], [[((14 : Int), (false, ((0 : Int), (((0 : Int), ((0 : Int), ((0 : Int), (0 : Int)))), (((0 : Int), ((0 : Int), ((0 : Int), (0 : Int)))), ((bs []), [(bs [97])]))))))]]) [[(0 : Int)]]).1.2)))) then
              bif ((Int.ofNat (List.length (List.getD (v_weave_In ([], [[((14 : Int), (false, ((0 : Int), (((0 : Int), ((0 : Int), ((0 : Int), (0 : Int)))), (((0 : Int), ((0 : Int), ((0 : Int), (0 : Int)))), ((bs []), [(bs [97])]))))))]]) [[(0 : Int)]]).1.2 0 (dflt (.sl T_api_Ins))))) == (2 : Int)) then
                bif (decide ((0 : Int) < (Int.ofNat (List.length (v_weave_In ([], [[((14 : Int), (false, ((0 : Int), (((0 : Int), ((0 : Int), ((0 : Int), (0 : Int)))), (((0 : Int), ((0 : Int), ((0 : Int), (0 : Int)))), ((bs []), [(bs [97])]))))))]]) [[(0 : Int)]]).1.2)))) then
                  bif (decide ((0 : Int) < (Int.ofNat (List.length (List.getD (v_weave_In ([], [[((14 : Int), (false, ((0 : Int), (((0 : Int), ((0 : Int), ((0 : Int), (0 : Int)))), (((0 : Int), ((0 : Int), ((0 : Int), (0 : Int)))), ((bs []), [(bs [97])]))))))]]) [[(0 : Int)]]).1.2 0 (dflt (.sl T_api_Ins))))))) then
                    bif ((List.getD (List.getD (v_weave_In ([], [[((14 : Int), (false, ((0 : Int), (((0 : Int), ((0 : Int), ((0 : Int), (0 : Int)))), (((0 : Int), ((0 : Int), ((0 : Int), (0 : Int)))), ((bs []), [(bs [97])]))))))]]) [[(0 : Int)]]).1.2 0 (dflt (.sl T_api_Ins))) 0 (dflt T_api_Ins)).1 == (12 : Int)) then
                      bif (decide ((0 : Int) < (Int.ofNat (List.length (v_weave_In ([], [[((14 : Int), (false, ((0 : Int), (((0 : Int), ((0 : Int), ((0 : Int), (0 : Int)))), (((0 : Int), ((0 : Int), ((0 : Int), (0 : Int)))), ((bs []), [(bs [97])]))))))]]) [[(0 : Int)]]).1.2)))) then
                        bif (decide ((0 : Int) < (Int.ofNat (List.length (List.getD (v_weave_In ([], [[((14 : Int), (false, ((0 : Int), (((0 : Int), ((0 : Int), ((0 : Int), (0 : Int)))), (((0 : Int), ((0 : Int), ((0 : Int), (0 : Int)))), ((bs []), [(bs [97])]))))))]]) [[(0 : Int)]]).1.2 0 (dflt (.sl T_api_Ins))))))) then
                          bif ((Int.ofNat (List.length (List.getD (List.getD (v_weave_In ([], [[((14 : Int), (false, ((0 : Int), (((0 : Int), ((0 : Int), ((0 : Int), (0 : Int)))), (((0 : Int), ((0 : Int), ((0 : Int), (0 : Int)))), ((bs []), [(bs [97])]))))))]]) [[(0 : Int)]]).1.2 0 (dflt (.sl T_api_Ins))) 0 (dflt T_api_Ins)).2.2.2.2.2.2)) == (1 : Int)) then
                            bif (k_weave_Fences [(1 : Int), (2 : Int)]) then
                              bif (k_book_SameInts (v_weave_Fences [(1 : Int), (2 : Int)]) [(1 : Int), (3 : Int)]) then
                                bif (v_book_SameInts (v_weave_Fences [(1 : Int), (2 : Int)]) [(1 : Int), (3 : Int)]) then
                                  bif (k_weave_Back [(1 : Int), (2 : Int)] (4 : Int)) then
                                    bif ((v_weave_Back [(1 : Int), (2 : Int)] (4 : Int)) == (2 : Int)) then
                                      bif (k_weave_There [(1 : Int), (2 : Int)] (2 : Int)) then
                                        ((v_weave_There [(1 : Int), (2 : Int)] (2 : Int)) == (4 : Int))
                                      else false
                                    else false
                                  else false
                                else false
                              else false
                            else false
                          else false
                        else false
                      else false
                    else false
                  else false
                else false
              else false
            else false
          else false
        else false
      else false
    else false
  else false
def k_law26_alive : Bool :=
  bif (k_weave_In ([], [[((14 : Int), (false, ((0 : Int), (((0 : Int), ((0 : Int), ((0 : Int), (0 : Int)))), (((0 : Int), ((0 : Int), ((0 : Int), (0 : Int)))), ((bs []), [(bs [97])]))))))]]) [[(0 : Int)]]) then
    bif (k_weave_In ([], [[((14 : Int), (false, ((0 : Int), (((0 : Int), ((0 : Int), ((0 : Int), (0 : Int)))), (((0 : Int), ((0 : Int), ((0 : Int), (0 : Int)))), ((bs []), [(bs [97])]))))))]]) [[(1 : Int)]]) then
      bif (v_weave_In ([], [[((14 : Int), (false, ((0 : Int), (((0 : Int), ((0 : Int), ((0 : Int), (0 : Int)))), (((0 : Int), ((0 : Int), ((0 : Int), (0 : Int)))), ((bs []), [(bs [97])]))))))]]) [[(0 : Int)]]).2 then
        bif (! (v_weave_In ([], [[((14 : Int), (false, ((0 : Int), (((0 : Int), ((0 : Int), ((0 : Int), (0 : Int)))), (((0 : Int), ((0 : Int), ((0 : Int), (0 : Int)))), ((bs []), [(bs [97])]))))))]]) [[(1 : Int)]]).2) then
          bif ((Int.ofNat (List.length (v_weave_In ([], [[((14 : Int), (false, ((0 : Int), (((0 : Int), ((0 : Int), ((0 : Int), (0 : Int)))), (((0 : Int), ((0 : Int), ((0 : Int), (0 : Int)))), ((bs []), [(bs [97])]))))))]]) [[(0 : Int)]]).1.2)) == (1 : Int)) then
            bif (decide ((0 : Int) < (Int.ofNat (List.length (v_weave_In ([], [[((14 : Int), (false, ((0 : Int), (((0 : Int), ((0 : Int), ((0 : Int), (0 : Int)))), (((0 : Int), ((0 : Int), ((0 : Int), (0 : Int)))), ((bs []), [(bs [97])]))))))]]) [[(0 : Int)]]).1.2)))) then
              bif ((Int.ofNat (List.length (List.getD (v_weave_In ([], [[((14 : Int), (false, ((0 : Int), (((0 : Int), ((0 : Int), ((0 : Int), (0 : Int)))), (((0 : Int), ((0 : Int), ((0 : Int), (0 : Int)))), ((bs []), [(bs [97])]))))))]]) [[(0 : Int)]]).1.2 0 (dflt (.sl T_api_Ins))))) == (2 : Int)) then
                bif (decide ((0 : Int) < (Int.ofNat (List.length (v_weave_In ([], [[((14 : Int), (false, ((0 : Int), (((0 : Int), ((0 : Int), ((0 : Int), (0 : Int)))), (((0 : Int), ((0 : Int), ((0 : Int), (0 : Int)))), ((bs []), [(bs [97])]))))))]]) [[(0 : Int)]]).1.2)))) then
                  bif (decide ((0 : Int) < (Int.ofNat (List.length (List.getD (v_weave_In ([], [[((14 : Int), (false, ((0 : Int), (((0 : Int), ((0 : Int), ((0 : Int), (0 : Int)))), (((0 : Int), ((0 : Int), ((0 : Int), (0 : Int)))), ((bs []), [(bs [97])]))))))]]) [[(0 : Int)]]).1.2 0 (dflt (.sl T_api_Ins))))))) then
                    bif ((List.getD (List.getD (v_weave_In ([], [[((14 : Int), (false, ((0 : Int), (((0 : Int), ((0 : Int), ((0 : Int), (0 : Int)))), (((0 : Int), ((0 : Int), ((0 : Int), (0 : Int)))), ((bs []), [(bs [97])]))))))]]) [[(0 : Int)]]).1.2 0 (dflt (.sl T_api_Ins))) 0 (dflt T_api_Ins)).1 == (12 : Int)) then
                      bif (decide ((0 : Int) < (Int.ofNat (List.length (v_weave_In ([], [[((14 : Int), (false, ((0 : Int), (((0 : Int), ((0 : Int), ((0 : Int), (0 : Int)))), (((0 : Int), ((0 : Int), ((0 : Int), (0 : Int)))), ((bs []), [(bs [97])]))))))]]) [[(0 : Int)]]).1.2)))) then
                        bif (decide ((0 : Int) < (Int.ofNat (List.length (List.getD (v_weave_In ([], [[((14 : Int), (false, ((0 : Int), (((0 : Int), ((0 : Int), ((0 : Int), (0 : Int)))), (((0 : Int), ((0 : Int), ((0 : Int), (0 : Int)))), ((bs []), [(bs [97])]))))))]]) [[(0 : Int)]]).1.2 0 (dflt (.sl T_api_Ins))))))) then
                          bif ((Int.ofNat (List.length (List.getD (List.getD (v_weave_In ([], [[((14 : Int), (false, ((0 : Int), (((0 : Int), ((0 : Int), ((0 : Int), (0 : Int)))), (((0 : Int), ((0 : Int), ((0 : Int), (0 : Int)))), ((bs []), [(bs [97])]))))))]]) [[(0 : Int)]]).1.2 0 (dflt (.sl T_api_Ins))) 0 (dflt T_api_Ins)).2.2.2.2.2.2)) == (1 : Int)) then
                            bif (k_weave_Fences [(1 : Int), (2 : Int)]) then
                              bif (k_book_SameInts (v_weave_Fences [(1 : Int), (2 : Int)]) [(1 : Int), (3 : Int)]) then
                                bif (v_book_SameInts (v_weave_Fences [(1 : Int), (2 : Int)]) [(1 : Int), (3 : Int)]) then
                                  bif (k_weave_Back [(1 : Int), (2 : Int)] (4 : Int)) then
                                    bif ((v_weave_Back [(1 : Int), (2 : Int)] (4 : Int)) == (2 : Int)) then
                                      bif (k_weave_There [(1 : Int), (2 : Int)] (2 : Int)) then
                                        true
                                      else false
                                    else true
                                  else false
                                else true
                              else false
                            else false
                          else true
                        else false
                      else false
                    else true
                  else false
                else false
              else true
            else false
          else true
        else true
      else true
    else false
  else false
theorem g_law26_alive (hk : k_law26_alive = true) : Goes (T_law26_alive) (T0_law26_alive) (v_law26_alive) :=
  Goes.brk hk (fun hk =>
    Goes.brk hk (fun hk =>
      Goes.brk hk (fun hk =>
        Goes.brk hk (fun hk =>
          Goes.brk hk (fun hk =>
            Goes.brk hk (fun hk =>
              Goes.brk hk (fun hk =>
                Goes.brk hk (fun hk =>
                  Goes.brk hk (fun hk =>
                    Goes.brk hk (fun hk =>
                      Goes.brk hk (fun hk =>
                        Goes.brk hk (fun hk =>
                          Goes.brk hk (fun hk =>
                            Goes.brk hk (fun hk =>
                              Goes.brk hk (fun hk =>
                                Goes.brk hk (fun hk =>
                                  Goes.brk hk (fun hk =>
                                    Goes.brk hk (fun hk =>
                                      Goes.brk hk (fun hk =>
                                        Goes.leaf) (fun hk =>
                                        Goes.nok hk)) (fun hk =>
                                      Goes.leaf)) (fun hk =>
                                    Goes.nok hk)) (fun hk =>
                                  Goes.leaf)) (fun hk =>
                                Goes.nok hk)) (fun hk =>
                              Goes.nok hk)) (fun hk =>
                            Goes.leaf)) (fun hk =>
                          Goes.nok hk)) (fun hk =>
                        Goes.nok hk)) (fun hk =>
                      Goes.leaf)) (fun hk =>
                    Goes.nok hk)) (fun hk =>
                  Goes.nok hk)) (fun hk =>
                Goes.leaf)) (fun hk =>
              Goes.nok hk)) (fun hk =>
            Goes.leaf)) (fun hk =>
          Goes.leaf)) (fun hk =>
        Goes.leaf)) (fun hk =>
      Goes.nok hk)) (fun hk =>
    Goes.nok hk)
def R_law26_alive : Bool → AV := fun (r : Bool) => .d .bool r
def S_law26_alive : Empty → Nat × St := fun j => nomatch j
theorem en_law26_alive (L : Lt) : entryA Go.Proofs.Tryd.prog (clOf t_law26_alive) tb_law26_alive Go.Proofs.Tryd.f12 c_law26_alive L (toForms sg_law26_alive (())) = (T0_law26_alive).run (fun v => some (R_law26_alive v, tps (toForms sg_law26_alive (())))) fun j => L (S_law26_alive j).1 (S_law26_alive j).2 := by kernel_rfl
theorem lp_law26_alive : ∀ (L : Lt) (j : Empty), procOf (procsF Go.Proofs.Tryd.prog (clOf t_law26_alive) tb_law26_alive Go.Proofs.Tryd.f12 c_law26_alive (toForms sg_law26_alive (()))) (S_law26_alive j).1 L (S_law26_alive j).2 = (T_law26_alive j).run (fun v => some (R_law26_alive v, tps (toForms sg_law26_alive (())))) fun j => L (S_law26_alive j).1 (S_law26_alive j).2 := fun L j => nomatch j
noncomputable def e_law26_alive : Run := entG sg_law26_alive R_law26_alive (fun a => k_law26_alive) (fun a => v_law26_alive)
theorem ok_law26_alive : EntOK Go.Proofs.Tryd.prog 12 e_law26_alive := entG_ok (tb := tb_law26_alive) (c := c_law26_alive) tk_law26_alive (by kernel_rfl) (by kernel_rfl) (by kernel_rfl) (fun a => by kernel_rfl) fun _ hk => evF_goes (c := c_law26_alive) (K := fun v => (R_law26_alive v, tps (toForms sg_law26_alive (())))) (S := S_law26_alive) (by kernel_rfl) (en_law26_alive) (lp_law26_alive) (g_law26_alive hk)
theorem co_law26_alive (hk : k_law26_alive = true) : CallOK Go.Proofs.Tryd.prog 12 (toForms sg_law26_alive (())) (R_law26_alive (v_law26_alive), tps (toForms sg_law26_alive (()))) := by
  obtain ⟨h1, h2⟩ := clOf_ok tk_law26_alive
  obtain ⟨n, hn⟩ := evF_goes (c := c_law26_alive) (K := fun v => (R_law26_alive v, tps (toForms sg_law26_alive (())))) (S := S_law26_alive) (by kernel_rfl) (en_law26_alive) (lp_law26_alive) (g_law26_alive hk)
  exact evF_sound (f := 12) (c := c_law26_alive) h1 h2 (by kernel_rfl) (by kernel_rfl) (by kernel_rfl) hn
end Go.Ev
end

section
set_option linter.unusedSectionVars false
set_option linter.unusedVariables false
set_option linter.unusedSimpArgs false
set_option maxRecDepth 100000
set_option linter.unusedVariables false
open Go Go.Ev
namespace Go.Ev
/-! ### paling/palinglaw26.WeaveMap -/
def sg_law26_WeaveMap : Sig := [(false, (.sl (.int .i64))), (false, (.int .i64))]
noncomputable def t_law26_WeaveMap : Tbl := [(18, e_book_Pick), (19, e_ref3_List), (23, e_weave_Back), (21, e_weave_Fences), (25, e_weave_There), (27, e_ref3_In), (12, e_law26_alive)]
theorem tk_law26_WeaveMap : ∀ p ∈ t_law26_WeaveMap, EntOK Go.Proofs.Tryd.prog p.1 p.2 := tbl_cons ok_book_Pick (tbl_cons ok_ref3_List (tbl_cons ok_weave_Back (tbl_cons ok_weave_Fences (tbl_cons ok_weave_There (tbl_cons ok_ref3_In (tbl_cons ok_law26_alive (tbl_nil)))))))
noncomputable def c_law26_WeaveMap : Code := Go.Proofs.Tryd.f5.body.getD .skip
def tb_law26_WeaveMap : Tb := [(5, ⟨[0, 1, 5, 6], []⟩), (14, ⟨[1, 5, 7, 8, 9, 10], []⟩), (26, ⟨[1, 5, 7, 8, 12, 13], []⟩), (31, ⟨[1, 5, 7, 8, 12, 13, 14], []⟩), (37, ⟨[7, 12, 15], []⟩)]
inductive J_law26_WeaveMap where
  | l5 (i : Int) (is : List Bool)
  | l14 (is : List Bool) (at_ : List Int) (last : Int) (q : Int) (came : List Int)
  | l26 (is : List Bool) (at_ : List Int) (fences : List Int) (came : List Int) (i : Int)
  | l31 (want : Int) (is : List Bool) (at_ : List Int) (fences : List Int) (came : List Int) (i : Int)
  | l37 (at_ : List Int) (fences : List Int) (k : Int)
def T_law26_WeaveMap (points : List Int) (n : Int) : J_law26_WeaveMap → JT J_law26_WeaveMap (Bool)
  | .l5 i is =>
    .br (decide (i < (Int.ofNat (List.length points))))
      (.br (decide (i < (12 : Int)))
        (.br ((decide ((0 : Int) ≤ i)) && (decide (i < (Int.ofNat (List.length points)))))
          (.br (k_book_Pick (List.getD points (Int.toNat i) (dflt (.int .i64))) (IntKind.i64.wrap ((1 : Int) + (v_book_Pick n (20 : Int)))))
            (.br ((decide ((0 : Int) ≤ (v_book_Pick (List.getD points (Int.toNat i) (dflt (.int .i64))) (IntKind.i64.wrap ((1 : Int) + (v_book_Pick n (20 : Int))))))) && (decide ((v_book_Pick (List.getD points (Int.toNat i) (dflt (.int .i64))) (IntKind.i64.wrap ((1 : Int) + (v_book_Pick n (20 : Int))))) < (Int.ofNat (List.length is)))))
              (.jmp (.l5 (IntKind.i64.wrap (i + (1 : Int))) (List.set is (Int.toNat (v_book_Pick (List.getD points (Int.toNat i) (dflt (.int .i64))) (IntKind.i64.wrap ((1 : Int) + (v_book_Pick n (20 : Int)))))) true)))
            (.no))
          (.no))
        (.no))
      (.br (k_ref3_List is)
        (.br ((((IntKind.i64.wrap ((1 : Int) + (v_book_Pick n (20 : Int)))) == (IntKind.i64.wrap ((1 : Int) + (v_book_Pick n (20 : Int))))) && (decide ((0 : Int) ≤ (IntKind.i64.wrap ((1 : Int) + (v_book_Pick n (20 : Int))))))) && (decide (((IntKind.i64.wrap ((1 : Int) + (v_book_Pick n (20 : Int)))) * (8 : Int)) ≤ (limit : Int))))
          (.jmp (.l14 is (v_ref3_List is) (0 : Int) (0 : Int) (List.replicate (Int.toNat (IntKind.i64.wrap ((1 : Int) + (v_book_Pick n (20 : Int))))) (0 : Int))))
        (.no))
      (.no)))
    (.br (k_ref3_List is)
      (.br ((((IntKind.i64.wrap ((1 : Int) + (v_book_Pick n (20 : Int)))) == (IntKind.i64.wrap ((1 : Int) + (v_book_Pick n (20 : Int))))) && (decide ((0 : Int) ≤ (IntKind.i64.wrap ((1 : Int) + (v_book_Pick n (20 : Int))))))) && (decide (((IntKind.i64.wrap ((1 : Int) + (v_book_Pick n (20 : Int)))) * (8 : Int)) ≤ (limit : Int))))
        (.jmp (.l14 is (v_ref3_List is) (0 : Int) (0 : Int) (List.replicate (Int.toNat (IntKind.i64.wrap ((1 : Int) + (v_book_Pick n (20 : Int))))) (0 : Int))))
      (.no))
    (.no))
  | .l14 is at_ last q came =>
    .br (decide (q < (IntKind.i64.wrap ((IntKind.i64.wrap ((1 : Int) + (v_book_Pick n (20 : Int)))) + (Int.ofNat (List.length at_))))))
      (.br (k_weave_Back at_ q)
        (.br (decide ((v_weave_Back at_ q) < last))
          (.leaf false)
        (.br (decide ((v_weave_Back at_ q) ≥ (IntKind.i64.wrap ((1 : Int) + (v_book_Pick n (20 : Int))))))
          (.leaf false)
        (.br ((decide ((0 : Int) ≤ (v_weave_Back at_ q))) && (decide ((v_weave_Back at_ q) < (Int.ofNat (List.length came)))))
          (.br ((decide ((0 : Int) ≤ (v_weave_Back at_ q))) && (decide ((v_weave_Back at_ q) < (Int.ofNat (List.length came)))))
            (.jmp (.l14 is at_ (v_weave_Back at_ q) (IntKind.i64.wrap (q + (1 : Int))) (List.set came (Int.toNat (v_weave_Back at_ q)) (IntKind.i64.wrap ((List.getD came (Int.toNat (v_weave_Back at_ q)) (dflt (.int .i64))) + (1 : Int))))))
          (.no))
        (.no))))
      (.no))
    (.br (k_weave_Fences at_)
      (.jmp (.l26 is at_ (v_weave_Fences at_) came (0 : Int)))
    (.no))
  | .l26 is at_ fences came i =>
    .br (decide (i < (IntKind.i64.wrap ((1 : Int) + (v_book_Pick n (20 : Int))))))
      (.br ((decide ((0 : Int) ≤ i)) && (decide (i < (Int.ofNat (List.length is)))))
        (.br (List.getD is (Int.toNat i) (dflt .bool))
          (.jmp (.l31 (2 : Int) is at_ fences came i))
        (.jmp (.l31 (1 : Int) is at_ fences came i)))
      (.no))
    (.jmp (.l37 at_ fences (0 : Int)))
  | .l31 want is at_ fences came i =>
    .br ((decide ((0 : Int) ≤ i)) && (decide (i < (Int.ofNat (List.length came)))))
      (.br ((List.getD came (Int.toNat i) (dflt (.int .i64))) != want)
        (.leaf false)
      (.br (k_weave_There at_ i)
        (.br (k_weave_Back at_ (v_weave_There at_ i))
          (.br ((v_weave_Back at_ (v_weave_There at_ i)) != i)
            (.leaf false)
          (.br (k_weave_There at_ i)
            (.br (k_ref3_In fences (v_weave_There at_ i))
              (.br (v_ref3_In fences (v_weave_There at_ i))
                (.leaf false)
              (.jmp (.l26 is at_ fences came (IntKind.i64.wrap (i + (1 : Int))))))
            (.no))
          (.no)))
        (.no))
      (.no)))
    (.no)
  | .l37 at_ fences k =>
    .br (decide (k < (Int.ofNat (List.length fences))))
      (.br ((decide ((0 : Int) ≤ k)) && (decide (k < (Int.ofNat (List.length fences)))))
        (.br (k_weave_Back at_ (List.getD fences (Int.toNat k) (dflt (.int .i64))))
          (.br ((decide ((0 : Int) ≤ k)) && (decide (k < (Int.ofNat (List.length at_)))))
            (.br ((v_weave_Back at_ (List.getD fences (Int.toNat k) (dflt (.int .i64)))) != (List.getD at_ (Int.toNat k) (dflt (.int .i64))))
              (.leaf false)
            (.jmp (.l37 at_ fences (IntKind.i64.wrap (k + (1 : Int))))))
          (.no))
        (.no))
      (.no))
    (.br ((Int.ofNat (List.length fences)) == (Int.ofNat (List.length at_)))
      (.br k_law26_alive
        (.leaf v_law26_alive)
      (.no))
    (.leaf false))
def T0_law26_WeaveMap (points : List Int) (n : Int) : JT J_law26_WeaveMap (Bool) :=
  .br (k_book_Pick n (20 : Int))
    (.br ((((IntKind.i64.wrap ((1 : Int) + (v_book_Pick n (20 : Int)))) == (IntKind.i64.wrap ((1 : Int) + (v_book_Pick n (20 : Int))))) && (decide ((0 : Int) ≤ (IntKind.i64.wrap ((1 : Int) + (v_book_Pick n (20 : Int))))))) && (decide (((IntKind.i64.wrap ((1 : Int) + (v_book_Pick n (20 : Int)))) * (1 : Int)) ≤ (limit : Int))))
      (.jmp (.l5 (0 : Int) (List.replicate (Int.toNat (IntKind.i64.wrap ((1 : Int) + (v_book_Pick n (20 : Int))))) false)))
    (.no))
  (.no)
def R_law26_WeaveMap : Bool → AV := fun (r : Bool) => .d .bool r
def S_law26_WeaveMap (points : List Int) (n : Int) : J_law26_WeaveMap → Nat × St
  | .l5 i is => (5, ⟨mkTm 127 [(0, .d (.sl (.int .i64)) points), (1, .d (.int .i64) (IntKind.i64.wrap ((1 : Int) + (v_book_Pick n (20 : Int))))), (5, .own 6 0 none), (6, .d (.int .i64) i)], [(6, 0, .row 4 .bool is false)]⟩)
  | .l14 is at_ last q came => (14, ⟨mkTm 127 [(1, .d (.int .i64) (IntKind.i64.wrap ((1 : Int) + (v_book_Pick n (20 : Int))))), (5, .own 6 0 none), (7, .own 8 0 none), (8, .own 9 0 none), (9, .d (.int .i64) last), (10, .d (.int .i64) q)], [(6, 0, .row 4 .bool is false), (8, 0, .row 3 (.int .i64) at_ false), (9, 0, .row 3 (.int .i64) came false)]⟩)
  | .l26 is at_ fences came i => (26, ⟨mkTm 127 [(1, .d (.int .i64) (IntKind.i64.wrap ((1 : Int) + (v_book_Pick n (20 : Int))))), (5, .own 6 0 none), (7, .own 8 0 none), (8, .own 9 0 none), (12, .own 13 0 none), (13, .d (.int .i64) i)], [(6, 0, .row 4 .bool is false), (8, 0, .row 3 (.int .i64) at_ false), (9, 0, .row 3 (.int .i64) came false), (13, 0, .row 3 (.int .i64) fences false)]⟩)
  | .l31 want is at_ fences came i => (31, ⟨mkTm 127 [(1, .d (.int .i64) (IntKind.i64.wrap ((1 : Int) + (v_book_Pick n (20 : Int))))), (5, .own 6 0 none), (7, .own 8 0 none), (8, .own 9 0 none), (12, .own 13 0 none), (13, .d (.int .i64) i), (14, .d (.int .i64) want)], [(6, 0, .row 4 .bool is false), (8, 0, .row 3 (.int .i64) at_ false), (9, 0, .row 3 (.int .i64) came false), (13, 0, .row 3 (.int .i64) fences false)]⟩)
  | .l37 at_ fences k => (37, ⟨mkTm 127 [(7, .own 8 0 none), (12, .own 13 0 none), (15, .d (.int .i64) k)], [(8, 0, .row 3 (.int .i64) at_ false), (13, 0, .row 3 (.int .i64) fences false)]⟩)
theorem en_law26_WeaveMap (points : List Int) (n : Int) (L : Lt) : entryA Go.Proofs.Tryd.prog (clOf t_law26_WeaveMap) tb_law26_WeaveMap Go.Proofs.Tryd.f5 c_law26_WeaveMap L (toForms sg_law26_WeaveMap (points, n, ())) = (T0_law26_WeaveMap points n).run (fun v => some (R_law26_WeaveMap v, tps (toForms sg_law26_WeaveMap (points, n, ())))) fun j => L (S_law26_WeaveMap points n j).1 (S_law26_WeaveMap points n j).2 := by kernel_rfl
theorem lp_law26_WeaveMap (points : List Int) (n : Int) : ∀ (L : Lt) (j : J_law26_WeaveMap), procOf (procsF Go.Proofs.Tryd.prog (clOf t_law26_WeaveMap) tb_law26_WeaveMap Go.Proofs.Tryd.f5 c_law26_WeaveMap (toForms sg_law26_WeaveMap (points, n, ()))) (S_law26_WeaveMap points n j).1 L (S_law26_WeaveMap points n j).2 = (T_law26_WeaveMap points n j).run (fun v => some (R_law26_WeaveMap v, tps (toForms sg_law26_WeaveMap (points, n, ())))) fun j => L (S_law26_WeaveMap points n j).1 (S_law26_WeaveMap points n j).2
  | L, .l5 i is => by kernel_rfl
  | L, .l14 is at_ last q came => by kernel_rfl
  | L, .l26 is at_ fences came i => by kernel_rfl
  | L, .l31 want is at_ fences came i => by kernel_rfl
  | L, .l37 at_ fences k => by kernel_rfl
end Go.Ev
end

section
set_option linter.unusedSectionVars false
set_option linter.unusedVariables false
set_option linter.unusedSimpArgs false
/- The way back from the places of what was laid in: over lists. -/
set_option linter.unusedVariables false
set_option linter.unusedSimpArgs false
namespace Go.Ev
open Go
/-- Each place, those with a fence twice. -/
def expand : Nat → List Bool → List Int
  | _, [] => []
  | k, b :: r => if b then (k : Int) :: (k : Int) :: expand (k + 1) r else (k : Int) :: expand (k + 1) r
theorem expand_len : ∀ (l : List Bool) (k : Nat), (expand k l).length = l.length + (listFrom k l).length
  | [], _ => rfl
  | b :: r, k => by
    have := expand_len r (k + 1)
    unfold expand listFrom
    split <;> simp only [List.length_cons] <;> omega
theorem listFrom_gt {l : List Bool} {k : Nat} {x : Int} (h : x ∈ listFrom k l) : (k : Int) ≤ x ∧ x < k + l.length := by
  obtain ⟨i, h1, h2⟩ := mem_listFrom.1 h
  have := (List.getElem?_eq_some_iff.1 h1).1
  omega
theorem fences_gt {l : List Int} {j : Nat} {y x : Int} (hl : ∀ n ∈ l, y < n) (h : x ∈ fencesFrom j l) : y + j < x := by
  obtain ⟨i, n, h1, h2⟩ := mem_fencesFrom.1 h
  have := hl n (List.mem_of_getElem? h1)
  omega
theorem below_zero {l : List Int} {x : Int} (h : ∀ f ∈ l, x ≤ f) : below l x = 0 := by
  unfold below
  rw [List.countP_eq_zero]
  intro f hf
  have := h f hf
  simp; omega
theorem below_cons {n : Int} {l : List Int} {x : Int} : below (n :: l) x = (if n < x then 1 else 0) + below l x := by
  unfold below
  rw [List.countP_cons, Nat.add_comm]
  congr 1
  by_cases h : n < x <;> simp [h]
theorem upTo_cons {n : Int} {l : List Int} {x : Int} : upTo (n :: l) x = (if n ≤ x then 1 else 0) + upTo l x := by
  unfold upTo
  rw [List.countP_cons, Nat.add_comm]
  congr 1
  by_cases h : n ≤ x <;> simp [h]
theorem listFrom_rising : ∀ (l : List Bool) (k : Nat), (listFrom k l).Pairwise (· < ·)
  | [], _ => List.Pairwise.nil
  | b :: r, k => by
    have ih := listFrom_rising r (k + 1)
    unfold listFrom
    split
    · exact List.pairwise_cons.2 ⟨fun x hx => by have := (listFrom_gt hx).1; omega, ih⟩
    · exact ih
theorem listFrom_isRising {l : List Bool} (h : l.length ≤ 2147483647) : rising (listFrom 0 l) = true :=
  rising_spec.2 ⟨fun x hx => by have := listFrom_gt hx; omega, listFrom_rising l 0⟩
theorem back_expand : ∀ (l : List Bool) (k j m : Nat) (x : Int), (expand k l)[m]? = some x → (x : Int) = (k + j + m : Nat) - ((j + below (fencesFrom j (listFrom k l)) ((k + j + m : Nat) : Int) : Nat) : Int)
  | [], k, j, m, x, h => by simp [expand] at h
  | b :: r, k, j, m, x, h => by
    have gt : ∀ f ∈ fencesFrom j (listFrom (k + 1) r), (k : Int) + j < f := fun f hf => fences_gt (fun n hn => by have := (listFrom_gt hn).1; omega) hf
    have gt2 : ∀ f ∈ fencesFrom (j + 1) (listFrom (k + 1) r), (k : Int) + j + 1 < f := fun f hf => by
      have := fences_gt (y := (k : Int)) (fun n hn => by have := (listFrom_gt hn).1; omega) hf
      omega
    unfold expand at h
    unfold listFrom
    cases b with
    | true =>
      rw [if_pos rfl] at h ⊢
      unfold fencesFrom
      rw [below_cons]
      match m, h with
      | 0, h =>
        have hx : x = (k : Int) := by simpa using h.symm
        rw [if_neg (by omega), below_zero (fun f hf => by have := gt2 f hf; omega)]
        omega
      | 1, h =>
        have hx : x = (k : Int) := by simpa using h.symm
        rw [if_pos (by omega), below_zero (fun f hf => by have := gt2 f hf; omega)]
        omega
      | m + 2, h =>
        have ih := back_expand r (k + 1) (j + 1) m x (by simpa using h)
        rw [if_pos (by omega)]
        rw [show k + j + (m + 2) = k + 1 + (j + 1) + m by omega]
        omega
    | false =>
      rw [if_neg (by decide)] at h ⊢
      match m, h with
      | 0, h =>
        have hx : x = (k : Int) := by simpa using h.symm
        rw [below_zero (fun f hf => by have := gt f hf; omega)]
        omega
      | m + 1, h =>
        have ih := back_expand r (k + 1) j m x (by simpa using h)
        rw [show k + j + (m + 1) = k + 1 + j + m by omega]
        exact ih
theorem there_back : ∀ (l : List Int) (j : Nat) (i : Int), l.Pairwise (· < ·) → below (fencesFrom j l) (i + (j + upTo l i : Nat)) = upTo l i ∧ (i + (j + upTo l i : Nat)) ∉ fencesFrom j l
  | [], j, i, _ => ⟨rfl, by simp [fencesFrom]⟩
  | n :: r, j, i, h => by
    obtain ⟨h1, h2⟩ := List.pairwise_cons.1 h
    obtain ⟨ih1, ih2⟩ := there_back r (j + 1) i h2
    rw [upTo_cons]
    unfold fencesFrom
    by_cases hn : n ≤ i
    · rw [if_pos hn, show j + (1 + upTo r i) = j + 1 + upTo r i by omega, below_cons, if_pos (by omega), ih1]
      refine ⟨rfl, fun hm => ?_⟩
      rcases List.mem_cons.1 hm with hm | hm
      · omega
      · exact ih2 hm
    · have h0 : upTo r i = 0 := by
        unfold upTo
        rw [List.countP_eq_zero]
        intro f hf
        have := h1 f hf
        simp; omega
      have gt : ∀ f ∈ fencesFrom (j + 1) r, i + j < f := fun f hf => by
        have := fences_gt (y := i) (fun n hn => by have := h1 n hn; omega) hf
        omega
      rw [if_neg hn, h0, below_cons, if_neg (by omega), below_zero (fun f hf => by have := gt f hf; omega)]
      refine ⟨rfl, fun hm => ?_⟩
      rcases List.mem_cons.1 hm with hm | hm
      · omega
      · have := gt _ hm; omega
theorem fence_back : ∀ (l : List Int) (j k : Nat) (n : Int), l.Pairwise (· < ·) → l[k]? = some n → below (fencesFrom j l) (n + (j + k : Nat)) = k
  | [], j, k, n, _, h => by simp at h
  | m :: r, j, k, n, h, hk => by
    obtain ⟨h1, h2⟩ := List.pairwise_cons.1 h
    unfold fencesFrom
    rw [below_cons]
    cases k with
    | zero =>
      have : m = n := by simpa using hk
      subst this
      rw [if_neg (by omega), below_zero fun f hf => by
        have := fences_gt (y := m) h1 hf
        omega]
    | succ k =>
      have hk' : r[k]? = some n := by simpa using hk
      have ih := fence_back r (j + 1) k n h2 hk'
      have := h1 n (List.mem_of_getElem? hk')
      rw [if_pos (by omega), show j + (k + 1) = j + 1 + k by omega, ih]
      omega
theorem fencesFrom_get : ∀ (l : List Int) (j k : Nat) (n : Int), l[k]? = some n → (fencesFrom j l)[k]? = some (n + (j + k : Nat))
  | [], j, k, n, h => by simp at h
  | m :: r, j, k, n, h => by
    unfold fencesFrom
    cases k with
    | zero => have : m = n := by simpa using h
              subst this; simp
    | succ k =>
      have := fencesFrom_get r (j + 1) k n (by simpa using h)
      rw [List.getElem?_cons_succ, this]
      congr 1
      omega
theorem expand_ge {l : List Bool} : ∀ {k : Nat} {x : Int}, x ∈ expand k l → (k : Int) ≤ x ∧ x < k + l.length := by
  induction l with
  | nil => intro k x h; simp [expand] at h
  | cons b r ih =>
    intro k x h
    have key : x = (k : Int) ∨ x ∈ expand (k + 1) r := by
      unfold expand at h
      split at h <;> simp only [List.mem_cons] at h <;> rcases h with h | h <;> first | exact .inl h | exact .inr h | (rcases h with h | h <;> first | exact .inl h | exact .inr h)
    rcases key with rfl | h
    · rw [List.length_cons]; omega
    · have := ih h; rw [List.length_cons]; omega
theorem expand_sorted : ∀ (l : List Bool) (k : Nat), (expand k l).Pairwise (· ≤ ·)
  | [], _ => List.Pairwise.nil
  | b :: r, k => by
    have ih := expand_sorted r (k + 1)
    have hge : ∀ x ∈ expand (k + 1) r, (k : Int) ≤ x := fun x hx => by have := (expand_ge hx).1; omega
    unfold expand
    split
    · refine List.pairwise_cons.2 ⟨fun x hx => ?_, List.pairwise_cons.2 ⟨hge, ih⟩⟩
      rcases List.mem_cons.1 hx with rfl | hx
      · exact Int.le_refl _
      · exact hge x hx
    · exact List.pairwise_cons.2 ⟨hge, ih⟩
theorem expand_count : ∀ (l : List Bool) (k i : Nat) (b : Bool), l[i]? = some b → (expand k l).count ((k + i : Nat) : Int) = if b then 2 else 1
  | [], k, i, b, h => by simp at h
  | c :: r, k, i, b, h => by
    have hz : (expand (k + 1) r).count (k : Int) = 0 := by
      rw [List.count_eq_zero]
      intro hm
      have := (expand_ge hm).1
      omega
    cases i with
    | zero =>
      have : c = b := by simpa using h
      subst this
      unfold expand
      cases c <;> simp [hz]
    | succ i =>
      have ih := expand_count r (k + 1) i b (by simpa using h)
      have hne : ((k : Int) == ((k + (i + 1) : Nat) : Int)) = false := by simp; omega
      rw [show k + 1 + i = k + (i + 1) by omega] at ih
      unfold expand
      split
      · rw [List.count_cons, List.count_cons, hne, ih]; simp
      · rw [List.count_cons, hne, ih]; simp
/-- How often each place was come to. -/
def cameC (n : Nat) (l : List Int) : List Int := (List.range n).map fun (i : Nat) => (l.count (i : Int) : Int)
theorem cameC_get {n : Nat} {l : List Int} {i : Nat} (h : i < n) : (cameC n l)[i]? = some (l.count (i : Int) : Int) := by
  unfold cameC
  rw [List.getElem?_map, List.getElem?_range h]; rfl
theorem cameC_len {n : Nat} {l : List Int} : (cameC n l).length = n := by unfold cameC; simp
theorem cameC_snoc {n : Nat} {l : List Int} {b : Nat} (hb : b < n) : (cameC n l).set b ((l.count (b : Int) : Int) + 1) = cameC n (l ++ [(b : Int)]) := by
  apply List.ext_getElem?
  intro i
  rw [List.getElem?_set]
  by_cases hi : i < n
  · rw [cameC_get hi, cameC_get hi, cameC_len]
    by_cases he : b = i
    · subst he
      rw [if_pos rfl, if_pos hb, List.count_append]
      simp
    · rw [if_neg he, List.count_append]
      have : List.count (i : Int) [(b : Int)] = 0 := by rw [List.count_eq_zero]; simp; omega
      rw [this]; rfl
  · have h1 : (cameC n l)[i]? = none := List.getElem?_eq_none (by rw [cameC_len]; omega)
    have h2 : (cameC n (l ++ [(b : Int)]))[i]? = none := List.getElem?_eq_none (by rw [cameC_len]; omega)
    rw [h1, h2, if_neg (by omega)]
theorem cameC_nil {n : Nat} : List.replicate n (0 : Int) = cameC n [] := by
  unfold cameC
  simp only [List.count_nil, Int.natCast_zero, List.map_const', List.length_range]
end Go.Ev
end

section
set_option linter.unusedSectionVars false
set_option linter.unusedVariables false
set_option linter.unusedSimpArgs false
/- The first call that chapter 26's laws make. -/
set_option maxRecDepth 100000
namespace Go.Ev
theorem alive26 : k_law26_alive = true ∧ v_law26_alive = true := by decide +kernel
end Go.Ev
end

section
set_option linter.unusedSectionVars false
set_option linter.unusedVariables false
set_option linter.unusedSimpArgs false
/- The helper Pick, and what is made with it. -/
set_option linter.unusedVariables false
namespace Go.Ev
open Go
theorem pick_lt {n m : Int} (h1 : 0 < m) (h2 : m < 9223372036854775808) : k_book_Pick n m = true ∧ 0 ≤ v_book_Pick n m ∧ v_book_Pick n m < m := by
  have h0 : (m == 0) = false := by simp; omega
  have hl : Int.tmod n m < m := Int.tmod_lt_of_pos n h1
  have hg : -m < Int.tmod n m := by have := Int.tmod_lt_of_pos (-n) h1; rw [Int.neg_tmod] at this; omega
  unfold k_book_Pick v_book_Pick
  simp only [h0, cond_false, Bool.cond_self, true_and]
  by_cases hn : Int.tmod n m < 0
  · simp only [hn, decide_true, cond_true]
    rw [wrap_i64 (by omega) (by omega)]
    omega
  · simp only [hn, decide_false, cond_false]
    omega
theorem pick_fin {P : Int → Prop} {n m : Int} (h1 : 0 < m) (h2 : m < 9223372036854775808) (h : ∀ k : Fin m.toNat, P (k.1 : Int)) : P (v_book_Pick n m) := by
  obtain ⟨_, h3, h4⟩ := pick_lt (n := n) h1 h2
  have := h ⟨(v_book_Pick n m).toNat, by omega⟩
  rwa [Int.toNat_of_nonneg h3] at this
end Go.Ev
end

section
set_option linter.unusedSectionVars false
set_option linter.unusedVariables false
set_option linter.unusedSimpArgs false
set_option linter.unusedVariables false
set_option linter.unusedSimpArgs false
open Go
namespace Go.Ev
def v_law26_WeaveMap (points : List Int) (n : Int) : Bool := true
def k_law26_WeaveMap (points : List Int) (n : Int) : Bool := true
theorem g_law26_WeaveMap (points : List Int) (n : Int) (hk : k_law26_WeaveMap points n = true) : Goes (T_law26_WeaveMap points n) (T0_law26_WeaveMap points n) (v_law26_WeaveMap points n) := by
  obtain ⟨p1, p2, p3⟩ := pick_lt (n := n) (m := 20) (by omega) (by omega)
  obtain ⟨N, hN, hN1, hN2⟩ : ∃ N : Nat, IntKind.i64.wrap ((1 : Int) + v_book_Pick n 20) = (N : Int) ∧ 1 ≤ N ∧ N ≤ 20 := by
    refine ⟨(1 + v_book_Pick n 20).toNat, ?_, by omega, by omega⟩
    rw [wrap_i64 (by omega) (by omega)]; omega
  have fin : ∀ is : List Bool, is.length = N → Goes (T_law26_WeaveMap points n) (.jmp (.l14 is (v_ref3_List is) 0 0 (List.replicate N 0))) true := by
    intro is his
    obtain ⟨at_, hat⟩ : ∃ a, listFrom 0 is = a := ⟨_, rfl⟩
    have hris : rising at_ = true := by rw [← hat]; exact listFrom_isRising (by omega)
    have hpw : at_.Pairwise (· < ·) := by rw [← hat]; exact listFrom_rising is 0
    have hal : at_.length ≤ 20 := by have := listFrom_len is 0; rw [hat] at this; omega
    have hV : v_ref3_List is = at_ := hat
    obtain ⟨ex, hex⟩ : ∃ e, expand 0 is = e := ⟨_, rfl⟩
    have hexl : ex.length = N + at_.length := by rw [← hex, expand_len, his, hat]
    have hf : fencesC at_ = fencesFrom 0 at_ := by unfold fencesC; rw [if_pos hris]
    have kB : ∀ x, k_weave_Back at_ x = true := fun x => decide_eq_true (by omega)
    have kF : k_weave_Fences at_ = true := decide_eq_true (by omega)
    have kT : ∀ x, k_weave_There at_ x = true := fun x => decide_eq_true (by omega)
    have back : ∀ q (hq : q < ex.length), v_weave_Back at_ (q : Int) = ex[q] ∧ 0 ≤ ex[q] ∧ ex[q] < N := by
      intro q hq
      have hge := expand_ge (l := is) (k := 0) (x := ex[q]) (by rw [hex]; exact List.getElem_mem hq)
      rw [his] at hge
      refine ⟨?_, by omega, by omega⟩
      have h := back_expand is 0 0 q ex[q] (by rw [hex]; exact List.getElem?_eq_getElem hq)
      simp only [Nat.zero_add, hat] at h
      show backC at_ (q : Int) = _
      unfold backC
      rw [if_neg (by omega), hf]
      exact h.symm
    have there : ∀ i : Nat, i < N → v_weave_There at_ (i : Int) = ((i + upTo at_ i : Nat) : Int) ∧ v_weave_Back at_ (((i + upTo at_ i : Nat) : Int)) = (i : Int) ∧ ¬ (((i + upTo at_ i : Nat) : Int)) ∈ fencesFrom 0 at_ := by
      intro i hi
      have hu : upTo at_ i ≤ at_.length := List.countP_le_length
      obtain ⟨t1, t2⟩ := there_back at_ 0 i hpw
      rw [Nat.zero_add] at t1 t2
      refine ⟨?_, ?_, ?_⟩
      · show thereC at_ i = _
        unfold thereC
        rw [if_neg (by simp [hris]; omega)]
        omega
      · show backC at_ _ = _
        unfold backC
        rw [if_neg (by omega), hf, Int.natCast_add, t1]
        omega
      · rw [Int.natCast_add]; exact t2
    have hfl : (fencesFrom 0 at_).length = at_.length := fencesFrom_len at_ 0
    have hVF : v_weave_Fences at_ = fencesFrom 0 at_ := hf
    -- the last loop
    have l37 : ∀ k, k ≤ at_.length → Goes (T_law26_WeaveMap points n) (.jmp (.l37 at_ (fencesFrom 0 at_) (k : Int))) true := by
      refine down ?_ fun k hk ih => ?_
      · rw [goes_jmp]
        simp only [T_law26_WeaveMap, goes_br, hfl, lt_len_not (Nat.lt_irrefl _), beq_self_eq_true, alive26.1, alive26.2, if_true, if_false, Bool.false_eq_true]
        exact .leaf
      · have hkf : k < (fencesFrom 0 at_).length := by omega
        have hg := fencesFrom_get at_ 0 k at_[k] (List.getElem?_eq_getElem hk)
        have hg' : (fencesFrom 0 at_)[k] = at_[k] + (k : Int) := by
          rw [List.getElem?_eq_getElem hkf] at hg
          rw [Option.some.inj hg, Nat.zero_add]
        have hb := fence_back at_ 0 k at_[k] hpw (List.getElem?_eq_getElem hk)
        rw [Nat.zero_add] at hb
        have hin := (rising_spec.1 hris).1 _ (List.getElem_mem hk)
        have hlt : at_[k] < N := by
          have hm : at_[k] ∈ listFrom 0 is := by rw [hat]; exact List.getElem_mem hk
          have := listFrom_gt hm
          omega
        have hvb : v_weave_Back at_ (at_[k] + (k : Int)) = at_[k] := by
          show backC at_ _ = _
          unfold backC
          rw [if_neg (by omega), hf, hb]
          omega
        rw [goes_jmp]
        simp only [T_law26_WeaveMap, goes_br, lt_len hk, lt_len hkf, nng, Bool.and_self, if_true, Int.toNat_natCast, getD_lt hk, getD_lt hkf, hg', kB, hvb, bne_self_eq_false, if_false, Bool.false_eq_true, wrap_succ (k := k) (by omega)]
        exact ih
    have l26 : ∀ i, i ≤ N → Goes (T_law26_WeaveMap points n) (.jmp (.l26 is at_ (fencesFrom 0 at_) (cameC N ex) (i : Int))) true := by
      refine down ?_ fun i hi ih => ?_
      · rw [goes_jmp]
        have e : decide ((N : Int) < (N : Int)) = false := by simp
        simp only [T_law26_WeaveMap, goes_br, hN, e, if_false, Bool.false_eq_true]
        exact l37 0 (Nat.zero_le _)
      · have hii : i < is.length := by omega
        have e : decide ((i : Int) < (N : Int)) = true := decide_eq_true (by omega)
        obtain ⟨t1, t2, t3⟩ := there i hi
        have kI : ∀ x, k_ref3_In (fencesFrom 0 at_) x = true := fun x => decide_eq_true (by omega)
        have vI : v_ref3_In (fencesFrom 0 at_) (((i + upTo at_ i : Nat) : Int)) = false := by
          unfold v_ref3_In
          rw [← Bool.not_eq_true, List.contains_iff_mem]
          exact t3
        have key : ∀ want : Int, (ex.count (i : Int) : Int) = want → Goes (T_law26_WeaveMap points n) (.jmp (.l31 want is at_ (fencesFrom 0 at_) (cameC N ex) (i : Int))) true := by
          intro want hw
          have hic : i < (cameC N ex).length := by rw [cameC_len]; exact hi
          have hcg : (cameC N ex)[i] = want := by
            have := cameC_get (n := N) (l := ex) hi
            rw [List.getElem?_eq_getElem hic] at this
            rw [Option.some.inj this, hw]
          rw [goes_jmp]
          simp only [T_law26_WeaveMap, goes_br, lt_len hic, nng, Bool.and_self, if_true, Int.toNat_natCast, getD_lt hic, hcg, bne_self_eq_false, kT, kB, t1, t2, kI, vI, if_false, Bool.false_eq_true, wrap_succ (k := i) (by omega)]
          exact ih
        have hcount := expand_count is 0 i is[i] (List.getElem?_eq_getElem hii)
        rw [hex, Nat.zero_add] at hcount
        rw [goes_jmp]
        simp only [T_law26_WeaveMap, goes_br, hN, e, lt_len hii, nng, Bool.and_self, if_true, Int.toNat_natCast, getD_lt hii]
        split
        · rename_i hb
          rw [hb, if_pos rfl] at hcount
          exact key 2 (by rw [hcount]; rfl)
        · rename_i hb
          have hb' : is[i] = false := by simpa using hb
          rw [hb', if_neg (by decide)] at hcount
          exact key 1 (by rw [hcount]; rfl)
    have l14 : ∀ q, q ≤ ex.length → ∀ last : Int, (∀ x ∈ ex.drop q, last ≤ x) → Goes (T_law26_WeaveMap points n) (.jmp (.l14 is at_ last (q : Int) (cameC N (ex.take q)))) true := by
      have hw : IntKind.i64.wrap ((N : Int) + Int.ofNat (List.length at_)) = (ex.length : Int) := by
        rw [hexl, wrap_i64 (by simp; omega) (by simp; omega)]; simp
      refine down ?_ fun q hq ih => ?_
      · intro last hlast
        rw [goes_jmp]
        have e : decide ((ex.length : Int) < (ex.length : Int)) = false := by simp
        simp only [T_law26_WeaveMap, goes_br, hN, hw, e, kF, hVF, if_true, if_false, Bool.false_eq_true, List.take_length]
        exact l26 0 (Nat.zero_le _)
      · intro last hlast
        obtain ⟨b1, b2, b3⟩ := back q hq
        obtain ⟨b, hb⟩ := Int.eq_ofNat_of_zero_le b2
        rw [hb] at b1 b3
        have hbN : b < N := by omega
        have e : decide ((q : Int) < (ex.length : Int)) = true := decide_eq_true (by omega)
        have hl : last ≤ (b : Int) := by
          have := hlast ex[q] (by rw [drop_cons hq]; exact List.mem_cons_self ..)
          rw [hb] at this; exact this
        have e1 : decide ((b : Int) < last) = false := decide_eq_false (by omega)
        have e2 : decide ((b : Int) ≥ (N : Int)) = false := decide_eq_false (by omega)
        have hbc : b < (cameC N (ex.take q)).length := by rw [cameC_len]; exact hbN
        have hcg : (cameC N (ex.take q))[b] = ((ex.take q).count (b : Int) : Int) := by
          have := cameC_get (n := N) (l := ex.take q) hbN
          rw [List.getElem?_eq_getElem hbc] at this
          exact Option.some.inj this
        have hcl : (ex.take q).count (b : Int) ≤ q := by
          have := List.count_le_length (a := (b : Int)) (l := ex.take q)
          rw [List.length_take] at this; omega
        rw [goes_jmp]
        simp only [T_law26_WeaveMap, goes_br, hN, hw, e, kB, b1, e1, e2, lt_len hbc, nng, Bool.and_self, if_true, if_false, Bool.false_eq_true, Int.toNat_natCast, getD_lt hbc, hcg, wrap_succ (k := q) (by omega), wrap_succ (k := (ex.take q).count (b : Int)) (by omega)]
        have hs := cameC_snoc (n := N) (l := ex.take q) hbN
        have htk : ex.take q ++ [(b : Int)] = ex.take (q + 1) := by rw [List.take_succ_eq_append_getElem hq, hb]
        rw [htk] at hs
        rw [show ((((ex.take q).count (b : Int) + 1 : Nat)) : Int) = ((ex.take q).count (b : Int) : Int) + 1 by omega, hs]
        refine ih (b : Int) fun x hx => ?_
        have hsort := expand_sorted is 0
        rw [hex] at hsort
        have := (List.pairwise_iff_getElem.1 hsort)
        obtain ⟨m, hm, rfl⟩ := List.mem_iff_getElem.1 hx
        rw [List.getElem_drop]
        rw [List.length_drop] at hm
        have := this q (q + 1 + m) hq (by omega) (by omega)
        rw [hb] at this
        exact this
    rw [hV, cameC_nil]
    have := l14 0 (Nat.zero_le _) 0 fun x hx => by
      rw [List.drop_zero, ← hex] at hx
      exact (expand_ge hx).1
    simpa using this
  have hb1 : ((((N : Int) == (N : Int)) && (decide ((0 : Int) ≤ (N : Int)))) && (decide (((N : Int) * (8 : Int)) ≤ (limit : Int)))) = true := by
    rw [beq_self_eq_true, decide_eq_true (by omega), decide_eq_true (by unfold limit; omega)]; rfl
  have hb2 : ((((N : Int) == (N : Int)) && (decide ((0 : Int) ≤ (N : Int)))) && (decide (((N : Int) * (1 : Int)) ≤ (limit : Int)))) = true := by
    rw [beq_self_eq_true, decide_eq_true (by omega), decide_eq_true (by unfold limit; omega)]; rfl
  have loop : ∀ m k : Nat, k + m = 12 → ∀ is : List Bool, is.length = N → Goes (T_law26_WeaveMap points n) (.jmp (.l5 (k : Int) is)) true := by
    intro m
    induction m with
    | zero =>
      intro k hk is his
      have hL : k_ref3_List is = true := decide_eq_true (by omega)
      have e : decide ((k : Int) < 12) = false := decide_eq_false (by omega)
      rw [goes_jmp, T_law26_WeaveMap, goes_br]
      split
      · rw [goes_br, if_neg (by rw [e]; decide), goes_br, if_pos hL, goes_br, hN, if_pos hb1, Int.toNat_natCast]
        exact fin is his
      · rw [goes_br, if_pos hL, goes_br, hN, if_pos hb1, Int.toNat_natCast]
        exact fin is his
    | succ m ih =>
      intro k hk is his
      have hL : k_ref3_List is = true := decide_eq_true (by omega)
      have e : decide ((k : Int) < 12) = true := decide_eq_true (by omega)
      rw [goes_jmp]
      by_cases hkl : k < points.length
      · obtain ⟨q1, q2, q3⟩ := pick_lt (n := points[k]) (m := (N : Int)) (by omega) (by omega)
        have hb : (decide ((0 : Int) ≤ v_book_Pick points[k] (N : Int)) && decide (v_book_Pick points[k] (N : Int) < Int.ofNat (List.length is))) = true := by rw [his]; simp; omega
        simp only [T_law26_WeaveMap, goes_br, lt_len hkl, e, nng, Bool.and_self, if_true, Int.toNat_natCast, getD_lt hkl, hN, q1, hb, wrap_succ (k := k) (by omega)]
        exact ih (k + 1) (by omega) _ (by rw [List.length_set]; exact his)
      · rw [T_law26_WeaveMap, goes_br, if_neg (by rw [lt_len_not hkl]; decide), goes_br, if_pos hL, goes_br, hN, if_pos hb1, Int.toNat_natCast]
        exact fin is his
  unfold T0_law26_WeaveMap v_law26_WeaveMap
  rw [goes_br, if_pos p1, goes_br, hN, if_pos hb2, Int.toNat_natCast]
  exact loop 12 0 rfl _ (by simp)
end Go.Ev
end

section
set_option linter.unusedSectionVars false
set_option linter.unusedVariables false
set_option linter.unusedSimpArgs false
set_option maxRecDepth 100000
set_option linter.unusedVariables false
open Go Go.Ev
namespace Go.Ev
noncomputable def e_law26_WeaveMap : Run := entG sg_law26_WeaveMap R_law26_WeaveMap (fun a => k_law26_WeaveMap a.1 a.2.1) (fun a => v_law26_WeaveMap a.1 a.2.1)
theorem ok_law26_WeaveMap : EntOK Go.Proofs.Tryd.prog 5 e_law26_WeaveMap := entG_ok (tb := tb_law26_WeaveMap) (c := c_law26_WeaveMap) tk_law26_WeaveMap (by kernel_rfl) (by kernel_rfl) (by kernel_rfl) (fun a => by kernel_rfl) fun ⟨points, n, _⟩ hk => evF_goes (c := c_law26_WeaveMap) (K := fun v => (R_law26_WeaveMap v, tps (toForms sg_law26_WeaveMap (points, n, ())))) (S := S_law26_WeaveMap points n) (by kernel_rfl) (en_law26_WeaveMap points n) (lp_law26_WeaveMap points n) (g_law26_WeaveMap points n hk)
theorem co_law26_WeaveMap (points : List Int) (n : Int) (hk : k_law26_WeaveMap points n = true) : CallOK Go.Proofs.Tryd.prog 5 (toForms sg_law26_WeaveMap (points, n, ())) (R_law26_WeaveMap (v_law26_WeaveMap points n), tps (toForms sg_law26_WeaveMap (points, n, ()))) := by
  obtain ⟨h1, h2⟩ := clOf_ok tk_law26_WeaveMap
  obtain ⟨n, hn⟩ := evF_goes (c := c_law26_WeaveMap) (K := fun v => (R_law26_WeaveMap v, tps (toForms sg_law26_WeaveMap (points, n, ())))) (S := S_law26_WeaveMap points n) (by kernel_rfl) (en_law26_WeaveMap points n) (lp_law26_WeaveMap points n) (g_law26_WeaveMap points n hk)
  exact evF_sound (f := 5) (c := c_law26_WeaveMap) h1 h2 (by kernel_rfl) (by kernel_rfl) (by kernel_rfl) hn
end Go.Ev
end

section
set_option linter.unusedSectionVars false
set_option linter.unusedVariables false
set_option linter.unusedSimpArgs false
set_option maxRecDepth 100000
set_option linter.unusedVariables false
namespace Go.Ev
open Go
theorem call_law26_WeaveMap (a : Args sg_law26_WeaveMap) (ha : smallArgs sg_law26_WeaveMap a) : CallOK Go.Proofs.Tryd.prog fid_law26_WeaveMap (toForms sg_law26_WeaveMap a) (.d .bool true, tps (toForms sg_law26_WeaveMap a)) := by
  obtain ⟨points, n, _⟩ := a
  exact co_law26_WeaveMap points n rfl
end Go.Ev
end

/- Part of the proof of: To which accesses a chain leads back is what the document says, of any program that is not great, also one that may not be: for every input the law answers true. -/
import Derived.Shelf.Slices.In.SortNone
import Derived.Shelf.Sort.Plain
import Derived.Test.YtgdfhjnbdmgjmaaGreatDoorCon0
section
set_option linter.unusedSectionVars false
set_option linter.unusedVariables false
set_option linter.unusedSimpArgs false
/- What follows an instruction: over lists. -/
set_option maxRecDepth 100000
set_option linter.unusedVariables false
set_option linter.unusedSimpArgs false
open Go
namespace Go.Ev
def flowOK (t : List (El T_api_Ins)) : Bool := decide (t.length < 1099511627776) && t.all fun i => smallText i.2.2.2.2.2.1 && decide (i.2.2.2.2.2.2.length < 1099511627776)
theorem flowOK_len {t : List (El T_api_Ins)} (h : flowOK t = true) : t.length < 1099511627776 := by
  unfold flowOK at h; rw [Bool.and_eq_true] at h; exact of_decide_eq_true h.1
theorem flowOK_text {t : List (El T_api_Ins)} (h : flowOK t = true) {i : El T_api_Ins} (hi : i ∈ t) : smallText i.2.2.2.2.2.1 = true := by
  unfold flowOK at h
  rw [Bool.and_eq_true] at h
  have := List.all_eq_true.1 h.2 i hi
  rw [Bool.and_eq_true] at this
  exact this.1
theorem flowOK_find {t : List (El T_api_Ins)} (h : flowOK t = true) : (decide (t.length < 1099511627776) && t.all fun i => decide (i.2.2.2.2.2.2.length < 1099511627776)) = true := by
  unfold flowOK at h
  rw [Bool.and_eq_true] at h ⊢
  refine ⟨h.1, List.all_eq_true.2 fun i hi => ?_⟩
  have := List.all_eq_true.1 h.2 i hi
  rw [Bool.and_eq_true] at this
  exact this.2
theorem findI_lt {label : ByteArray} : ∀ {t : List (El T_api_Ins)} {k : Nat}, findI label t k < ((k + t.length : Nat) : Int) ∨ findI label t k = -1
  | [], k => .inr rfl
  | x :: r, k => by
    unfold findI
    split
    · left; simp; omega
    · rcases @findI_lt label r (k + 1) with h | h
      · left; simp only [List.length_cons]; omega
      · exact .inr h
theorem findI_ge {label : ByteArray} : ∀ {t : List (El T_api_Ins)} {k : Nat}, findI label t k = -1 ∨ (k : Int) ≤ findI label t k
  | [], k => .inl rfl
  | x :: r, k => by
    unfold findI
    split
    · right; omega
    · rcases @findI_ge label r (k + 1) with h | h
      · exact .inl h
      · right; omega

/-- Where one instruction leads: on, and to. -/
def onOf (t : List (El T_api_Ins)) (i : Nat) : Bool := (v_ins_Leads (t.getD i (dflt T_api_Ins))).1
def toOf (t : List (El T_api_Ins)) (i : Nat) : Int := if (v_ins_Leads (t.getD i (dflt T_api_Ins))).2 then findI (t.getD i (dflt T_api_Ins)).2.2.2.2.2.1 t 0 else -1
theorem toOf_lt {t : List (El T_api_Ins)} {i : Nat} : -1 ≤ toOf t i ∧ (toOf t i < (t.length : Int)) := by
  unfold toOf
  split
  · have h1 := @findI_lt (t.getD i (dflt T_api_Ins)).2.2.2.2.2.1 t 0
    have h2 := @findI_ge (t.getD i (dflt T_api_Ins)).2.2.2.2.2.1 t 0
    rw [Nat.zero_add] at h1
    omega
  · omega
/-- Does j follow i? -/
def nextB (t : List (El T_api_Ins)) (i : Int) (j : Nat) : Bool :=
  decide (0 ≤ i ∧ i < (t.length : Int) ∧ j < t.length) && ((onOf t i.toNat && decide ((j : Int) = i + 1)) || decide (toOf t i.toNat = (j : Int)))

theorem nextB_lt {t : List (El T_api_Ins)} {i : Int} {j : Nat} (h : nextB t i j = true) : j < t.length := by
  unfold nextB at h
  rw [Bool.and_eq_true] at h
  exact (of_decide_eq_true h.1).2.2

/-- The code's list. -/
def nextL (n : Nat) (on : Bool) (to i : Int) : List Int :=
  (if 0 ≤ to ∧ to ≤ i then [to] else []) ++ ((if on = true ∧ i + 1 < (n : Int) then [i + 1] else []) ++ (if to > i ∧ ¬ (on = true ∧ i + 1 < (n : Int) ∧ to = i + 1) then [to] else []))
theorem nextL_strict {n : Nat} {on : Bool} {to i : Int} : (nextL n on to i).Pairwise (· < ·) := by
  unfold nextL
  by_cases h1 : 0 ≤ to ∧ to ≤ i
  · rw [if_pos h1, if_neg (c := to > i ∧ _) (fun h => by omega)]
    by_cases h2 : on = true ∧ i + 1 < (n : Int)
    · rw [if_pos h2]; simp; omega
    · rw [if_neg h2]; simp
  · rw [if_neg h1]
    by_cases h2 : on = true ∧ i + 1 < (n : Int)
    · rw [if_pos h2]
      by_cases h3 : to > i ∧ ¬ (on = true ∧ i + 1 < (n : Int) ∧ to = i + 1)
      · rw [if_pos h3]
        have : to ≠ i + 1 := fun e => h3.2 ⟨h2.1, h2.2, e⟩
        simp; omega
      · rw [if_neg h3]; simp
    · rw [if_neg h2]
      by_cases h3 : to > i ∧ ¬ (on = true ∧ i + 1 < (n : Int) ∧ to = i + 1)
      · rw [if_pos h3]; simp
      · rw [if_neg h3]; simp
theorem nextL_eq {t : List (El T_api_Ins)} {i : Nat} (hi : i < t.length) : nextL t.length (onOf t i) (toOf t i) (i : Int) = listOf t.length (nextB t (i : Int)) := by
  refine strict_ext nextL_strict listOf_strict fun x => ?_
  rw [listOf_mem]
  have hb : ∀ j : Nat, nextB t (i : Int) j = true ↔ j < t.length ∧ ((onOf t i = true ∧ (j : Int) = (i : Int) + 1) ∨ toOf t i = (j : Int)) := fun j => by
    unfold nextB
    rw [Int.toNat_natCast]
    simp only [Bool.and_eq_true, Bool.or_eq_true, decide_eq_true_eq]
    constructor
    · rintro ⟨⟨_, _, h⟩, h2⟩; exact ⟨h, h2⟩
    · rintro ⟨h, h2⟩; exact ⟨⟨by omega, by omega, h⟩, h2⟩
  have ht := @toOf_lt t i
  unfold nextL
  constructor
  · intro h
    simp only [List.mem_append] at h
    rcases h with h | h | h
    · split at h
      · rename_i hc
        simp at h
        subst h
        exact ⟨(toOf t i).toNat, by omega, (hb _).2 ⟨by omega, .inr (by omega)⟩, by omega⟩
      · simp at h
    · split at h
      · rename_i hc
        simp at h
        subst h
        exact ⟨i + 1, by omega, (hb _).2 ⟨by omega, .inl ⟨hc.1, by omega⟩⟩, by omega⟩
      · simp at h
    · split at h
      · rename_i hc
        simp at h
        subst h
        exact ⟨(toOf t i).toNat, by omega, (hb _).2 ⟨by omega, .inr (by omega)⟩, by omega⟩
      · simp at h
  · rintro ⟨j, hj, hM, rfl⟩
    obtain ⟨_, h⟩ := (hb j).1 hM
    simp only [List.mem_append]
    rcases h with ⟨h1, h2⟩ | h
    · right; left
      rw [if_pos ⟨h1, by omega⟩]; simp; omega
    · by_cases hle : toOf t i ≤ (i : Int)
      · left; rw [if_pos ⟨by omega, hle⟩]; simp; omega
      · right
        by_cases hc : onOf t i = true ∧ (i : Int) + 1 < (t.length : Int) ∧ toOf t i = (i : Int) + 1
        · left; rw [if_pos ⟨hc.1, hc.2.1⟩]; simp; omega
        · right; rw [if_pos ⟨by omega, hc⟩]; simp; omega
end Go.Ev
end

section
set_option linter.unusedSectionVars false
set_option linter.unusedVariables false
set_option linter.unusedSimpArgs false
/- Where one comes to, over steps of numbers. -/
set_option linter.unusedVariables false
open Go
namespace Go.Ev
inductive Come (N : Nat → Nat → Bool) (A : Nat → Bool) : Nat → Prop
  | start {j : Nat} : A j = true → Come N A j
  | step {k j : Nat} : Come N A k → N k j = true → Come N A j
noncomputable def comeB (N : Nat → Nat → Bool) (A : Nat → Bool) (j : Nat) : Bool := @decide (Come N A j) (Classical.propDecidable _)
theorem comeB_iff {N : Nat → Nat → Bool} {A : Nat → Bool} {j : Nat} : comeB N A j = true ↔ Come N A j := @decide_eq_true_iff _ (Classical.propDecidable _)
/-- What holds the start, is closed, and is come to, is it. -/
theorem comeB_eq {N : Nat → Nat → Bool} {A M : Nat → Bool} (h1 : ∀ j, A j = true → M j = true) (h2 : ∀ k j, M k = true → N k j = true → M j = true) (h3 : ∀ j, M j = true → Come N A j) (j : Nat) : M j = comeB N A j := by
  rw [Bool.eq_iff_iff, comeB_iff]
  refine ⟨h3 j, fun h => ?_⟩
  induction h with
  | start h => exact h1 _ h
  | step _ h ih => exact h2 _ _ ih h
theorem come_lt {N : Nat → Nat → Bool} {A : Nat → Bool} {n : Nat} (hA : ∀ j, A j = true → j < n) (hN : ∀ k j, N k j = true → j < n) {j : Nat} (h : Come N A j) : j < n := by
  cases h with
  | start h => exact hA _ h
  | step _ h => exact hN _ _ h
/-- How many. -/
def card (n : Nat) (M : Nat → Bool) : Nat := (List.range n).countP M
theorem card_le {n : Nat} {M : Nat → Bool} : card n M ≤ n := by
  have := List.countP_le_length (p := M) (l := List.range n)
  simpa [card] using this
theorem card_add {M : Nat → Bool} {i : Nat} (hM : M i = false) : ∀ {n : Nat}, i < n → card n (fun j => M j || (j == i)) = card n M + 1 := by
  intro n
  induction n with
  | zero => intro h; omega
  | succ n ih =>
    intro h
    unfold card at *
    rw [List.range_succ, List.countP_append, List.countP_append]
    by_cases hi : i = n
    · subst hi
      have e : (List.range i).countP (fun j => M j || (j == i)) = (List.range i).countP M := List.countP_congr fun j hj => by
        have := List.mem_range.1 hj
        have : (j == i) = false := by simp; omega
        rw [this, Bool.or_false]
      rw [e]
      simp [hM]
    · rw [ih (by omega)]
      have : (n == i) = false := by simp; omega
      simp [this]
      omega
theorem listOf_length {n : Nat} {M : Nat → Bool} : (listOf n M).length = card n M := by
  unfold listOf card
  rw [List.length_map, List.countP_eq_length_filter]
end Go.Ev
end

section
set_option linter.unusedSectionVars false
set_option linter.unusedVariables false
set_option linter.unusedSimpArgs false
/- To which instructions one comes. -/
set_option linter.unusedVariables false
open Go
namespace Go.Ev
/-- Does one come from i to j? -/
noncomputable def fromB (t : List (El T_api_Ins)) (i : Int) (j : Nat) : Bool := comeB (fun k j => nextB t (k : Int) j) (nextB t i) j
theorem fromB_lt {t : List (El T_api_Ins)} {i : Int} {j : Nat} (h : fromB t i j = true) : j < t.length := come_lt (fun j => nextB_lt) (fun k j => nextB_lt) (comeB_iff.1 h)
end Go.Ev
end

section
set_option linter.unusedSectionVars false
set_option linter.unusedVariables false
set_option linter.unusedSimpArgs false
/- Where one comes to, by rounds: for reckoning. -/
set_option linter.unusedVariables false
open Go
namespace Go.Ev
def roundL (N : Nat → Nat → Bool) (n : Nat) (r : List Bool) : List Bool := (List.range n).map fun j => r.getD j false || (List.range n).any fun k => r.getD k false && N k j
def iterL (N : Nat → Nat → Bool) (n : Nat) : Nat → List Bool → List Bool
  | 0, r => r
  | m + 1, r => iterL N n m (roundL N n r)
def comeL (N : Nat → Nat → Bool) (A : Nat → Bool) (n : Nat) : List Bool := iterL N n n ((List.range n).map A)
theorem row_getD {n : Nat} {M : Nat → Bool} {j : Nat} : ((List.range n).map M).getD j false = (decide (j < n) && M j) := by
  rw [List.getD_eq_getElem?_getD, List.getElem?_map]
  by_cases h : j < n
  · rw [List.getElem?_range h, decide_eq_true h]; rfl
  · rw [List.getElem?_eq_none (by simpa using h), decide_eq_false h]; rfl
theorem roundL_getD {N : Nat → Nat → Bool} {n : Nat} {r : List Bool} {j : Nat} : (roundL N n r).getD j false = true ↔ j < n ∧ (r.getD j false = true ∨ ∃ k, k < n ∧ r.getD k false = true ∧ N k j = true) := by
  unfold roundL
  rw [row_getD]
  simp only [Bool.and_eq_true, decide_eq_true_eq, Bool.or_eq_true, List.any_eq_true, List.mem_range]
theorem iter_sound {N : Nat → Nat → Bool} {A : Nat → Bool} {n : Nat} : ∀ (m : Nat) (r : List Bool), (∀ j, r.getD j false = true → Come N A j) → ∀ j, (iterL N n m r).getD j false = true → Come N A j
  | 0, r, h, j, hj => h j hj
  | m + 1, r, h, j, hj => iter_sound m _ (fun j hj => by
      obtain ⟨_, h1 | ⟨k, _, hk, hN⟩⟩ := roundL_getD.1 hj
      · exact h j h1
      · exact .step (h k hk) hN) j hj
def cnt (n : Nat) (r : List Bool) : Nat := card n fun j => r.getD j false
theorem card_mono {n : Nat} {M M' : Nat → Bool} (h : ∀ j, M j = true → M' j = true) : card n M ≤ card n M' := List.countP_mono_left fun j _ hj => h j hj
theorem card_lt {n : Nat} {M M' : Nat → Bool} (h : ∀ j, M j = true → M' j = true) {i : Nat} (hi : i < n) (h1 : M i = false) (h2 : M' i = true) : card n M + 1 ≤ card n M' := by
  rw [← card_add h1 hi]
  refine card_mono fun j hj => ?_
  rw [Bool.or_eq_true] at hj
  rcases hj with hj | hj
  · exact h j hj
  · rw [beq_iff_eq] at hj; subst hj; exact h2
theorem card_full {n : Nat} {M : Nat → Bool} (h : n ≤ card n M) : ∀ j, j < n → M j = true := by
  intro j hj
  cases hM : M j with
  | true => rfl
  | false =>
    have h1 := card_add hM hj
    have := @card_le n (fun k => M k || (k == j))
    omega
def closedL (N : Nat → Nat → Bool) (n : Nat) (r : List Bool) : Prop := ∀ k j, k < n → j < n → r.getD k false = true → N k j = true → r.getD j false = true
theorem iter_closed {N : Nat → Nat → Bool} {n : Nat} : ∀ (m : Nat) (r : List Bool), closedL N n r ∨ n ≤ cnt n r + m → (closedL N n (iterL N n m r)) ∧ ∀ j, j < n → r.getD j false = true → (iterL N n m r).getD j false = true
  | 0, r, h => by
    refine ⟨?_, fun j _ h => h⟩
    rcases h with h | h
    · exact h
    · exact fun k j _ hj _ _ => card_full (M := fun j => r.getD j false) (by simpa [cnt] using h) j hj
  | m + 1, r, h => by
    have keep : ∀ j, j < n → r.getD j false = true → (roundL N n r).getD j false = true := fun j hj h => roundL_getD.2 ⟨hj, .inl h⟩
    have hrec := iter_closed m (roundL N n r) (by
      rcases h with h | h
      · left
        intro k j hk hj h1 h2
        refine keep j hj ?_
        obtain ⟨_, h3 | ⟨q, hq, h3, h4⟩⟩ := roundL_getD.1 h1
        · exact h k j hk hj h3 h2
        · exact h k j hk hj (h q k hq hk h3 h4) h2
      · by_cases hc : closedL N n (roundL N n r)
        · exact .inl hc
        · right
          -- something is new
          have hnc : ¬ closedL N n r := fun hc' => hc (by
            intro k j hk hj h1 h2
            refine keep j hj ?_
            obtain ⟨_, h3 | ⟨q, hq, h3, h4⟩⟩ := roundL_getD.1 h1
            · exact hc' k j hk hj h3 h2
            · exact hc' k j hk hj (hc' q k hq hk h3 h4) h2)
          have ⟨k, j, hk, hj, h1, h2, h3⟩ : ∃ k j, k < n ∧ j < n ∧ r.getD k false = true ∧ N k j = true ∧ r.getD j false = false := by
            refine Classical.byContradiction fun hn => hnc fun k j hk hj h1 h2 => ?_
            cases hb : r.getD j false with
            | true => rfl
            | false => exact absurd ⟨k, j, hk, hj, h1, h2, hb⟩ hn
          have hlt : card n (fun j => decide (j < n) && r.getD j false) + 1 ≤ cnt n (roundL N n r) := card_lt (M' := fun j => (roundL N n r).getD j false) (fun j hj' => by
            rw [Bool.and_eq_true, decide_eq_true_eq] at hj'
            exact keep j hj'.1 hj'.2) hj (by rw [h3, Bool.and_false]) (roundL_getD.2 ⟨hj, .inr ⟨k, hk, h1, h2⟩⟩)
          have he : card n (fun j => decide (j < n) && r.getD j false) = cnt n r := List.countP_congr fun j hj => by
            have := List.mem_range.1 hj
            simp [this]
          omega)
    exact ⟨hrec.1, fun j hj h1 => hrec.2 j hj (keep j hj h1)⟩
theorem comeL_eq {N : Nat → Nat → Bool} {A : Nat → Bool} {n : Nat} (hA : ∀ j, A j = true → j < n) (hN : ∀ k j, N k j = true → j < n) (j : Nat) : comeB N A j = (comeL N A n).getD j false := by
  obtain ⟨hc, hk⟩ := iter_closed (N := N) (n := n) n ((List.range n).map A) (.inr (Nat.le_add_left _ _))
  have hlt : ∀ m r j, r.length ≤ n → (iterL N n m r).getD j false = true → j < n := by
    intro m
    induction m with
    | zero =>
      intro r j hr h
      have h : r.getD j false = true := h
      rw [List.getD_eq_getElem?_getD] at h
      by_cases hj : j < r.length
      · omega
      · rw [List.getElem?_eq_none (by omega)] at h; cases h
    | succ m ih => intro r j _ h; exact ih _ j (by simp [roundL]) h
  symm
  refine comeB_eq (M := fun j => (comeL N A n).getD j false) (fun j hj => hk j (hA j hj) ?_) (fun k j h1 h2 => ?_) (fun j hj => ?_) j
  · rw [row_getD, decide_eq_true (hA j hj), hj]; rfl
  · exact hc k j (hlt n _ k (by simp) h1) (hN k j h2) h1 h2
  · exact iter_sound n _ (fun j hj => by
      rw [row_getD, Bool.and_eq_true] at hj
      exact .start hj.2) j hj
end Go.Ev
end

section
set_option linter.unusedSectionVars false
set_option linter.unusedVariables false
set_option linter.unusedSimpArgs false
/- Which accesses clash, and over which chains one comes back. -/
set_option maxRecDepth 100000
set_option linter.unusedVariables false
set_option linter.unusedSimpArgs false
open Go
namespace Go.Ev
abbrev Acc := El T_api_Access
def accA (l : List Acc) (i : Nat) : Acc := l.getD i (dflt T_api_Access)
def thA (l : List Acc) (i : Nat) : Int := (accA l i).1
def inA (l : List Acc) (i : Nat) : Int := (accA l i).2.1
def paA (l : List Acc) (i : Nat) : Int := (accA l i).2.2.1
def clB (l : List Acc) (i j : Nat) : Bool := v_clash_clash (accA l i) (accA l j)
/-- The thread of an access. -/
def thrOf (p : El T_api_Prog) (l : List Acc) (c : Nat) : List (El T_api_Ins) := p.2.getD (thA l c).toNat (dflt (.sl T_api_Ins))
/-- Does access d follow c, or is it c? -/
noncomputable def behB (p : El T_api_Prog) (l : List Acc) (c d : Nat) : Bool :=
  decide (d < l.length) && (thA l d == thA l c && (d == c || ((inA l d == inA l c && decide (paA l d > paA l c)) || (decide (0 ≤ inA l d) && fromB (thrOf p l c) (inA l c) (inA l d).toNat))))
theorem behB_lt {p : El T_api_Prog} {l : List Acc} {c d : Nat} (h : behB p l c d = true) : d < l.length ∧ thA l d = thA l c := by
  unfold behB at h
  simp only [Bool.and_eq_true, decide_eq_true_eq, beq_iff_eq] at h
  exact ⟨h.1, h.2.1⟩
theorem behB_self {p : El T_api_Prog} {l : List Acc} {c : Nat} (h : c < l.length) : behB p l c c = true := by
  unfold behB
  simp [h]
theorem from_trans {t : List (El T_api_Ins)} {i : Int} {j k : Nat} (h1 : fromB t i j = true) (h2 : fromB t (j : Int) k = true) : fromB t i k = true := by
  unfold fromB at *
  rw [comeB_iff] at *
  induction h2 with
  | start h => exact .step h1 h
  | step _ h ih => exact .step ih h
theorem behB_trans {p : El T_api_Prog} {l : List Acc} {c d e : Nat} (h1 : behB p l c d = true) (h2 : behB p l d e = true) : behB p l c e = true := by
  unfold behB at *
  have ht : thrOf p l d = thrOf p l c := by
    simp only [Bool.and_eq_true, beq_iff_eq] at h1
    unfold thrOf
    rw [h1.2.1]
  rw [ht] at h2
  simp only [Bool.and_eq_true, Bool.or_eq_true, decide_eq_true_eq, beq_iff_eq] at *
  obtain ⟨a1, a2, a3⟩ := h1
  obtain ⟨b1, b2, b3⟩ := h2
  refine ⟨b1, b2.trans a2, ?_⟩
  rcases a3 with rfl | a3
  · exact b3
  rcases b3 with rfl | b3
  · exact .inr a3
  right
  rcases a3 with ⟨a3, a4⟩ | ⟨a3, a4⟩
  · rcases b3 with ⟨b3, b4⟩ | ⟨b3, b4⟩
    · exact .inl ⟨b3.trans a3, by omega⟩
    · right
      rw [a3] at b4
      exact ⟨b3, b4⟩
  · right
    rcases b3 with ⟨b3, b4⟩ | ⟨b3, b4⟩
    · rw [b3]
      exact ⟨a3, a4⟩
    · refine ⟨b3, from_trans a4 ?_⟩
      rw [Int.toNat_of_nonneg a3]
      exact b4
/-- Chains: to which accesses of other threads one comes from a. -/
noncomputable def chB (p : El T_api_Prog) (l : List Acc) (a i k : Nat) : Bool := decide (k < l.length) && (!(thA l k == thA l a) && (clB l i k || behB p l i k))
def chS (l : List Acc) (a k : Nat) : Bool := decide (k < l.length) && clB l a k
noncomputable def isB (p : El T_api_Prog) (l : List Acc) (a k : Nat) : Bool := comeB (chB p l a) (chS l a) k
noncomputable def backB (p : El T_api_Prog) (l : List Acc) (a b : Nat) : Bool := thA l b == thA l a && (List.range l.length).any fun k => isB p l a k && clB l k b
theorem clB_th {l : List Acc} {i j : Nat} (h : clB l i j = true) : thA l i ≠ thA l j := by
  intro e
  unfold clB v_clash_clash at h
  have : ((accA l i).1 != (accA l j).1) = false := by
    show ((thA l i) != (thA l j)) = false
    rw [e]; simp
  rw [this] at h
  cases h
theorem is_lt {p : El T_api_Prog} {l : List Acc} {a k : Nat} (h : isB p l a k = true) : k < l.length ∧ thA l k ≠ thA l a := by
  have h := comeB_iff.1 h
  cases h with
  | start h =>
    unfold chS at h
    simp only [Bool.and_eq_true, decide_eq_true_eq] at h
    exact ⟨h.1, fun e => clB_th h.2 e.symm⟩
  | step _ h =>
    unfold chB at h
    simp only [Bool.and_eq_true, decide_eq_true_eq, Bool.not_eq_true', beq_eq_false_iff_ne] at h
    exact ⟨h.1, h.2.1⟩
/-- What is gone to, and come to, is what the chains come to. -/
theorem gone_is {p : El T_api_Prog} {l : List Acc} {a : Nat} {C G : Nat → Bool} (hC : ∀ c, C c = true ↔ c < l.length ∧ thA l c ≠ thA l a ∧ (clB l a c = true ∨ ∃ k, G k = true ∧ clB l k c = true)) (hG : ∀ d, G d = true ↔ ∃ c, C c = true ∧ behB p l c d = true)
    (hs : ∀ d, G d = true → isB p l a d = true) (d : Nat) : G d = isB p l a d := by
  refine comeB_eq (fun j hj => ?_) (fun k j hk hj => ?_) (fun j hj => comeB_iff.1 (hs j hj)) d
  · unfold chS at hj
    simp only [Bool.and_eq_true, decide_eq_true_eq] at hj
    exact (hG j).2 ⟨j, (hC j).2 ⟨hj.1, fun e => clB_th hj.2 e.symm, .inl hj.2⟩, behB_self hj.1⟩
  · unfold chB at hj
    simp only [Bool.and_eq_true, decide_eq_true_eq, Bool.not_eq_true', beq_eq_false_iff_ne, Bool.or_eq_true] at hj
    obtain ⟨h1, h2, h3⟩ := hj
    rcases h3 with h3 | h3
    · exact (hG j).2 ⟨j, (hC j).2 ⟨h1, h2, .inr ⟨k, hk, h3⟩⟩, behB_self h1⟩
    · obtain ⟨c, hc, hb⟩ := (hG k).1 hk
      exact (hG j).2 ⟨c, hc, behB_trans hb h3⟩
variable {s : Int × List (Int × Int)} {n : Nat} {M : Nat → Bool}
theorem SetOK.putO (h : SetOK s n M) (hn : n < 4611686018427387904) {j : Nat} (hj : j < n) : (putS s (j : Int)).1 = (!M j) ∧ SetOK (putS s (j : Int)).2 n (fun k => M k || (k == j)) := by
  cases hb : M j with
  | false =>
    obtain ⟨p1, p2⟩ := h.put hn hj hb
    exact ⟨p1, p2⟩
  | true =>
    rw [h.put_no hn (i := (j : Int)) fun hh => by rw [Int.toNat_natCast, hb] at hh; cases hh.2.2]
    refine ⟨rfl, ?_⟩
    rw [show (fun k => M k || (k == j)) = M from funext fun k => by
      by_cases hk : k = j
      · subst hk; rw [hb]; rfl
      · have : (k == j) = false := by simp; omega
        rw [this, Bool.or_false]]
    exact h
theorem SetOK.congr' {M' : Nat → Bool} (h : SetOK s n M) (e : ∀ j, M j = M' j) : SetOK s n M' := by rwa [show M' = M from funext fun j => (e j).symm]
/-- The rest of a list of what is so. -/
def listR (n : Nat) (M : Nat → Bool) (h : Nat) : List Int := ((List.range' h (n - h)).filter M).map Int.ofNat
theorem listR_zero : listR n M 0 = listOf n M := by unfold listR listOf; rw [List.range_eq_range', Nat.sub_zero]
theorem listR_end : listR n M n = [] := by unfold listR; rw [Nat.sub_self]; rfl
theorem listR_step {h : Nat} (hh : h < n) : listR n M h = if M h = true then (h : Int) :: listR n M (h + 1) else listR n M (h + 1) := by
  unfold listR
  rw [show n - h = (n - (h + 1)) + 1 by omega, List.range'_succ, List.filter_cons]
  split <;> rfl
end Go.Ev
end

section
set_option linter.unusedSectionVars false
set_option linter.unusedVariables false
set_option linter.unusedSimpArgs false
set_option maxRecDepth 100000
set_option linter.unusedVariables false
set_option linter.unusedSimpArgs false
open Go
namespace Go.Ev
/-- The pairs of which the first is i. -/
def pairI (l : List Acc) (i : Nat) : List (Int × Int) := ((List.range' (i + 1) (l.length - (i + 1))).filter fun k => clB l i k).map fun k : Nat => ((i : Int), (k : Int))
def pairsFrom (l : List Acc) (i : Nat) : List (Int × Int) := (List.range' i (l.length - i)).flatMap (pairI l)
def v_clash_Pairs (p : El T_api_Prog) : List (El T_opnd_AtPart) := pairsFrom (ofC p) 0
def k_clash_Pairs (p : El T_api_Prog) : Bool := smallAll p && decide ((ofC p).length < 1000000)
theorem pairI_len (l : List Acc) (i : Nat) : (pairI l i).length ≤ l.length := by
  unfold pairI
  rw [List.length_map]
  have := List.length_filter_le (fun k => clB l i k) (List.range' (i + 1) (l.length - (i + 1)))
  rw [List.length_range'] at this
  omega
theorem g_clash_Pairs (p : El T_api_Prog) (hk : k_clash_Pairs p = true) : Goes (T_clash_Pairs p) (T0_clash_Pairs p) (v_clash_Pairs p) := by
  unfold k_clash_Pairs at hk
  rw [Bool.and_eq_true] at hk
  obtain ⟨hs, hN⟩ := hk
  have hN := of_decide_eq_true hN
  have kt : k_touch_Of p = true := hs
  have vt : v_touch_Of p = ofC p := rfl
  obtain ⟨l, hl⟩ : ∃ l, ofC p = l := ⟨_, rfl⟩
  rw [hl] at hN vt
  have outer : ∀ i, i ≤ l.length → ∀ out : List (Int × Int), out.length ≤ i * l.length → Goes (T_clash_Pairs p) (.jmp (.l5 (i : Int) out)) (out ++ pairsFrom l i) := by
    refine down ?_ fun i hi ih => ?_
    · intro out ho
      rw [goes_jmp, T_clash_Pairs, vt, goes_br, if_neg (by rw [lt_len_not (Nat.lt_irrefl _)]; decide)]
      unfold pairsFrom
      rw [Nat.sub_self]
      simp only [List.range'_zero, List.flatMap_nil, List.append_nil]
      exact .leaf
    · intro out ho
      have inner : ∀ k, k ≤ l.length → i + 1 ≤ k → ∀ o2 : List (Int × Int), o2.length ≤ i * l.length + (k - (i + 1)) → o2 ++ ((List.range' k (l.length - k)).filter fun k => clB l i k).map (fun k : Nat => ((i : Int), (k : Int))) = out ++ pairI l i →
          Goes (T_clash_Pairs p) (.jmp (.l11 (k : Int) o2 (i : Int) (i : Int))) (out ++ pairsFrom l i) := by
        refine down ?_ fun k hk ih2 => ?_
        · intro _ o2 ho2 he
          rw [goes_jmp, T_clash_Pairs, vt, goes_br, if_neg (by rw [lt_len_not (Nat.lt_irrefl _)]; decide), wrap_succ (by omega)]
          rw [Nat.sub_self] at he
          simp only [List.range'_zero, List.filter_nil, List.map_nil, List.append_nil] at he
          rw [he]
          have := ih (out ++ pairI l i) (by
            rw [List.length_append]
            have := pairI_len l i
            rw [Nat.add_mul]; omega)
          have e : pairsFrom l i = pairI l i ++ pairsFrom l (i + 1) := by
            unfold pairsFrom
            rw [show l.length - i = (l.length - (i + 1)) + 1 by omega, List.range'_succ, List.flatMap_cons]
          rw [e, ← List.append_assoc]
          exact this
        · intro hik o2 ho2 he
          have hprod : i * l.length ≤ 1000000 * 1000000 := Nat.mul_le_mul (by omega) (by omega)
          have b1 : Nat.ble ((o2.length + 1) * 16) limit = true := Nat.ble_eq_true_of_le (by unfold limit; omega)
          have ec : v_clash_clash (List.getD l i (dflt T_api_Access)) (List.getD l k (dflt T_api_Access)) = clB l i k := rfl
          rw [show l.length - k = (l.length - (k + 1)) + 1 by omega, List.range'_succ, List.filter_cons] at he
          rw [goes_jmp, T_clash_Pairs, vt]
          simp only [goes_br, lt_len hk, lt_len hi, nng, Bool.and_self, if_true, Int.toNat_natCast, ec, b1, wrap_succ (k := k) (by omega)]
          by_cases c : clB l i k = true
          · rw [if_pos c]
            rw [if_pos c] at he
            exact ih2 (by omega) _ (by simp; omega) (by rw [List.append_assoc]; exact he)
          · rw [if_neg c]
            rw [if_neg c] at he
            exact ih2 (by omega) _ (by omega) he
      rw [goes_jmp, T_clash_Pairs, vt, goes_br, if_pos (lt_len hi), wrap_succ (by omega)]
      exact inner (i + 1) (by omega) (Nat.le_refl _) out (by omega) rfl
  have := outer 0 (Nat.zero_le _) [] (Nat.zero_le _)
  unfold T0_clash_Pairs v_clash_Pairs
  rw [goes_br, if_pos kt, hl]
  exact this
end Go.Ev
end

section
set_option linter.unusedSectionVars false
set_option linter.unusedVariables false
set_option linter.unusedSimpArgs false
set_option maxRecDepth 100000
set_option linter.unusedVariables false
open Go Go.Ev
namespace Go.Ev
noncomputable section
noncomputable def e_clash_Pairs : Run := entG sg_clash_Pairs R_clash_Pairs (fun a => k_clash_Pairs a.1) (fun a => v_clash_Pairs a.1)
theorem ok_clash_Pairs : EntOK Go.Proofs.Tryz.prog 13 e_clash_Pairs := entG_ok (tb := tb_clash_Pairs) (c := c_clash_Pairs) tk_clash_Pairs (by kernel_rfl) (by kernel_rfl) (by kernel_rfl) (fun a => by kernel_rfl) fun ⟨p, _⟩ hk => evF_goes (c := c_clash_Pairs) (K := fun v => (R_clash_Pairs v, tps (toForms sg_clash_Pairs (p, ())))) (S := S_clash_Pairs p) (by kernel_rfl) (en_clash_Pairs p) (lp_clash_Pairs p) (g_clash_Pairs p hk)
end
end Go.Ev
end

section
set_option linter.unusedSectionVars false
set_option linter.unusedVariables false
set_option linter.unusedSimpArgs false
set_option maxRecDepth 100000
set_option linter.unusedVariables false
open Go Go.Ev
namespace Go.Ev
noncomputable section
/-! ### paling/palingbook.SameTwos -/
def sg_book_SameTwos : Sig := [(false, (.sl T_opnd_AtPart)), (false, (.sl T_opnd_AtPart))]
noncomputable def t_book_SameTwos : Tbl := []
theorem tk_book_SameTwos : ∀ p ∈ t_book_SameTwos, EntOK Go.Proofs.Tryz.prog p.1 p.2 := tbl_nil
noncomputable def c_book_SameTwos : Code := Go.Proofs.Tryz.f12.body.getD .skip
def tb_book_SameTwos : Tb := [(6, ⟨[0, 1, 5], []⟩)]
inductive J_book_SameTwos where
  | l6 (i : Int)
def T_book_SameTwos (a : List (El T_opnd_AtPart)) (b : List (El T_opnd_AtPart)) : J_book_SameTwos → JT J_book_SameTwos (Bool)
  | .l6 i =>
    .br (decide (i < (Int.ofNat (List.length a))))
      (.br ((decide ((0 : Int) ≤ i)) && (decide (i < (Int.ofNat (List.length a)))))
        (.br ((decide ((0 : Int) ≤ i)) && (decide (i < (Int.ofNat (List.length b)))))
          (.br (! (((List.getD a (Int.toNat i) (dflt T_opnd_AtPart)).1 == (List.getD b (Int.toNat i) (dflt T_opnd_AtPart)).1) && ((List.getD a (Int.toNat i) (dflt T_opnd_AtPart)).2 == (List.getD b (Int.toNat i) (dflt T_opnd_AtPart)).2)))
            (.leaf false)
          (.jmp (.l6 (IntKind.i64.wrap (i + (1 : Int))))))
        (.no))
      (.no))
    (.leaf true)
def T0_book_SameTwos (a : List (El T_opnd_AtPart)) (b : List (El T_opnd_AtPart)) : JT J_book_SameTwos (Bool) :=
  .br ((Int.ofNat (List.length a)) != (Int.ofNat (List.length b)))
    (.leaf false)
  (.jmp (.l6 (0 : Int)))
def R_book_SameTwos : Bool → AV := fun (r : Bool) => .d .bool r
def S_book_SameTwos (a : List (El T_opnd_AtPart)) (b : List (El T_opnd_AtPart)) : J_book_SameTwos → Nat × St
  | .l6 i => (6, ⟨mkTm 26 [(0, .d (.sl T_opnd_AtPart) a), (1, .d (.sl T_opnd_AtPart) b), (5, .d (.int .i64) i)], []⟩)
theorem en_book_SameTwos (a : List (El T_opnd_AtPart)) (b : List (El T_opnd_AtPart)) (L : Lt) : entryA Go.Proofs.Tryz.prog (clOf t_book_SameTwos) tb_book_SameTwos Go.Proofs.Tryz.f12 c_book_SameTwos L (toForms sg_book_SameTwos (a, b, ())) = (T0_book_SameTwos a b).run (fun v => some (R_book_SameTwos v, tps (toForms sg_book_SameTwos (a, b, ())))) fun j => L (S_book_SameTwos a b j).1 (S_book_SameTwos a b j).2 := by kernel_rfl
theorem lp_book_SameTwos (a : List (El T_opnd_AtPart)) (b : List (El T_opnd_AtPart)) : ∀ (L : Lt) (j : J_book_SameTwos), procOf (procsF Go.Proofs.Tryz.prog (clOf t_book_SameTwos) tb_book_SameTwos Go.Proofs.Tryz.f12 c_book_SameTwos (toForms sg_book_SameTwos (a, b, ()))) (S_book_SameTwos a b j).1 L (S_book_SameTwos a b j).2 = (T_book_SameTwos a b j).run (fun v => some (R_book_SameTwos v, tps (toForms sg_book_SameTwos (a, b, ())))) fun j => L (S_book_SameTwos a b j).1 (S_book_SameTwos a b j).2
  | L, .l6 i => by kernel_rfl
end
end Go.Ev
end

section
set_option linter.unusedSectionVars false
set_option linter.unusedVariables false
set_option linter.unusedSimpArgs false
set_option linter.unusedVariables false
set_option linter.unusedSimpArgs false
open Go
namespace Go.Ev
theorem twoB_eq {a b : El T_opnd_AtPart} : (a.1 == b.1 && a.2 == b.2) = decide (a = b) := by
  obtain ⟨a1, a2⟩ := a
  obtain ⟨b1, b2⟩ := b
  rw [Bool.eq_iff_iff]
  simp

def v_book_SameTwos (a b : List (El T_opnd_AtPart)) : Bool := decide (a = b)
def k_book_SameTwos (a b : List (El T_opnd_AtPart)) : Bool := decide (a.length < 4611686018427387904)
theorem g_book_SameTwos (a b : List (El T_opnd_AtPart)) (hk : k_book_SameTwos a b = true) : Goes (T_book_SameTwos a b) (T0_book_SameTwos a b) (v_book_SameTwos a b) := by
  have hn : a.length < 4611686018427387904 := of_decide_eq_true hk
  have loop : a.length = b.length → ∀ k, k ≤ a.length → Goes (T_book_SameTwos a b) (.jmp (.l6 (k : Int))) (decide (a.drop k = b.drop k)) := by
    intro he
    refine down ?_ fun k hk ih => ?_
    · rw [goes_jmp]
      simp [T_book_SameTwos, goes_br, goes_leaf, he]
    · rw [goes_jmp]
      have hkb : k < b.length := he ▸ hk
      simp only [T_book_SameTwos, goes_br, lt_len hk, lt_len hkb, nng, Bool.and_self, if_true, Int.toNat_natCast, getD_lt hk, getD_lt hkb, wrap_succ (k := k) (by omega)]
      rw [drop_cons hk, drop_cons hkb]
      split
      · rename_i h1
        have h2 : (! decide (a[k] = b[k])) = true := (congrArg Bool.not twoB_eq).symm.trans h1
        have h3 : ¬ a[k] = b[k] := by simpa using h2
        rw [decide_eq_false (fun e => h3 (List.cons.inj e).1)]
        exact .leaf
      · rename_i h1
        have h2 : ¬ (! decide (a[k] = b[k])) = true := fun h => h1 ((congrArg Bool.not twoB_eq).trans h)
        have h3 : a[k] = b[k] := by simpa using h2
        rw [show decide (a[k] :: List.drop (k + 1) a = b[k] :: List.drop (k + 1) b) = decide (List.drop (k + 1) a = List.drop (k + 1) b) from decide_eq_decide.2 ⟨fun e => (List.cons.inj e).2, fun e => by rw [h3, e]⟩]
        exact ih
  unfold T0_book_SameTwos v_book_SameTwos
  rw [goes_br]
  by_cases h : a.length = b.length
  · have := loop h 0 (Nat.zero_le _)
    simpa [h] using this
  · have : a ≠ b := fun e => h (congrArg _ e)
    rw [if_pos (by simp; omega), decide_eq_false this]
    exact .leaf

end Go.Ev
end

section
set_option linter.unusedSectionVars false
set_option linter.unusedVariables false
set_option linter.unusedSimpArgs false
set_option maxRecDepth 100000
set_option linter.unusedVariables false
open Go Go.Ev
namespace Go.Ev
noncomputable section
noncomputable def e_book_SameTwos : Run := entG sg_book_SameTwos R_book_SameTwos (fun a => k_book_SameTwos a.1 a.2.1) (fun a => v_book_SameTwos a.1 a.2.1)
theorem ok_book_SameTwos : EntOK Go.Proofs.Tryz.prog 12 e_book_SameTwos := entG_ok (tb := tb_book_SameTwos) (c := c_book_SameTwos) tk_book_SameTwos (by kernel_rfl) (by kernel_rfl) (by kernel_rfl) (fun a => by kernel_rfl) fun ⟨a, b, _⟩ hk => evF_goes (c := c_book_SameTwos) (K := fun v => (R_book_SameTwos v, tps (toForms sg_book_SameTwos (a, b, ())))) (S := S_book_SameTwos a b) (by kernel_rfl) (en_book_SameTwos a b) (lp_book_SameTwos a b) (g_book_SameTwos a b hk)
end
end Go.Ev
end

section
set_option linter.unusedSectionVars false
set_option linter.unusedVariables false
set_option linter.unusedSimpArgs false
set_option maxRecDepth 100000
set_option linter.unusedVariables false
open Go Go.Ev
namespace Go.Ev
noncomputable section
/-! ### paling/bits.New -/
def sg_bits_New : Sig := [(false, (.int .i64))]
noncomputable def t_bits_New : Tbl := []
theorem tk_bits_New : ∀ p ∈ t_bits_New, EntOK Go.Proofs.Tryz.prog p.1 p.2 := tbl_nil
noncomputable def c_bits_New : Code := Go.Proofs.Tryz.f42.body.getD .skip
def tb_bits_New : Tb := []
def T_bits_New (n : Int) : Empty → JT Empty (Int × List (Int × Int)) := fun j => nomatch j
def T0_bits_New (n : Int) : JT Empty (Int × List (Int × Int)) :=
  .leaf ((maxI n (0 : Int)), [])
def v_bits_New (n : Int) : Int × List (Int × Int) :=
  ((maxI n (0 : Int)), [])
theorem g_bits_New (n : Int) : Goes (T_bits_New n) (T0_bits_New n) (v_bits_New n) :=
  Goes.leaf
def R_bits_New : Int × List (Int × Int) → AV := fun (r : Int × List (Int × Int)) => .bx 102 [.d (.int .i64) r.1, .mv (.int .i64) (.int .u64) r.2]
def S_bits_New (n : Int) : Empty → Nat × St := fun j => nomatch j
theorem en_bits_New (n : Int) (L : Lt) : entryA Go.Proofs.Tryz.prog (clOf t_bits_New) tb_bits_New Go.Proofs.Tryz.f42 c_bits_New L (toForms sg_bits_New (n, ())) = (T0_bits_New n).run (fun v => some (R_bits_New v, tps (toForms sg_bits_New (n, ())))) fun j => L (S_bits_New n j).1 (S_bits_New n j).2 := by kernel_rfl
theorem lp_bits_New (n : Int) : ∀ (L : Lt) (j : Empty), procOf (procsF Go.Proofs.Tryz.prog (clOf t_bits_New) tb_bits_New Go.Proofs.Tryz.f42 c_bits_New (toForms sg_bits_New (n, ()))) (S_bits_New n j).1 L (S_bits_New n j).2 = (T_bits_New n j).run (fun v => some (R_bits_New v, tps (toForms sg_bits_New (n, ())))) fun j => L (S_bits_New n j).1 (S_bits_New n j).2 := fun L j => nomatch j
noncomputable def e_bits_New : Run := entT sg_bits_New R_bits_New (fun a => v_bits_New a.1)
theorem ok_bits_New : EntOK Go.Proofs.Tryz.prog 42 e_bits_New := entT_ok (tb := tb_bits_New) (c := c_bits_New) tk_bits_New (by kernel_rfl) (by kernel_rfl) (by kernel_rfl) (fun a => by kernel_rfl) fun ⟨n, _⟩ => evF_goes (c := c_bits_New) (K := fun v => (R_bits_New v, tps (toForms sg_bits_New (n, ())))) (S := S_bits_New n) (by kernel_rfl) (en_bits_New n) (lp_bits_New n) (g_bits_New n)
end
end Go.Ev
end

section
set_option linter.unusedSectionVars false
set_option linter.unusedVariables false
set_option linter.unusedSimpArgs false
set_option maxRecDepth 100000
set_option linter.unusedVariables false
open Go Go.Ev
namespace Go.Ev
noncomputable section
/-! ### (*paling/bits.Set).Size -/
noncomputable def t_bits_Set_Size : Tbl := []
theorem tk_bits_Set_Size : ∀ p ∈ t_bits_Set_Size, EntOK Go.Proofs.Tryz.prog p.1 p.2 := tbl_nil
noncomputable def c_bits_Set_Size : Code := Go.Proofs.Tryz.f70.body.getD .skip
noncomputable def e_bits_Set_Size : Run := entE Go.Proofs.Tryz.prog t_bits_Set_Size Go.Proofs.Tryz.f70 c_bits_Set_Size
theorem ok_bits_Set_Size : EntOK Go.Proofs.Tryz.prog 70 e_bits_Set_Size := entE_ok tk_bits_Set_Size (by kernel_rfl) (by kernel_rfl) (by kernel_rfl) (fun xs => by kernel_rfl)
end
end Go.Ev
end

section
set_option linter.unusedSectionVars false
set_option linter.unusedVariables false
set_option linter.unusedSimpArgs false
set_option maxRecDepth 100000
set_option linter.unusedVariables false
open Go Go.Ev
namespace Go.Ev
noncomputable section
/-! ### (*paling/bits.Set).Has -/
def sg_bits_Set_Has : PSig := [.obj 102 [(.d (.int .i64)), (.m (.int .i64) (.int .u64))], .dat false (.int .i64)]
noncomputable def t_bits_Set_Has : Tbl := [(70, e_bits_Set_Size)]
theorem tk_bits_Set_Has : ∀ p ∈ t_bits_Set_Has, EntOK Go.Proofs.Tryz.prog p.1 p.2 := tbl_cons ok_bits_Set_Size (tbl_nil)
noncomputable def c_bits_Set_Has : Code := Go.Proofs.Tryz.f52.body.getD .skip
def tb_bits_Set_Has : Tb := []
def T_bits_Set_Has (s : Int × List (Int × Int)) (i : Int) : Empty → JT Empty (Bool × Int × List (Int × Int)) := fun j => nomatch j
def T0_bits_Set_Has (s : Int × List (Int × Int)) (i : Int) : JT Empty (Bool × Int × List (Int × Int)) :=
  .br (decide (i ≥ (0 : Int)))
    (.br (decide (i < s.1))
      (.br (decide ((IntKind.u64.wrap (Int.tmod i (64 : Int))) < (0 : Int)))
        (.no)
      (.leaf (((bitAnd IntKind.u64 (Int.fdiv (Option.getD (mget (kt := (.int .i64)) (IntKind.i64.wrap (Int.tdiv i (64 : Int))) s.2) (0 : Int)) (2 ^ (min (Int.toNat (IntKind.u64.wrap (Int.tmod i (64 : Int)))) (IntKind.u64).bits))) (1 : Int)) == (1 : Int)), s)))
    (.leaf (false, s)))
  (.leaf (false, s))
def K_bits_Set_Has : Bool × Int × List (Int × Int) → Ans := fun (r : Bool × Int × List (Int × Int)) => (.d .bool r.1, [.bx 102 [.d (.int .i64) r.2.1, .mv (.int .i64) (.int .u64) r.2.2], .top])
def S_bits_Set_Has (s : Int × List (Int × Int)) (i : Int) : Empty → Nat × St := fun j => nomatch j
theorem en_bits_Set_Has (s : Int × List (Int × Int)) (i : Int) (L : Lt) : entryA Go.Proofs.Tryz.prog (clOf t_bits_Set_Has) tb_bits_Set_Has Go.Proofs.Tryz.f52 c_bits_Set_Has L (toPs sg_bits_Set_Has (s, i, ())) = (T0_bits_Set_Has s i).run (fun v => some (K_bits_Set_Has v)) fun j => L (S_bits_Set_Has s i j).1 (S_bits_Set_Has s i j).2 := by kernel_rfl
theorem lp_bits_Set_Has (s : Int × List (Int × Int)) (i : Int) : ∀ (L : Lt) (j : Empty), procOf (procsF Go.Proofs.Tryz.prog (clOf t_bits_Set_Has) tb_bits_Set_Has Go.Proofs.Tryz.f52 c_bits_Set_Has (toPs sg_bits_Set_Has (s, i, ()))) (S_bits_Set_Has s i j).1 L (S_bits_Set_Has s i j).2 = (T_bits_Set_Has s i j).run (fun v => some (K_bits_Set_Has v)) fun j => L (S_bits_Set_Has s i j).1 (S_bits_Set_Has s i j).2 := fun L j => nomatch j
end
end Go.Ev
end

section
set_option linter.unusedSectionVars false
set_option linter.unusedVariables false
set_option linter.unusedSimpArgs false
set_option linter.unusedVariables false
open Go
namespace Go.Ev
def v_bits_Set_Has (s : Int × List (Int × Int)) (i : Int) : Bool × Int × List (Int × Int) := (hasS s i, s)
theorem g_bits_Set_Has (s : Int × List (Int × Int)) (i : Int) : Goes (T_bits_Set_Has s i) (T0_bits_Set_Has s i) (v_bits_Set_Has s i) := by
  unfold T0_bits_Set_Has v_bits_Set_Has hasS
  rw [goes_br]
  by_cases h0 : i ≥ 0
  · rw [if_pos (decide_eq_true h0), goes_br, decide_eq_true h0, Bool.true_and]
    by_cases h1 : i < s.1
    · rw [if_pos (decide_eq_true h1), goes_br, if_neg (by rw [wrapU_nonneg]; decide), decide_eq_true h1, Bool.true_and]
      exact .leaf
    · rw [if_neg (by simpa using h1), decide_eq_false h1, Bool.false_and]
      exact .leaf
  · rw [if_neg (by simpa using h0), decide_eq_false h0, Bool.false_and]
    exact .leaf
end Go.Ev
end

section
set_option linter.unusedSectionVars false
set_option linter.unusedVariables false
set_option linter.unusedSimpArgs false
set_option maxRecDepth 100000
set_option linter.unusedVariables false
open Go Go.Ev
namespace Go.Ev
noncomputable section
noncomputable def e_bits_Set_Has : Run := entO sg_bits_Set_Has K_bits_Set_Has (fun a => true) (fun a => v_bits_Set_Has a.1 a.2.1)
theorem ok_bits_Set_Has : EntOK Go.Proofs.Tryz.prog 52 e_bits_Set_Has := entO_ok (tb := tb_bits_Set_Has) (c := c_bits_Set_Has) (noRun_ok (known_of (fn := Go.Proofs.Tryz.f52) (c := c_bits_Set_Has) (by kernel_rfl) (by kernel_rfl) (by kernel_rfl))) tk_bits_Set_Has (by kernel_rfl) (by kernel_rfl) (fun a => by kernel_rfl) fun ⟨s, i, _⟩ hk => evF_goes (c := c_bits_Set_Has) (K := K_bits_Set_Has) (S := S_bits_Set_Has s i) (by kernel_rfl) (en_bits_Set_Has s i) (lp_bits_Set_Has s i) (g_bits_Set_Has s i)
end
end Go.Ev
end

section
set_option linter.unusedSectionVars false
set_option linter.unusedVariables false
set_option linter.unusedSimpArgs false
set_option maxRecDepth 100000
set_option linter.unusedVariables false
open Go Go.Ev
namespace Go.Ev
noncomputable section
/-! ### (*paling/bits.Set).Put -/
def sg_bits_Set_Put : PSig := [.obj 102 [(.d (.int .i64)), (.m (.int .i64) (.int .u64))], .dat false (.int .i64)]
noncomputable def t_bits_Set_Put : Tbl := [(70, e_bits_Set_Size), (52, e_bits_Set_Has)]
theorem tk_bits_Set_Put : ∀ p ∈ t_bits_Set_Put, EntOK Go.Proofs.Tryz.prog p.1 p.2 := tbl_cons ok_bits_Set_Size (tbl_cons ok_bits_Set_Has (tbl_nil))
noncomputable def c_bits_Set_Put : Code := Go.Proofs.Tryz.f44.body.getD .skip
def tb_bits_Set_Put : Tb := []
def T_bits_Set_Put (s : Int × List (Int × Int)) (i : Int) : Empty → JT Empty (Bool × Int × List (Int × Int)) := fun j => nomatch j
def T0_bits_Set_Put (s : Int × List (Int × Int)) (i : Int) : JT Empty (Bool × Int × List (Int × Int)) :=
  .br (decide (i < (0 : Int)))
    (.leaf (false, s))
  (.br (decide (i ≥ s.1))
    (.leaf (false, s))
  (.br (v_bits_Set_Has s i).1
    (.leaf (false, (v_bits_Set_Has s i).2))
  (.br (decide ((IntKind.u64.wrap (Int.tmod i (64 : Int))) < (0 : Int)))
    (.no)
  (.leaf (true, ((v_bits_Set_Has s i).2.1, (mput (kt := (.int .i64)) (IntKind.i64.wrap (Int.tdiv i (64 : Int))) (bitOr IntKind.u64 (Option.getD (mget (kt := (.int .i64)) (IntKind.i64.wrap (Int.tdiv i (64 : Int))) (v_bits_Set_Has s i).2.2) (0 : Int)) (IntKind.u64.wrap ((1 : Int) * (2 ^ (min (Int.toNat (IntKind.u64.wrap (Int.tmod i (64 : Int)))) (IntKind.u64).bits))))) (v_bits_Set_Has s i).2.2)))))))
def K_bits_Set_Put : Bool × Int × List (Int × Int) → Ans := fun (r : Bool × Int × List (Int × Int)) => (.d .bool r.1, [.bx 102 [.d (.int .i64) r.2.1, .mv (.int .i64) (.int .u64) r.2.2], .top])
def S_bits_Set_Put (s : Int × List (Int × Int)) (i : Int) : Empty → Nat × St := fun j => nomatch j
theorem en_bits_Set_Put (s : Int × List (Int × Int)) (i : Int) (L : Lt) : entryA Go.Proofs.Tryz.prog (clOf t_bits_Set_Put) tb_bits_Set_Put Go.Proofs.Tryz.f44 c_bits_Set_Put L (toPs sg_bits_Set_Put (s, i, ())) = (T0_bits_Set_Put s i).run (fun v => some (K_bits_Set_Put v)) fun j => L (S_bits_Set_Put s i j).1 (S_bits_Set_Put s i j).2 := by kernel_rfl
theorem lp_bits_Set_Put (s : Int × List (Int × Int)) (i : Int) : ∀ (L : Lt) (j : Empty), procOf (procsF Go.Proofs.Tryz.prog (clOf t_bits_Set_Put) tb_bits_Set_Put Go.Proofs.Tryz.f44 c_bits_Set_Put (toPs sg_bits_Set_Put (s, i, ()))) (S_bits_Set_Put s i j).1 L (S_bits_Set_Put s i j).2 = (T_bits_Set_Put s i j).run (fun v => some (K_bits_Set_Put v)) fun j => L (S_bits_Set_Put s i j).1 (S_bits_Set_Put s i j).2 := fun L j => nomatch j
end
end Go.Ev
end

section
set_option linter.unusedSectionVars false
set_option linter.unusedVariables false
set_option linter.unusedSimpArgs false
set_option linter.unusedVariables false
open Go
namespace Go.Ev
def v_bits_Set_Put (s : Int × List (Int × Int)) (i : Int) : Bool × Int × List (Int × Int) := putS s i
theorem g_bits_Set_Put (s : Int × List (Int × Int)) (i : Int) : Goes (T_bits_Set_Put s i) (T0_bits_Set_Put s i) (v_bits_Set_Put s i) := by
  unfold T0_bits_Set_Put v_bits_Set_Put putS
  simp only [v_bits_Set_Has]
  rw [goes_br]
  by_cases h0 : i < 0
  · rw [if_pos (decide_eq_true h0), if_pos (.inl h0)]; exact .leaf
  · rw [if_neg (by simpa using h0), goes_br]
    by_cases h1 : i ≥ s.1
    · rw [if_pos (decide_eq_true h1), if_pos (.inr (.inl h1))]; exact .leaf
    · rw [if_neg (by simpa using h1), goes_br]
      by_cases h2 : hasS s i = true
      · rw [if_pos h2, if_pos (.inr (.inr h2))]; exact .leaf
      · rw [if_neg h2, goes_br, if_neg (by rw [wrapU_nonneg]; decide), if_neg (by intro h; rcases h with h | h | h <;> first | exact h0 h | exact h1 h | exact h2 h)]
        exact .leaf
end Go.Ev
end

section
set_option linter.unusedSectionVars false
set_option linter.unusedVariables false
set_option linter.unusedSimpArgs false
set_option maxRecDepth 100000
set_option linter.unusedVariables false
open Go Go.Ev
namespace Go.Ev
noncomputable section
noncomputable def e_bits_Set_Put : Run := entO sg_bits_Set_Put K_bits_Set_Put (fun a => true) (fun a => v_bits_Set_Put a.1 a.2.1)
theorem ok_bits_Set_Put : EntOK Go.Proofs.Tryz.prog 44 e_bits_Set_Put := entO_ok (tb := tb_bits_Set_Put) (c := c_bits_Set_Put) (noRun_ok (known_of (fn := Go.Proofs.Tryz.f44) (c := c_bits_Set_Put) (by kernel_rfl) (by kernel_rfl) (by kernel_rfl))) tk_bits_Set_Put (by kernel_rfl) (by kernel_rfl) (fun a => by kernel_rfl) fun ⟨s, i, _⟩ hk => evF_goes (c := c_bits_Set_Put) (K := K_bits_Set_Put) (S := S_bits_Set_Put s i) (by kernel_rfl) (en_bits_Set_Put s i) (lp_bits_Set_Put s i) (g_bits_Set_Put s i)
end
end Go.Ev
end

section
set_option linter.unusedSectionVars false
set_option linter.unusedVariables false
set_option linter.unusedSimpArgs false
set_option maxRecDepth 100000
set_option linter.unusedVariables false
open Go Go.Ev
namespace Go.Ev
noncomputable section
/-! ### paling/clash.Back$1 -/
def sg_clash_Back_1 : PSig := [.dat false (.int .i64), .obj 34 [(.d (.sl T_api_Access))], .obj 3 [(.d (.int .i64))], .ptr 78 102 [(.d (.int .i64)), (.m (.int .i64) (.int .u64))], .obj 37 [(.w 3 (.int .i64))], .obj 3 [(.d (.int .i64))], .ptr 78 102 [(.d (.int .i64)), (.m (.int .i64) (.int .u64))]]
noncomputable def t_clash_Back_1 : Tbl := [(36, e_clash_clash), (44, e_bits_Set_Put)]
theorem tk_clash_Back_1 : ∀ p ∈ t_clash_Back_1, EntOK Go.Proofs.Tryz.prog p.1 p.2 := tbl_cons ok_clash_clash (tbl_cons ok_bits_Set_Put (tbl_nil))
noncomputable def c_clash_Back_1 : Code := Go.Proofs.Tryz.f43.body.getD .skip
def tb_clash_Back_1 : Tb := [(1, ⟨[0, 1, 2, 3, 4, 5, 6, 10, 11, 12], []⟩)]
inductive J_clash_Back_1 where
  | l1 (h : Int) (h1 : Int) (h2 : List Int) (h3 : List (Int × Int)) (h4 : Int) (h5 : List (Int × Int))
def T_clash_Back_1 (x : Int) (l : List (El T_api_Access)) (own : Int) (come : Int × List (Int × Int)) (open_ : List Int) (a : Int) (back : Int × List (Int × Int)) : J_clash_Back_1 → JT J_clash_Back_1 ((List (El T_api_Access)) × Int × (Int × List (Int × Int)) × (List Int) × Int × Int × List (Int × Int))
  | .l1 h h1 h2 h3 h4 h5 =>
    .br (decide (h < (Int.ofNat (List.length l))))
      (.br ((decide ((0 : Int) ≤ h)) && (decide (h < (Int.ofNat (List.length l)))))
        (.br ((decide ((0 : Int) ≤ x)) && (decide (x < (Int.ofNat (List.length l)))))
          (.br (! (v_clash_clash (List.getD l (Int.toNat x) (dflt T_api_Access)) (List.getD l (Int.toNat h) (dflt T_api_Access))))
            (.jmp (.l1 (IntKind.i64.wrap (h + (1 : Int))) h1 h2 h3 h4 h5))
          (.br ((List.getD l (Int.toNat h) (dflt T_api_Access)).1 != own)
            (.br (v_bits_Set_Put (h1, h3) h).1
              (.br (Nat.ble (((List.length h2) + 1) * 8) limit)
                (.jmp (.l1 (IntKind.i64.wrap (h + (1 : Int))) (v_bits_Set_Put (h1, h3) h).2.1 (h2 ++ [h]) (v_bits_Set_Put (h1, h3) h).2.2 h4 h5))
              (.no))
            (.jmp (.l1 (IntKind.i64.wrap (h + (1 : Int))) (v_bits_Set_Put (h1, h3) h).2.1 h2 (v_bits_Set_Put (h1, h3) h).2.2 h4 h5)))
          (.br (x != a)
            (.jmp (.l1 (IntKind.i64.wrap (h + (1 : Int))) h1 h2 h3 (v_bits_Set_Put (h4, h5) h).2.1 (v_bits_Set_Put (h4, h5) h).2.2))
          (.jmp (.l1 (IntKind.i64.wrap (h + (1 : Int))) h1 h2 h3 h4 h5)))))
        (.no))
      (.no))
    (.leaf (l, (own, ((h1, h3), (h2, (a, (h4, h5)))))))
def T0_clash_Back_1 (x : Int) (l : List (El T_api_Access)) (own : Int) (come : Int × List (Int × Int)) (open_ : List Int) (a : Int) (back : Int × List (Int × Int)) : JT J_clash_Back_1 ((List (El T_api_Access)) × Int × (Int × List (Int × Int)) × (List Int) × Int × Int × List (Int × Int)) :=
  .jmp (.l1 (0 : Int) come.1 open_ come.2 back.1 back.2)
def K_clash_Back_1 : (List (El T_api_Access)) × Int × (Int × List (Int × Int)) × (List Int) × Int × Int × List (Int × Int) → Ans := fun (r : (List (El T_api_Access)) × Int × (Int × List (Int × Int)) × (List Int) × Int × Int × List (Int × Int)) => (.tu [], [.top, .bx 34 [.d (.sl T_api_Access) r.1], .bx 3 [.d (.int .i64) r.2.1], .bx 78 [.bx 102 [.d (.int .i64) r.2.2.1.1, .mv (.int .i64) (.int .u64) r.2.2.1.2]], .bx 37 [.rw 3 (.int .i64) r.2.2.2.1], .bx 3 [.d (.int .i64) r.2.2.2.2.1], .bx 78 [.bx 102 [.d (.int .i64) r.2.2.2.2.2.1, .mv (.int .i64) (.int .u64) r.2.2.2.2.2.2]]])
def S_clash_Back_1 (x : Int) (l : List (El T_api_Access)) (own : Int) (come : Int × List (Int × Int)) (open_ : List Int) (a : Int) (back : Int × List (Int × Int)) : J_clash_Back_1 → Nat × St
  | .l1 h h1 h2 h3 h4 h5 => (1, ⟨mkTm 42 [(0, .d (.int .i64) x), (1, .pt 2 0 0), (2, .pt 3 0 0), (3, .pt 4 0 0), (4, .pt 5 0 0), (5, .pt 6 0 0), (6, .pt 7 0 0), (10, .d (.sl T_api_Access) l), (11, .d (.int .i64) (Int.ofNat (List.length l))), (12, .d (.int .i64) h)], [(2, 0, .box 34 [.d (.sl T_api_Access) l] (some 1)), (3, 0, .box 3 [.d (.int .i64) own] (some 2)), (4, 0, .box 78 [.pt 4097 0 0] (some 3)), (5, 0, .box 37 [.own 5121 0 none] (some 4)), (6, 0, .box 3 [.d (.int .i64) a] (some 5)), (7, 0, .box 78 [.pt 7169 0 0] (some 6)), (4097, 0, .box 102 [.d (.int .i64) h1, .mp 4195330 0] none), (5121, 0, .row 3 (.int .i64) h2 false), (7169, 0, .box 102 [.d (.int .i64) h4, .mp 7341058 0] none), (4195330, 0, .map (.int .i64) (.int .u64) h3), (7341058, 0, .map (.int .i64) (.int .u64) h5)]⟩)
theorem en_clash_Back_1 (x : Int) (l : List (El T_api_Access)) (own : Int) (come : Int × List (Int × Int)) (open_ : List Int) (a : Int) (back : Int × List (Int × Int)) (L : Lt) : entryA Go.Proofs.Tryz.prog (clOf t_clash_Back_1) tb_clash_Back_1 Go.Proofs.Tryz.f43 c_clash_Back_1 L (toPs sg_clash_Back_1 (x, l, own, come, open_, a, back, ())) = (T0_clash_Back_1 x l own come open_ a back).run (fun v => some (K_clash_Back_1 v)) fun j => L (S_clash_Back_1 x l own come open_ a back j).1 (S_clash_Back_1 x l own come open_ a back j).2 := by kernel_rfl
theorem lp_clash_Back_1 (x : Int) (l : List (El T_api_Access)) (own : Int) (come : Int × List (Int × Int)) (open_ : List Int) (a : Int) (back : Int × List (Int × Int)) : ∀ (L : Lt) (j : J_clash_Back_1), procOf (procsF Go.Proofs.Tryz.prog (clOf t_clash_Back_1) tb_clash_Back_1 Go.Proofs.Tryz.f43 c_clash_Back_1 (toPs sg_clash_Back_1 (x, l, own, come, open_, a, back, ()))) (S_clash_Back_1 x l own come open_ a back j).1 L (S_clash_Back_1 x l own come open_ a back j).2 = (T_clash_Back_1 x l own come open_ a back j).run (fun v => some (K_clash_Back_1 v)) fun j => L (S_clash_Back_1 x l own come open_ a back j).1 (S_clash_Back_1 x l own come open_ a back j).2
  | L, .l1 h h1 h2 h3 h4 h5 => by kernel_rfl
end
end Go.Ev
end

section
set_option linter.unusedSectionVars false
set_option linter.unusedVariables false
set_option linter.unusedSimpArgs false
set_option maxRecDepth 100000
set_option linter.unusedVariables false
set_option linter.unusedSimpArgs false
open Go
namespace Go.Ev
abbrev SetT := Int × List (Int × Int)
/-- One access is met, or not. -/
def meet1 (l : List Acc) (x own a : Int) (h : Nat) (s : SetT × List Int × SetT) : SetT × List Int × SetT :=
  if clB l x.toNat h = true then
    (if thA l h ≠ own then ((putS s.1 (h : Int)).2, (if (putS s.1 (h : Int)).1 = true then s.2.1 ++ [(h : Int)] else s.2.1), s.2.2)
     else if x ≠ a then (s.1, s.2.1, (putS s.2.2 (h : Int)).2) else s)
  else s
def meetF (l : List Acc) (x own a : Int) : List Nat → SetT × List Int × SetT → SetT × List Int × SetT
  | [], s => s
  | h :: r, s => meetF l x own a r (meet1 l x own a h s)
def v_clash_Back_1 (x : Int) (l : List (El T_api_Access)) (own : Int) (come : SetT) (open_ : List Int) (a : Int) (back : SetT) : (List (El T_api_Access)) × Int × SetT × (List Int) × Int × SetT :=
  (l, own, (meetF l x own a (List.range' 0 l.length) (come, open_, back)).1, (meetF l x own a (List.range' 0 l.length) (come, open_, back)).2.1, a, (meetF l x own a (List.range' 0 l.length) (come, open_, back)).2.2)
def k_clash_Back_1 (x : Int) (l : List (El T_api_Access)) (own : Int) (come : SetT) (open_ : List Int) (a : Int) (back : SetT) : Bool := decide (0 ≤ x ∧ x < (l.length : Int) ∧ l.length < 1099511627776 ∧ open_.length < 1099511627776)
theorem g_clash_Back_1 (x : Int) (l : List (El T_api_Access)) (own : Int) (come : SetT) (open_ : List Int) (a : Int) (back : SetT) (hk : k_clash_Back_1 x l own come open_ a back = true) : Goes (T_clash_Back_1 x l own come open_ a back) (T0_clash_Back_1 x l own come open_ a back) (v_clash_Back_1 x l own come open_ a back) := by
  obtain ⟨x0, x1, hN, hO⟩ := of_decide_eq_true hk
  obtain ⟨T, hT⟩ : ∃ T, T = T_clash_Back_1 x l own come open_ a back := ⟨_, rfl⟩
  rw [← hT]
  have loop : ∀ h, h ≤ l.length → ∀ s : SetT × List Int × SetT, s.2.1.length ≤ open_.length + h → Goes T (.jmp (.l1 (h : Int) s.1.1 s.2.1 s.1.2 s.2.2.1 s.2.2.2)) (l, own, (meetF l x own a (List.range' h (l.length - h)) s).1, (meetF l x own a (List.range' h (l.length - h)) s).2.1, a, (meetF l x own a (List.range' h (l.length - h)) s).2.2) := by
    refine down ?_ fun h hh ih => ?_
    · intro s hs
      rw [goes_jmp, hT, T_clash_Back_1, ← hT, goes_br, if_neg (by rw [lt_len_not (Nat.lt_irrefl _)]; decide), Nat.sub_self]
      exact .leaf
    · intro s hs
      have hx1 : decide ((0 : Int) ≤ x) = true := decide_eq_true x0
      have hx2 : decide (x < Int.ofNat l.length) = true := decide_eq_true x1
      rw [show l.length - h = (l.length - (h + 1)) + 1 by omega, List.range'_succ, meetF]
      have ec : v_clash_clash (List.getD l x.toNat (dflt T_api_Access)) (List.getD l h (dflt T_api_Access)) = clB l x.toNat h := rfl
      have et : (List.getD l h (dflt T_api_Access)).1 = thA l h := rfl
      have hp : v_bits_Set_Put (s.1.1, s.1.2) (h : Int) = putS s.1 (h : Int) := rfl
      have hp2 : v_bits_Set_Put (s.2.2.1, s.2.2.2) (h : Int) = putS s.2.2 (h : Int) := rfl
      have b1 : Nat.ble ((s.2.1.length + 1) * 8) limit = true := Nat.ble_eq_true_of_le (by unfold limit; omega)
      have key := ih (meet1 l x own a h s)
      rw [goes_jmp, hT, T_clash_Back_1, ← hT]
      simp only [goes_br, lt_len hh, nng, hx1, hx2, Bool.and_self, if_true, Int.toNat_natCast, ec, et, hp, hp2, b1, wrap_succ (k := h) (by omega)]
      by_cases c1 : clB l x.toNat h = true
      · rw [if_neg (by rw [c1]; decide)]
        by_cases c2 : thA l h = own
        · rw [if_neg (by simp [c2])]
          by_cases c3 : x = a
          · have hm : meet1 l x own a h s = s := by unfold meet1; rw [if_pos c1, if_neg (by simp [c2]), if_neg (by simp [c3])]
            rw [hm] at key ⊢
            rw [if_neg (by simp [c3])]
            exact key (by omega)
          · have hm : meet1 l x own a h s = (s.1, s.2.1, (putS s.2.2 (h : Int)).2) := by unfold meet1; rw [if_pos c1, if_neg (by simp [c2]), if_pos c3]
            rw [hm] at key ⊢
            rw [if_pos (by simpa using c3)]
            exact key (by show s.2.1.length ≤ _; omega)
        · rw [if_pos (by simpa using c2)]
          by_cases c4 : (putS s.1 (h : Int)).1 = true
          · have hm : meet1 l x own a h s = ((putS s.1 (h : Int)).2, s.2.1 ++ [(h : Int)], s.2.2) := by unfold meet1; rw [if_pos c1, if_pos c2, if_pos c4]
            rw [hm] at key ⊢
            rw [if_pos c4]
            exact key (by show (s.2.1 ++ [(h : Int)]).length ≤ _; simp; omega)
          · have hm : meet1 l x own a h s = ((putS s.1 (h : Int)).2, s.2.1, s.2.2) := by unfold meet1; rw [if_pos c1, if_pos c2, if_neg c4]
            rw [hm] at key ⊢
            rw [if_neg c4]
            exact key (by show s.2.1.length ≤ _; omega)
      · have hm : meet1 l x own a h s = s := by unfold meet1; rw [if_neg c1]
        rw [hm] at key ⊢
        rw [if_pos (by simpa using c1)]
        exact key (by omega)
  exact loop 0 (Nat.zero_le _) (come, open_, back) (by simp)
end Go.Ev
end

section
set_option linter.unusedSectionVars false
set_option linter.unusedVariables false
set_option linter.unusedSimpArgs false
set_option maxRecDepth 100000
set_option linter.unusedVariables false
open Go Go.Ev
namespace Go.Ev
noncomputable section
noncomputable def e_clash_Back_1 : Run := entO sg_clash_Back_1 K_clash_Back_1 (fun a => k_clash_Back_1 a.1 a.2.1 a.2.2.1 a.2.2.2.1 a.2.2.2.2.1 a.2.2.2.2.2.1 a.2.2.2.2.2.2.1) (fun a => v_clash_Back_1 a.1 a.2.1 a.2.2.1 a.2.2.2.1 a.2.2.2.2.1 a.2.2.2.2.2.1 a.2.2.2.2.2.2.1)
theorem ok_clash_Back_1 : EntOK Go.Proofs.Tryz.prog 43 e_clash_Back_1 := entO_ok (tb := tb_clash_Back_1) (c := c_clash_Back_1) (noRun_ok (known_of (fn := Go.Proofs.Tryz.f43) (c := c_clash_Back_1) (by kernel_rfl) (by kernel_rfl) (by kernel_rfl))) tk_clash_Back_1 (by kernel_rfl) (by kernel_rfl) (fun a => by kernel_rfl) fun ⟨x, l, own, come, open_, a, back, _⟩ hk => evF_goes (c := c_clash_Back_1) (K := K_clash_Back_1) (S := S_clash_Back_1 x l own come open_ a back) (by kernel_rfl) (en_clash_Back_1 x l own come open_ a back) (lp_clash_Back_1 x l own come open_ a back) (g_clash_Back_1 x l own come open_ a back hk)
end
end Go.Ev
end

section
set_option linter.unusedSectionVars false
set_option linter.unusedVariables false
set_option linter.unusedSimpArgs false
set_option maxRecDepth 100000
set_option linter.unusedVariables false
open Go Go.Ev
namespace Go.Ev
noncomputable section
/-! ### paling/valid.Find -/
def sg_valid_Find : Sig := [(true, (.sl T_api_Ins)), (false, .str)]
noncomputable def t_valid_Find : Tbl := []
theorem tk_valid_Find : ∀ p ∈ t_valid_Find, EntOK Go.Proofs.Tryz.prog p.1 p.2 := tbl_nil
noncomputable def c_valid_Find : Code := Go.Proofs.Tryz.f96.body.getD .skip
def tb_valid_Find : Tb := [(3, ⟨[1, 10, 11, 12], []⟩), (9, ⟨[1, 5, 10, 11, 12, 18, 19, 20], []⟩)]
inductive J_valid_Find where
  | l3 (h : Int)
  | l9 (h : List ByteArray) (h1 : Int) (h2 : Int) (k : Int) (h3 : Int)
def T_valid_Find (t : List (El T_api_Ins)) (label : ByteArray) : J_valid_Find → JT J_valid_Find (Int)
  | .l3 h =>
    .br (decide (h < (Int.ofNat (List.length t))))
      (.br ((decide ((0 : Int) ≤ h)) && (decide (h < (Int.ofNat (List.length t)))))
        (.jmp (.l9 (List.getD t (Int.toNat h) (dflt T_api_Ins)).2.2.2.2.2.2 (Int.ofNat (List.length (List.getD t (Int.toNat h) (dflt T_api_Ins)).2.2.2.2.2.2)) (0 : Int) h h))
      (.no))
    (.leaf (-1 : Int))
  | .l9 h h1 h2 k h3 =>
    .br (decide (h2 < h1))
      (.br ((decide ((0 : Int) ≤ h2)) && (decide (h2 < (Int.ofNat (List.length h)))))
        (.br (eqB (List.getD h (Int.toNat h2) (dflt .str)) label)
          (.leaf k)
        (.jmp (.l9 h h1 (IntKind.i64.wrap (h2 + (1 : Int))) k h3)))
      (.no))
    (.jmp (.l3 (IntKind.i64.wrap (h3 + (1 : Int)))))
def T0_valid_Find (t : List (El T_api_Ins)) (label : ByteArray) : JT J_valid_Find (Int) :=
  .jmp (.l3 (0 : Int))
def R_valid_Find : Int → AV := fun (r : Int) => .d (.int .i64) r
def S_valid_Find (t : List (El T_api_Ins)) (label : ByteArray) : J_valid_Find → Nat × St
  | .l3 h => (3, ⟨mkTm 30 [(1, .d .str label), (10, .d (.sl T_api_Ins) t), (11, .d (.int .i64) (Int.ofNat (List.length t))), (12, .d (.int .i64) h)], []⟩)
  | .l9 h h1 h2 k h3 => (9, ⟨mkTm 30 [(1, .d .str label), (5, .d (.int .i64) k), (10, .d (.sl T_api_Ins) t), (11, .d (.int .i64) (Int.ofNat (List.length t))), (12, .d (.int .i64) h3), (18, .d (.sl .str) h), (19, .d (.int .i64) h1), (20, .d (.int .i64) h2)], []⟩)
theorem en_valid_Find (t : List (El T_api_Ins)) (label : ByteArray) (L : Lt) : entryA Go.Proofs.Tryz.prog (clOf t_valid_Find) tb_valid_Find Go.Proofs.Tryz.f96 c_valid_Find L (toForms sg_valid_Find (t, label, ())) = (T0_valid_Find t label).run (fun v => some (R_valid_Find v, tps (toForms sg_valid_Find (t, label, ())))) fun j => L (S_valid_Find t label j).1 (S_valid_Find t label j).2 := by kernel_rfl
theorem lp_valid_Find (t : List (El T_api_Ins)) (label : ByteArray) : ∀ (L : Lt) (j : J_valid_Find), procOf (procsF Go.Proofs.Tryz.prog (clOf t_valid_Find) tb_valid_Find Go.Proofs.Tryz.f96 c_valid_Find (toForms sg_valid_Find (t, label, ()))) (S_valid_Find t label j).1 L (S_valid_Find t label j).2 = (T_valid_Find t label j).run (fun v => some (R_valid_Find v, tps (toForms sg_valid_Find (t, label, ())))) fun j => L (S_valid_Find t label j).1 (S_valid_Find t label j).2
  | L, .l3 h => by kernel_rfl
  | L, .l9 h h1 h2 k h3 => by kernel_rfl
end
end Go.Ev
end

section
set_option linter.unusedSectionVars false
set_option linter.unusedVariables false
set_option linter.unusedSimpArgs false
set_option linter.unusedVariables false
set_option linter.unusedSimpArgs false
open Go
namespace Go.Ev
def v_valid_Find (t : List (El T_api_Ins)) (label : ByteArray) : Int := findI label t 0
def k_valid_Find (t : List (El T_api_Ins)) (label : ByteArray) : Bool := decide (t.length < 1099511627776) && t.all fun i => decide (i.2.2.2.2.2.2.length < 1099511627776)
theorem g_valid_Find (t : List (El T_api_Ins)) (label : ByteArray) (hk : k_valid_Find t label = true) : Goes (T_valid_Find t label) (T0_valid_Find t label) (v_valid_Find t label) := by
  unfold k_valid_Find at hk
  simp only [Bool.and_eq_true, decide_eq_true_eq, List.all_eq_true] at hk
  obtain ⟨hn, hl⟩ := hk
  have loop : ∀ k, k ≤ t.length → Goes (T_valid_Find t label) (.jmp (.l3 (k : Int))) (findI label (t.drop k) k) := by
    refine down ?_ fun k hk ih => ?_
    · rw [goes_jmp]
      simp only [T_valid_Find, goes_br, lt_len_not (Nat.lt_irrefl _), goes_leaf, List.drop_length]
      simp [findI]
    · have hli := hl t[k] (List.getElem_mem hk)
      rw [goes_jmp]
      simp only [T_valid_Find, goes_br, lt_len hk, nng, Bool.and_self, if_true, Int.toNat_natCast, getD_lt hk]
      rw [drop_cons hk]
      unfold findI
      generalize t[k].2.2.2.2.2.2 = ls at hli
      have inner : ∀ j, j ≤ ls.length → Goes (T_valid_Find t label) (.jmp (.l9 ls (Int.ofNat ls.length) (j : Int) (k : Int) (k : Int))) (if (ls.drop j).contains label then (k : Int) else findI label (t.drop (k + 1)) (k + 1)) := by
        refine down ?_ fun j hj ihj => ?_
        · rw [goes_jmp]
          simp only [T_valid_Find, goes_br, lt_len_not (Nat.lt_irrefl _), wrap_succ (k := k) (by omega), List.drop_length]
          simpa using ih
        · rw [goes_jmp]
          simp only [T_valid_Find, goes_br, lt_len hj, nng, Bool.and_self, if_true, Int.toNat_natCast, getD_lt hj, wrap_succ (k := j) (by omega), eqB_iff]
          rw [drop_cons hj, List.contains_cons]
          by_cases h : ls[j] = label
          · rw [if_pos h]; subst h; simp [goes_leaf]
          · rw [if_neg h, beq_false_of_ne (Ne.symm h), Bool.false_or]
            exact ihj
      simpa using inner 0 (Nat.zero_le _)
  unfold T0_valid_Find v_valid_Find
  simpa using loop 0 (Nat.zero_le _)
end Go.Ev
end

section
set_option linter.unusedSectionVars false
set_option linter.unusedVariables false
set_option linter.unusedSimpArgs false
set_option maxRecDepth 100000
set_option linter.unusedVariables false
open Go Go.Ev
namespace Go.Ev
noncomputable section
noncomputable def e_valid_Find : Run := entG sg_valid_Find R_valid_Find (fun a => k_valid_Find a.1 a.2.1) (fun a => v_valid_Find a.1 a.2.1)
theorem ok_valid_Find : EntOK Go.Proofs.Tryz.prog 96 e_valid_Find := entG_ok (tb := tb_valid_Find) (c := c_valid_Find) tk_valid_Find (by kernel_rfl) (by kernel_rfl) (by kernel_rfl) (fun a => by kernel_rfl) fun ⟨t, label, _⟩ hk => evF_goes (c := c_valid_Find) (K := fun v => (R_valid_Find v, tps (toForms sg_valid_Find (t, label, ())))) (S := S_valid_Find t label) (by kernel_rfl) (en_valid_Find t label) (lp_valid_Find t label) (g_valid_Find t label hk)
end
end Go.Ev
end

section
set_option linter.unusedSectionVars false
set_option linter.unusedVariables false
set_option linter.unusedSimpArgs false
set_option maxRecDepth 100000
set_option linter.unusedVariables false
open Go Go.Ev
namespace Go.Ev
noncomputable section
/-! ### paling/flow.Next -/
def sg_flow_Next : Sig := [(true, (.sl T_api_Ins)), (false, (.int .i64))]
noncomputable def t_flow_Next : Tbl := [(95, e_ins_Leads), (96, e_valid_Find)]
theorem tk_flow_Next : ∀ p ∈ t_flow_Next, EntOK Go.Proofs.Tryz.prog p.1 p.2 := tbl_cons ok_ins_Leads (tbl_cons ok_valid_Find (tbl_nil))
noncomputable def c_flow_Next : Code := Go.Proofs.Tryz.f74.body.getD .skip
def tb_flow_Next : Tb := [(12, ⟨[1, 5, 8, 55, 68, 76], [(9, 74)]⟩), (14, ⟨[5, 8, 78], []⟩), (hintK, ⟨[], [(1, 74)]⟩)]
inductive J_flow_Next where
  | l12 (to_ : Int) (out : List Int) (h : Bool)
  | l14 (to_ : Int) (out : List Int) (h : Bool)
def T_flow_Next (t : List (El T_api_Ins)) (i : Int) : J_flow_Next → JT J_flow_Next (List Int)
  | .l12 to_ out h =>
    .br h
      (.br (Nat.ble (((List.length out) + 1) * 8) limit)
        (.br (decide (to_ > i))
          (.br ((Int.ofNat (List.length (out ++ [(IntKind.i64.wrap (i + (1 : Int)))]))) == (0 : Int))
            (.jmp (.l14 to_ (out ++ [(IntKind.i64.wrap (i + (1 : Int)))]) true))
          (.br ((decide ((0 : Int) ≤ (IntKind.i64.wrap ((Int.ofNat (List.length (out ++ [(IntKind.i64.wrap (i + (1 : Int)))]))) - (1 : Int))))) && (decide ((IntKind.i64.wrap ((Int.ofNat (List.length (out ++ [(IntKind.i64.wrap (i + (1 : Int)))]))) - (1 : Int))) < (Int.ofNat (List.length (out ++ [(IntKind.i64.wrap (i + (1 : Int)))]))))))
            (.jmp (.l14 to_ (out ++ [(IntKind.i64.wrap (i + (1 : Int)))]) ((List.getD (out ++ [(IntKind.i64.wrap (i + (1 : Int)))]) (Int.toNat (IntKind.i64.wrap ((Int.ofNat (List.length (out ++ [(IntKind.i64.wrap (i + (1 : Int)))]))) - (1 : Int)))) (dflt (.int .i64))) != to_)))
          (.no)))
        (.jmp (.l14 to_ (out ++ [(IntKind.i64.wrap (i + (1 : Int)))]) false)))
      (.no))
    (.br (decide (to_ > i))
      (.br ((Int.ofNat (List.length out)) == (0 : Int))
        (.jmp (.l14 to_ out true))
      (.br ((decide ((0 : Int) ≤ (IntKind.i64.wrap ((Int.ofNat (List.length out)) - (1 : Int))))) && (decide ((IntKind.i64.wrap ((Int.ofNat (List.length out)) - (1 : Int))) < (Int.ofNat (List.length out)))))
        (.jmp (.l14 to_ out ((List.getD out (Int.toNat (IntKind.i64.wrap ((Int.ofNat (List.length out)) - (1 : Int)))) (dflt (.int .i64))) != to_)))
      (.no)))
    (.jmp (.l14 to_ out false)))
  | .l14 to_ out h =>
    .br h
      (.br (Nat.ble (((List.length out) + 1) * 8) limit)
        (.leaf (out ++ [to_]))
      (.no))
    (.leaf out)
def T0_flow_Next (t : List (El T_api_Ins)) (i : Int) : JT J_flow_Next (List Int) :=
  .br (decide (i < (0 : Int)))
    (.leaf [])
  (.br (decide (i ≥ (Int.ofNat (List.length t))))
    (.leaf [])
  (.br ((decide ((0 : Int) ≤ i)) && (decide (i < (Int.ofNat (List.length t)))))
    (.br (k_ins_Leads (List.getD t (Int.toNat i) (dflt T_api_Ins)))
      (.br (v_ins_Leads (List.getD t (Int.toNat i) (dflt T_api_Ins))).2
        (.br ((decide ((0 : Int) ≤ i)) && (decide (i < (Int.ofNat (List.length t)))))
          (.br (k_valid_Find t (List.getD t (Int.toNat i) (dflt T_api_Ins)).2.2.2.2.2.1)
            (.br (decide ((v_valid_Find t (List.getD t (Int.toNat i) (dflt T_api_Ins)).2.2.2.2.2.1) ≥ (0 : Int)))
              (.br (decide ((v_valid_Find t (List.getD t (Int.toNat i) (dflt T_api_Ins)).2.2.2.2.2.1) ≤ i))
                (.br (v_ins_Leads (List.getD t (Int.toNat i) (dflt T_api_Ins))).1
                  (.jmp (.l12 (v_valid_Find t (List.getD t (Int.toNat i) (dflt T_api_Ins)).2.2.2.2.2.1) [(v_valid_Find t (List.getD t (Int.toNat i) (dflt T_api_Ins)).2.2.2.2.2.1)] (decide ((IntKind.i64.wrap (i + (1 : Int))) < (Int.ofNat (List.length t))))))
                (.jmp (.l12 (v_valid_Find t (List.getD t (Int.toNat i) (dflt T_api_Ins)).2.2.2.2.2.1) [(v_valid_Find t (List.getD t (Int.toNat i) (dflt T_api_Ins)).2.2.2.2.2.1)] false)))
              (.br (v_ins_Leads (List.getD t (Int.toNat i) (dflt T_api_Ins))).1
                (.jmp (.l12 (v_valid_Find t (List.getD t (Int.toNat i) (dflt T_api_Ins)).2.2.2.2.2.1) [] (decide ((IntKind.i64.wrap (i + (1 : Int))) < (Int.ofNat (List.length t))))))
              (.jmp (.l12 (v_valid_Find t (List.getD t (Int.toNat i) (dflt T_api_Ins)).2.2.2.2.2.1) [] false))))
            (.br (v_ins_Leads (List.getD t (Int.toNat i) (dflt T_api_Ins))).1
              (.jmp (.l12 (v_valid_Find t (List.getD t (Int.toNat i) (dflt T_api_Ins)).2.2.2.2.2.1) [] (decide ((IntKind.i64.wrap (i + (1 : Int))) < (Int.ofNat (List.length t))))))
            (.jmp (.l12 (v_valid_Find t (List.getD t (Int.toNat i) (dflt T_api_Ins)).2.2.2.2.2.1) [] false))))
          (.no))
        (.no))
      (.br (v_ins_Leads (List.getD t (Int.toNat i) (dflt T_api_Ins))).1
        (.jmp (.l12 (-1 : Int) [] (decide ((IntKind.i64.wrap (i + (1 : Int))) < (Int.ofNat (List.length t))))))
      (.jmp (.l12 (-1 : Int) [] false))))
    (.no))
  (.no)))
def R_flow_Next : List Int → AV := fun (r : List Int) => .rw 3 (.int .i64) r
def S_flow_Next (t : List (El T_api_Ins)) (i : Int) : J_flow_Next → Nat × St
  | .l12 to_ out h => (12, ⟨mkTm 84 [(1, .d (.int .i64) i), (5, .d (.int .i64) to_), (8, .own 9 0 none), (55, .d .bool h)], [(9, 0, .row 3 (.int .i64) out false)]⟩)
  | .l14 to_ out h => (14, ⟨mkTm 84 [(5, .d (.int .i64) to_), (8, .own 9 0 none), (78, .d .bool h)], [(9, 0, .row 3 (.int .i64) out false)]⟩)
theorem en_flow_Next (t : List (El T_api_Ins)) (i : Int) (L : Lt) : entryA Go.Proofs.Tryz.prog (clOf t_flow_Next) tb_flow_Next Go.Proofs.Tryz.f74 c_flow_Next L (toForms sg_flow_Next (t, i, ())) = (T0_flow_Next t i).run (fun v => some (R_flow_Next v, tps (toForms sg_flow_Next (t, i, ())))) fun j => L (S_flow_Next t i j).1 (S_flow_Next t i j).2 := by kernel_rfl
theorem lp_flow_Next (t : List (El T_api_Ins)) (i : Int) : ∀ (L : Lt) (j : J_flow_Next), procOf (procsF Go.Proofs.Tryz.prog (clOf t_flow_Next) tb_flow_Next Go.Proofs.Tryz.f74 c_flow_Next (toForms sg_flow_Next (t, i, ()))) (S_flow_Next t i j).1 L (S_flow_Next t i j).2 = (T_flow_Next t i j).run (fun v => some (R_flow_Next v, tps (toForms sg_flow_Next (t, i, ())))) fun j => L (S_flow_Next t i j).1 (S_flow_Next t i j).2
  | L, .l12 to_ out h => by kernel_rfl
  | L, .l14 to_ out h => by kernel_rfl
end
end Go.Ev
end

section
set_option linter.unusedSectionVars false
set_option linter.unusedVariables false
set_option linter.unusedSimpArgs false
set_option maxRecDepth 100000
set_option linter.unusedVariables false
set_option linter.unusedSimpArgs false
open Go
namespace Go.Ev
def v_flow_Next (t : List (El T_api_Ins)) (i : Int) : List Int := listOf t.length (nextB t i)
def k_flow_Next (t : List (El T_api_Ins)) (i : Int) : Bool := flowOK t
theorem nextB_out {t : List (El T_api_Ins)} {i : Int} (h : ¬ (0 ≤ i ∧ i < (t.length : Int))) : listOf t.length (nextB t i) = [] := by
  unfold listOf
  rw [List.map_eq_nil_iff, List.filter_eq_nil_iff]
  intro j _ hb
  unfold nextB at hb
  rw [Bool.and_eq_true] at hb
  have := of_decide_eq_true hb.1
  exact h ⟨this.1, this.2.1⟩
theorem g_flow_Next (t : List (El T_api_Ins)) (i : Int) (hk : k_flow_Next t i = true) : Goes (T_flow_Next t i) (T0_flow_Next t i) (v_flow_Next t i) := by
  have hlen := flowOK_len hk
  unfold T0_flow_Next v_flow_Next
  rw [goes_br]
  by_cases h0 : i < 0
  · rw [if_pos (decide_eq_true h0), nextB_out (fun h => by omega)]; exact .leaf
  rw [if_neg (by simpa using h0), goes_br]
  obtain ⟨j, rfl⟩ := Int.eq_ofNat_of_zero_le (show 0 ≤ i by omega)
  by_cases h1 : (t.length : Int) ≤ (j : Int)
  · rw [if_pos (decide_eq_true (show (j : Int) ≥ Int.ofNat t.length from h1)), nextB_out (fun h => by omega)]; exact .leaf
  have hj : j < t.length := by omega
  rw [if_neg (by simp; omega), goes_br, if_pos (bound_len hj), goes_br, Int.toNat_natCast]
  rw [← nextL_eq hj]
  have hmem : t.getD j (dflt T_api_Ins) ∈ t := by rw [getD_lt hj]; exact List.getElem_mem hj
  have kl : k_ins_Leads (t.getD j (dflt T_api_Ins)) = true := k_leads (flowOK_text hk hmem)
  have kf : k_valid_Find t (t.getD j (dflt T_api_Ins)).2.2.2.2.2.1 = true := flowOK_find hk
  have vf : v_valid_Find t (t.getD j (dflt T_api_Ins)).2.2.2.2.2.1 = findI (t.getD j (dflt T_api_Ins)).2.2.2.2.2.1 t 0 := rfl
  rw [if_pos kl]
  have hw : IntKind.i64.wrap ((j : Int) + 1) = (j : Int) + 1 := by rw [wrap_i64 (by omega) (by omega)]
  -- the last label
  have l14 : ∀ (to : Int) (out : List Int) (h : Bool), out.length ≤ 3 → Goes (T_flow_Next t (j : Int)) (.jmp (.l14 to out h)) (out ++ if h = true then [to] else []) := by
    intro to out h ho
    rw [goes_jmp, T_flow_Next, goes_br]
    cases h with
    | true =>
      rw [if_pos rfl, goes_br, if_pos (Nat.ble_eq_true_of_le (by unfold limit; omega)), if_pos rfl]; exact .leaf
    | false => rw [if_neg (by decide), if_neg (by decide), List.append_nil]; exact .leaf
  have last : ∀ (out : List Int) (x : Int), out.length ≤ 1 → (decide ((0 : Int) ≤ IntKind.i64.wrap (Int.ofNat (out ++ [x]).length - 1)) && decide (IntKind.i64.wrap (Int.ofNat (out ++ [x]).length - 1) < Int.ofNat (out ++ [x]).length)) = true ∧ List.getD (out ++ [x]) (IntKind.i64.wrap (Int.ofNat (out ++ [x]).length - 1)).toNat (dflt (.int .i64)) = x := by
    intro out x ho
    have e : IntKind.i64.wrap (Int.ofNat (out ++ [x]).length - 1) = (out.length : Int) := by
      rw [List.length_append, List.length_singleton, wrap_i64 (by simp <;> omega) (by simp <;> omega)]
      simp
    rw [e]
    refine ⟨by simp; omega, ?_⟩
    rw [Int.toNat_natCast]
    simp [List.getD]
  have l12 : ∀ (to : Int) (h : Bool), -1 ≤ to → (h = true → (j : Int) + 1 < t.length) → Goes (T_flow_Next t (j : Int)) (.jmp (.l12 to (if 0 ≤ to ∧ to ≤ (j : Int) then [to] else []) h)) (nextL t.length h to (j : Int)) := by
    intro to h hto hh
    rw [goes_jmp, T_flow_Next]
    unfold nextL
    generalize hout : (if 0 ≤ to ∧ to ≤ (j : Int) then [to] else []) = out
    have hol : out.length ≤ 1 := by rw [← hout]; split <;> simp
    rw [goes_br]
    cases h with
    | true =>
      rw [if_pos rfl, goes_br, if_pos (Nat.ble_eq_true_of_le (by unfold limit; omega)), goes_br, hw]
      have hin := hh rfl
      obtain ⟨b1, b2⟩ := last out ((j : Int) + 1) hol
      rw [if_pos (show true = true ∧ (j : Int) + 1 < (t.length : Int) from ⟨rfl, hin⟩)]
      by_cases hgt : to > (j : Int)
      · rw [if_pos (decide_eq_true hgt), goes_br, if_neg (by simp; omega), goes_br, if_pos b1, b2]
        have := l14 to (out ++ [(j : Int) + 1]) ((j : Int) + 1 != to) (by simp; omega)
        rw [List.append_assoc] at this
        by_cases he : to = (j : Int) + 1
        · rw [if_neg (by simp [he]), List.append_nil] at this
          rw [if_neg (fun h => h.2 ⟨rfl, hin, he⟩), List.append_nil]
          exact this
        · rw [if_pos (by simp; omega)] at this
          rw [if_pos ⟨hgt, fun h => he h.2.2⟩]
          exact this
      · rw [if_neg (by simpa using hgt), if_neg (fun h => hgt h.1), List.append_nil]
        have := l14 to (out ++ [(j : Int) + 1]) false (by simp; omega)
        rwa [if_neg (by decide), List.append_nil] at this
    | false =>
      rw [if_neg (by decide), goes_br, if_neg (c := false = true ∧ (j : Int) + 1 < (t.length : Int)) (fun h => by cases h.1), List.nil_append]
      by_cases hgt : to > (j : Int)
      · have he : out = [] := by rw [← hout, if_neg (fun h => by omega)]
        subst he
        rw [if_pos (decide_eq_true hgt), goes_br, if_pos (show (Int.ofNat ([] : List Int).length == 0) = true from rfl), if_pos ⟨hgt, fun h => by cases h.1⟩]
        have := l14 to [] true (by simp)
        rwa [if_pos rfl] at this
      · rw [if_neg (by simpa using hgt), if_neg (fun h => hgt h.1), List.append_nil]
        have := l14 to out false (by omega)
        rwa [if_neg (by decide), List.append_nil] at this
  have key : ∀ (on : Bool) (to : Int), nextL t.length (bif on then decide ((j : Int) + 1 < Int.ofNat t.length) else false) to (j : Int) = nextL t.length on to (j : Int) := by
    intro on to
    cases on with
    | false => rfl
    | true =>
      show nextL t.length (decide ((j : Int) + 1 < Int.ofNat t.length)) to (j : Int) = nextL t.length true to (j : Int)
      by_cases hin : (j : Int) + 1 < (t.length : Int)
      · rw [decide_eq_true (show (j : Int) + 1 < Int.ofNat t.length from hin)]
      · rw [decide_eq_false (show ¬ (j : Int) + 1 < Int.ofNat t.length from hin)]
        unfold nextL
        rw [if_neg (c := false = true ∧ (j : Int) + 1 < (t.length : Int)) (fun h => by cases h.1), if_neg (c := true = true ∧ (j : Int) + 1 < (t.length : Int)) (fun h => hin h.2)]
        by_cases hgt : to > (j : Int)
        · rw [if_pos (c := to > (j : Int) ∧ ¬ (false = true ∧ (j : Int) + 1 < (t.length : Int) ∧ to = (j : Int) + 1)) ⟨hgt, fun h => by cases h.1⟩, if_pos (c := to > (j : Int) ∧ ¬ (true = true ∧ (j : Int) + 1 < (t.length : Int) ∧ to = (j : Int) + 1)) ⟨hgt, fun h => hin h.2.1⟩]
        · rw [if_neg (c := to > (j : Int) ∧ ¬ (false = true ∧ (j : Int) + 1 < (t.length : Int) ∧ to = (j : Int) + 1)) (fun h => hgt h.1), if_neg (c := to > (j : Int) ∧ ¬ (true = true ∧ (j : Int) + 1 < (t.length : Int) ∧ to = (j : Int) + 1)) (fun h => hgt h.1)]
  have both : ∀ (on : Bool) (to : Int) (out : List Int), -1 ≤ to → out = (if 0 ≤ to ∧ to ≤ (j : Int) then [to] else []) → Goes (T_flow_Next t (j : Int)) (.br on (.jmp (.l12 to out (decide (IntKind.i64.wrap ((j : Int) + 1) < Int.ofNat t.length)))) (.jmp (.l12 to out false))) (nextL t.length on to (j : Int)) := by
    intro on to out hto hout
    subst hout
    rw [goes_br, ← key, hw]
    cases on with
    | true =>
      rw [if_pos rfl, cond_true]
      exact l12 to _ hto fun h => of_decide_eq_true h
    | false =>
      rw [if_neg (by decide), cond_false]
      exact l12 to _ hto fun h => by cases h
  have hr := @toOf_lt t j
  rw [goes_br]
  unfold onOf
  by_cases hjmp : (v_ins_Leads (t.getD j (dflt T_api_Ins))).2 = true
  · have hto : toOf t j = findI (t.getD j (dflt T_api_Ins)).2.2.2.2.2.1 t 0 := by unfold toOf; rw [if_pos hjmp]
    rw [hto] at hr
    rw [if_pos hjmp, goes_br, if_pos (bound_len hj), goes_br, if_pos kf, goes_br, vf, hto]
    generalize findI (t.getD j (dflt T_api_Ins)).2.2.2.2.2.1 t 0 = to at hr
    by_cases h2 : to ≥ 0
    · rw [if_pos (decide_eq_true h2), goes_br]
      by_cases h3 : to ≤ (j : Int)
      · rw [if_pos (decide_eq_true h3)]
        exact both _ to _ hr.1 (by rw [if_pos ⟨h2, h3⟩])
      · rw [if_neg (by simpa using h3)]
        exact both _ to _ hr.1 (by rw [if_neg (fun h => h3 h.2)])
    · rw [if_neg (by simpa using h2)]
      exact both _ to _ hr.1 (by rw [if_neg (fun h => h2 h.1)])
  · have hto : toOf t j = -1 := by unfold toOf; rw [if_neg hjmp]
    rw [if_neg hjmp, hto]
    exact both _ (-1) _ (by omega) (by rw [if_neg (fun h => by omega)])
end Go.Ev
end

section
set_option linter.unusedSectionVars false
set_option linter.unusedVariables false
set_option linter.unusedSimpArgs false
set_option maxRecDepth 100000
set_option linter.unusedVariables false
open Go Go.Ev
namespace Go.Ev
noncomputable section
noncomputable def e_flow_Next : Run := entG sg_flow_Next R_flow_Next (fun a => k_flow_Next a.1 a.2.1) (fun a => v_flow_Next a.1 a.2.1)
theorem ok_flow_Next : EntOK Go.Proofs.Tryz.prog 74 e_flow_Next := entG_ok (tb := tb_flow_Next) (c := c_flow_Next) tk_flow_Next (by kernel_rfl) (by kernel_rfl) (by kernel_rfl) (fun a => by kernel_rfl) fun ⟨t, i, _⟩ hk => evF_goes (c := c_flow_Next) (K := fun v => (R_flow_Next v, tps (toForms sg_flow_Next (t, i, ())))) (S := S_flow_Next t i) (by kernel_rfl) (en_flow_Next t i) (lp_flow_Next t i) (g_flow_Next t i hk)
end
end Go.Ev
end

section
set_option linter.unusedSectionVars false
set_option linter.unusedVariables false
set_option linter.unusedSimpArgs false
set_option maxRecDepth 100000
set_option linter.unusedVariables false
open Go Go.Ev
namespace Go.Ev
noncomputable section
/-! ### (*paling/bits.Set).List -/
def sg_bits_Set_List_t : PSig := [.obj 102 [(.d (.int .i64)), (.m (.int .i64) (.int .u64))]]
noncomputable def t_bits_Set_List_t : Tbl := []
noncomputable def c_bits_Set_List_t : Code := match Go.Proofs.Tryz.f46.body with
  | some (.seq _ (.seq _ (.seq _ (.seq _ (.seq _ d))))) => d
  | _ => .skip
def tb_bits_Set_List_t : Tb := [(2, ⟨[0, 4, 26, 27, 28], [(5, 74)]⟩), (8, ⟨[0, 4, 7, 8, 26, 27, 28], [(5, 74)]⟩)]
inductive J_bits_Set_List_t where
  | l2 (h : Int) (h1 : List Int) (h2 : Int) (out : List Int)
  | l8 (k : Int) (h : Int) (h1 : List Int) (i : Int) (out : List Int) (h2 : Int)
def T_bits_Set_List_t (s : Int × List (Int × Int)) (places : List Int) : J_bits_Set_List_t → JT J_bits_Set_List_t ((List Int) × Int × List (Int × Int))
  | .l2 h h1 h2 out =>
    .br (decide (h2 < h))
      (.br ((decide ((0 : Int) ≤ h2)) && (decide (h2 < (Int.ofNat (List.length h1)))))
        (.jmp (.l8 (List.getD h1 (Int.toNat h2) (dflt (.int .i64))) h h1 (0 : Int) out h2))
      (.no))
    (.leaf (out, s))
  | .l8 k h h1 i out h2 =>
    .br (decide (i < (64 : Int)))
      (.br (decide ((IntKind.u64.wrap i) < (0 : Int)))
        (.no)
      (.br ((bitAnd IntKind.u64 (Int.fdiv (Option.getD (mget (kt := (.int .i64)) k s.2) (0 : Int)) (2 ^ (min (Int.toNat (IntKind.u64.wrap i)) (IntKind.u64).bits))) (1 : Int)) == (1 : Int))
        (.br (Nat.ble (((List.length out) + 1) * 8) limit)
          (.jmp (.l8 k h h1 (IntKind.i64.wrap (i + (1 : Int))) (out ++ [(IntKind.i64.wrap ((IntKind.i64.wrap (k * (64 : Int))) + i))]) h2))
        (.no))
      (.jmp (.l8 k h h1 (IntKind.i64.wrap (i + (1 : Int))) out h2))))
    (.jmp (.l2 h h1 (IntKind.i64.wrap (h2 + (1 : Int))) out))
def T0_bits_Set_List_t (s : Int × List (Int × Int)) (places : List Int) : JT J_bits_Set_List_t ((List Int) × Int × List (Int × Int)) :=
  .jmp (.l2 (Int.ofNat (List.length places)) places (0 : Int) [])
def K_bits_Set_List_t : (List Int) × Int × List (Int × Int) → Ans := fun (r : (List Int) × Int × List (Int × Int)) => (.rw 3 (.int .i64) r.1, [.bx 102 [.d (.int .i64) r.2.1, .mv (.int .i64) (.int .u64) r.2.2]])
def S_bits_Set_List_t (s : Int × List (Int × Int)) (places : List Int) : J_bits_Set_List_t → Nat × St
  | .l2 h h1 h2 out => (2, ⟨mkTm 56 [(0, .pt 1 0 0), (4, .own 5 0 none), (26, .own 27 0 none), (27, .d (.int .i64) h), (28, .d (.int .i64) h2)], [(1, 0, .box 102 [.d (.int .i64) s.1, .mp 1026 0] (some 0)), (5, 0, .row 3 (.int .i64) out false), (27, 0, .row 3 (.int .i64) h1 false), (1026, 0, .map (.int .i64) (.int .u64) s.2)]⟩)
  | .l8 k h h1 i out h2 => (8, ⟨mkTm 56 [(0, .pt 1 0 0), (4, .own 5 0 none), (7, .d (.int .i64) k), (8, .d (.int .i64) i), (26, .own 27 0 none), (27, .d (.int .i64) h), (28, .d (.int .i64) h2)], [(1, 0, .box 102 [.d (.int .i64) s.1, .mp 1026 0] (some 0)), (5, 0, .row 3 (.int .i64) out false), (27, 0, .row 3 (.int .i64) h1 false), (1026, 0, .map (.int .i64) (.int .u64) s.2)]⟩)
def S0_bits_Set_List_t (s : Int × List (Int × Int)) (places : List Int) : St := ⟨mkTm 56 [(0, .pt 1 0 0), (3, .own 4 0 none), (4, .nil)], [(1, 0, .box 102 [.d (.int .i64) s.1, .mp 1026 0] (some 0)), (4, 0, .row 3 (.int .i64) places false), (1026, 0, .map (.int .i64) (.int .u64) s.2)]⟩
theorem en_bits_Set_List_t (s : Int × List (Int × Int)) (places : List Int) (L : Lt) : evC Go.Proofs.Tryz.prog (clOf t_bits_Set_List_t) tb_bits_Set_List_t L c_bits_Set_List_t 0 (finA Go.Proofs.Tryz.prog tb_bits_Set_List_t Go.Proofs.Tryz.f46 (toPs sg_bits_Set_List_t (s, ()))) (fun _ _ => none) (finA Go.Proofs.Tryz.prog tb_bits_Set_List_t Go.Proofs.Tryz.f46 (toPs sg_bits_Set_List_t (s, ()))) (S0_bits_Set_List_t s places) = (T0_bits_Set_List_t s places).run (fun v => some (K_bits_Set_List_t v)) fun j => L (S_bits_Set_List_t s places j).1 (S_bits_Set_List_t s places j).2 := by kernel_rfl
noncomputable def ps_bits_Set_List_t (s : Int × List (Int × Int)) (places : List Int) : List (Nat × (Lt → Kt)) := procs Go.Proofs.Tryz.prog (clOf t_bits_Set_List_t) tb_bits_Set_List_t c_bits_Set_List_t 0 (fun _ => (finA Go.Proofs.Tryz.prog tb_bits_Set_List_t Go.Proofs.Tryz.f46 (toPs sg_bits_Set_List_t (s, ())))) (fun _ _ _ => none) (fun _ => (finA Go.Proofs.Tryz.prog tb_bits_Set_List_t Go.Proofs.Tryz.f46 (toPs sg_bits_Set_List_t (s, ()))))
theorem lp_bits_Set_List_t (s : Int × List (Int × Int)) (places : List Int) : ∀ (L : Lt) (j : J_bits_Set_List_t), procOf (ps_bits_Set_List_t s places) (S_bits_Set_List_t s places j).1 L (S_bits_Set_List_t s places j).2 = (T_bits_Set_List_t s places j).run (fun v => some (K_bits_Set_List_t v)) fun j => L (S_bits_Set_List_t s places j).1 (S_bits_Set_List_t s places j).2
  | L, .l2 h h1 h2 out => by kernel_rfl
  | L, .l8 k h h1 i out h2 => by kernel_rfl
end
end Go.Ev
end

section
set_option linter.unusedSectionVars false
set_option linter.unusedVariables false
set_option linter.unusedSimpArgs false
set_option linter.unusedVariables false
set_option linter.unusedSimpArgs false
open Go
namespace Go.Ev
theorem g_bits_Set_List_t (s : Int × List (Int × Int)) (places : List Int) (hk : Nat.ble (places.length * 512) limit = true) : Goes (T_bits_Set_List_t s places) (T0_bits_Set_List_t s places) (listAt s.2 places, s) := by
  have hlim : places.length * 512 ≤ limit := Nat.le_of_ble_eq_true hk
  have hn : places.length < 4611686018427387904 := by unfold limit at hlim; omega
  -- within a word
  have inner : ∀ (k : Int) (j : Nat), j < places.length → ∀ (i : Nat), i ≤ 64 → ∀ (out : List Int) r, (out.length + (64 - i)) * 8 ≤ limit →
      Goes (T_bits_Set_List_t s places) (.jmp (.l2 (Int.ofNat (List.length places)) places ((j + 1 : Nat) : Int) (out ++ wordList s.2 k i (64 - i)))) r →
      Goes (T_bits_Set_List_t s places) (.jmp (.l8 k (Int.ofNat (List.length places)) places (i : Int) out (j : Int))) r := by
    intro k j hj
    refine down ?_ fun i hi ih => ?_
    · intro out r _ h
      rw [goes_jmp]
      have e : decide (((64 : Nat) : Int) < (64 : Int)) = false := by decide
      simp only [T_bits_Set_List_t, goes_br, e, Bool.false_eq_true, if_false, wrap_succ (k := j) (by omega)]
      simpa [wordList] using h
    · intro out r hl h
      rw [goes_jmp]
      have e : decide ((i : Int) < (64 : Int)) = true := decide_eq_true (by omega)
      have hw := wrapU_small hi
      have e2 : decide ((i : Int) < (0 : Int)) = false := decide_eq_false (by omega)
      have hcons : wordList s.2 k i (64 - i) = (if bitE (wordAt s.2 k) (i : Nat) then [numE k (i : Nat)] else []) ++ wordList s.2 k (i + 1) (64 - (i + 1)) := by
        unfold wordList
        rw [show 64 - i = (64 - (i + 1)) + 1 by omega, List.range'_succ, List.filter_cons]
        split <;> simp
      rw [hcons] at h
      have hb : ((bitAnd IntKind.u64 (Int.fdiv (Option.getD (mget (kt := (.int .i64)) k s.2) (0 : Int)) (2 ^ (min (Int.toNat (IntKind.u64.wrap (i : Int))) (IntKind.u64).bits))) (1 : Int)) == (1 : Int)) = bitE (wordAt s.2 k) (i : Nat) := rfl
      unfold T_bits_Set_List_t
      rw [goes_br, if_pos e, goes_br, if_neg (by rw [hw, e2]; decide), goes_br, hb, wrap_succ (k := i) (by omega)]
      by_cases hbit : bitE (wordAt s.2 k) (i : Nat) = true
      · rw [if_pos hbit]
        rw [if_pos hbit] at h
        rw [goes_br, if_pos (Nat.ble_eq_true_of_le (by omega))]
        refine ih (out ++ [numE k (i : Nat)]) r (by simp; omega) ?_
        simpa using h
      · rw [if_neg hbit]
        rw [if_neg hbit, List.nil_append] at h
        exact ih out r (by omega) h
  have outer : ∀ j, j ≤ places.length → ∀ out : List Int, (out.length + (places.length - j) * 64) * 8 ≤ limit →
      Goes (T_bits_Set_List_t s places) (.jmp (.l2 (Int.ofNat (List.length places)) places (j : Int) out)) (out ++ listAt s.2 (places.drop j), s) := by
    refine down ?_ fun j hj ih => ?_
    · intro out _
      rw [goes_jmp]
      simp only [T_bits_Set_List_t, goes_br, lt_len_not (Nat.lt_irrefl _), List.drop_length, Bool.false_eq_true, if_false]
      rw [show out ++ listAt s.2 [] = out by simp [listAt]]
      exact .leaf
    · intro out hl
      rw [goes_jmp, drop_cons hj]
      simp only [T_bits_Set_List_t, goes_br, lt_len hj, nng, Bool.and_self, if_true, Int.toNat_natCast, getD_lt hj]
      have hwl := wordList_length s.2 places[j] 0 64
      refine inner places[j] j hj 0 (by omega) out _ (by omega) ?_
      have := ih (out ++ wordList s.2 places[j] 0 64) (by rw [List.length_append]; omega)
      rw [show out ++ listAt s.2 (places[j] :: places.drop (j + 1)) = (out ++ wordList s.2 places[j] 0 64) ++ listAt s.2 (places.drop (j + 1)) by simp only [listAt, List.flatMap_cons, List.append_assoc]]
      exact this
  have := outer 0 (Nat.zero_le _) [] (by simp; omega)
  simpa [T0_bits_Set_List_t] using this
end Go.Ev
end

section
set_option linter.unusedSectionVars false
set_option linter.unusedVariables false
set_option linter.unusedSimpArgs false
set_option maxRecDepth 100000
set_option linter.unusedVariables false
open Go Go.Ev
namespace Go.Ev
/-! ### slices.Sort of numbers: by the library's contract -/
def renSort : Go.Shelf.Ren := ⟨fun n => if n = 189 then 71 else if n = 125 then 93 else if n = 257 then 92 else if n = 128 then 124 else if n = 129 then 125 else if n = 294 then 115 else if n = 295 then 116 else if n = 296 then 117 else if n = 297 then 118 else if n = 298 then 119 else if n = 299 then 120 else if n = 216 then 121 else if n = 300 then 122 else if n = 301 then 123 else if n = 328 then 135 else if n = 329 then 136 else if n = 330 then 137 else if n = 331 then 138 else if n = 332 then 139 else if n = 215 then 140 else if n = 343 then 146 else n,
  fun n => if n = 28 then 37 else if n = 46 then 105 else if n = 51 then 144 else if n = 53 then 104 else if n = 183 then 137 else if n = 182 then 136 else if n = 131 then 132 else if n = 218 then 164 else if n = 222 then 168 else if n = 228 then 171 else if n = 229 then 149 else n,
  fun n => n⟩
theorem renSort_lays : Go.Proofs.Lays.n189 Go.Proofs.Tryz.prog renSort where
  mixed := by kernel_rfl
  f125 := by kernel_rfl
  f128 := by kernel_rfl
  f129 := by kernel_rfl
  f189 := by kernel_rfl
  f215 := by kernel_rfl
  f216 := by kernel_rfl
  f257 := by kernel_rfl
  f294 := by kernel_rfl
  f295 := by kernel_rfl
  f296 := by kernel_rfl
  f297 := by kernel_rfl
  f298 := by kernel_rfl
  f299 := by kernel_rfl
  f300 := by kernel_rfl
  f301 := by kernel_rfl
  f328 := by kernel_rfl
  f329 := by kernel_rfl
  f330 := by kernel_rfl
  f331 := by kernel_rfl
  f332 := by kernel_rfl
  f343 := by kernel_rfl
  t0 := by kernel_rfl
  a0 := fun w => by kernel_rfl
  z0 := fun w => by kernel_rfl
  v0 := fun w => by kernel_rfl
  t3 := by kernel_rfl
  a3 := fun w => by kernel_rfl
  z3 := fun w => by kernel_rfl
  v3 := fun w => by kernel_rfl
  t4 := by kernel_rfl
  a4 := fun w => by kernel_rfl
  z4 := fun w => by kernel_rfl
  v4 := fun w => by kernel_rfl
  t5 := by kernel_rfl
  a5 := fun w => by kernel_rfl
  z5 := fun w => by kernel_rfl
  v5 := fun w => by kernel_rfl
  t9 := by kernel_rfl
  a9 := fun w => by kernel_rfl
  z9 := fun w => by kernel_rfl
  v9 := fun w => by kernel_rfl
  t28 := by kernel_rfl
  a28 := fun w => by kernel_rfl
  z28 := fun w => by kernel_rfl
  v28 := fun w => by kernel_rfl
  t46 := by kernel_rfl
  a46 := fun w => by kernel_rfl
  z46 := fun w => by kernel_rfl
  v46 := fun w => by kernel_rfl
  t51 := by kernel_rfl
  a51 := fun w => by kernel_rfl
  z51 := fun w => by kernel_rfl
  v51 := fun w => by kernel_rfl
  t53 := by kernel_rfl
  a53 := fun w => by kernel_rfl
  z53 := fun w => by kernel_rfl
  v53 := fun w => by kernel_rfl
  t131 := by kernel_rfl
  a131 := fun w => by kernel_rfl
  z131 := fun w => by kernel_rfl
  v131 := fun w => by kernel_rfl
  t182 := by kernel_rfl
  a182 := fun w => by kernel_rfl
  z182 := fun w => by kernel_rfl
  v182 := fun w => by kernel_rfl
  t183 := by kernel_rfl
  a183 := fun w => by kernel_rfl
  z183 := fun w => by kernel_rfl
  v183 := fun w => by kernel_rfl
  t218 := by kernel_rfl
  a218 := fun w => by kernel_rfl
  z218 := fun w => by kernel_rfl
  v218 := fun w => by kernel_rfl
  t222 := by kernel_rfl
  a222 := fun w => by kernel_rfl
  z222 := fun w => by kernel_rfl
  v222 := fun w => by kernel_rfl
  t228 := by kernel_rfl
  a228 := fun w => by kernel_rfl
  z228 := fun w => by kernel_rfl
  v228 := fun w => by kernel_rfl
  t229 := by kernel_rfl
  a229 := fun w => by kernel_rfl
  z229 := fun w => by kernel_rfl
  v229 := fun w => by kernel_rfl

theorem sortOK : SortOK Go.Proofs.Tryz.prog 71 := ⟨fun blk off cap zs w h1 h2 h3 => Go.Proofs.Any.slices_Sort_int renSort_lays blk off cap zs w h1 h2 h3, fun p cap w => Go.Proofs.Any.slices_Sort_int_none renSort_lays p cap w⟩
end Go.Ev
end

section
set_option linter.unusedSectionVars false
set_option linter.unusedVariables false
set_option linter.unusedSimpArgs false
set_option maxRecDepth 100000
set_option linter.unusedVariables false
open Go Go.Ev
namespace Go.Ev
/-! ### (*bits.Set).List: by hand: the keys in whatever order, sorted -/
def sg_bits_Set_List : PSig := [.obj 102 [(.d (.int .i64)), (.m (.int .i64) (.int .u64))]]
def v_bits_Set_List (s : Int × List (Int × Int)) : (List Int) × Int × List (Int × Int) := (listS s, s)
def k_bits_Set_List (s : Int × List (Int × Int)) : Bool := Nat.ble (s.2.length * 512) limit
def K_bits_Set_List : (List Int) × Int × List (Int × Int) → Ans := K_bits_Set_List_t

section
abbrev SetL := List (El (.int .i64) × El (.int .u64))
noncomputable def setListBody : Code := Go.Proofs.Tryz.f46.body.getD .skip
noncomputable def setListR : Code := fstC (sndC (sndC (sndC setListBody)))
noncomputable def setListX : RangeText := rangeText (sndC setListR)
noncomputable def setListSort : Code := fstC (sndC (sndC (sndC (sndC setListBody))))
def setLab1 : Lab := ⟨[0, 3, 4], []⟩
def setLab2 : Lab := ⟨[0, 3, 4, 15], [(4, 74)]⟩
def setObs (s : Int × SetL) (ps : List (El (.int .i64))) : List (Id × Nat × Obj) := [(1, 0, .box 102 [.d (.int .i64) s.1, .mp 1026 0] (some 0)), (4, 0, .row 3 (.int .i64) ps false), (1026, 0, .gone (some 1000))]
def setK (s : Int × SetL) (v : Value) (ps : List (El (.int .i64))) : St := ⟨mkTm 56 [(0, .pt 1 0 0), (3, .own 4 0 none), (4, .nil), (15, .cst v)], setObs s ps⟩
def setI (s : Int × SetL) (v : Value) (done : SetL) : St := setK s v (done.map Prod.fst)
def setT (s : Int × SetL) (v : Value) (done : SetL) (e : El (.int .i64) × El (.int .u64)) : St := ((setI s v done).put (some 16) (.tu [mkB true, .d (.int .i64) e.1, .d (.int .u64) e.2])).put (some 17) (mkB true)
def setU (s : Int × SetL) (v : Value) (done : SetL) (e : El (.int .i64) × El (.int .u64)) : St := (((setT s v done e).put (some 18) (.tu [.d (.int .i64) e.1, .d (.int .u64) e.2])).put (some 19) (.d (.int .i64) e.1)).put (some 5) (.d (.int .i64) e.1)
def setE (s : Int × SetL) (v : Value) (done : SetL) : St := ((setI s v done).put (some 16) (.tu [mkB false])).put (some 17) (mkB false)
/-- ahead of the range: after the first parts; with the map at hand -/
def setA (s : Int × SetL) : St := ⟨mkTm 56 [(0, .pt 1 0 0)], [(1, 0, .box 102 [.d (.int .i64) s.1, .mp 1026 0] (some 0)), (1026, 0, .map (.int .i64) (.int .u64) s.2)]⟩
def setC (s : Int × SetL) : St := ⟨mkTm 56 [(0, .pt 1 0 0), (3, .nil), (4, .nil)], [(1, 0, .box 102 [.d (.int .i64) s.1, .mp 1026 0] (some 0)), (1026, 0, .map (.int .i64) (.int .u64) s.2)]⟩
def setM (s : Int × SetL) : St := ((((setC s).put (some 11) (.pt 1 0 0)).put (some 12) (.pt 1 0 0)).put (some 13) (.pt 1 0 1)).put (some 14) (.mp 1026 0)

theorem setListX_ok : setListX.OK := ⟨by kernel_rfl, by kernel_rfl, by kernel_rfl, by kernel_rfl, by kernel_rfl, by kernel_rfl, by kernel_rfl, by kernel_rfl, by kernel_rfl⟩
theorem setList_round (s : Int × SetL) (v : Value) (done : SetL) (e : El (.int .i64) × El (.int .u64)) (L : Lt) (k : Kt) (x : Nat → Kt) (r : Kt) :
    evC Go.Proofs.Tryz.prog (clOf []) [] L setListX.cr 0 (fun t => k (norm Go.Proofs.Tryz.prog setLab2 t)) x r (setU s v done e) = bif Nat.ble (((done.map Prod.fst).length + 1) * 8) limit then k (setK s v (done.map Prod.fst ++ [e.1])) else none := by kernel_rfl
theorem setList_ev (s : Int × SetL) (hk : k_bits_Set_List s = true) : RangeEv Go.Proofs.Tryz.prog (clOf []) setListX s.2 setLab2 1026 1000 (setI s) (setE s) (setT s) (setU s) where
  it := fun v done => by kernel_rfl
  r1 := fun v done e k => by kernel_rfl
  rt := fun v done e => by kernel_rfl
  re := fun v done e => by kernel_rfl
  r2 := fun v done e k => by kernel_rfl
  r3 := fun v done e rest hp L k x r => by
    have hl := hp.length_eq
    simp only [List.length_append, List.length_cons] at hl
    have hlim : s.2.length * 512 ≤ limit := Nat.le_of_ble_eq_true hk
    rw [setList_round, List.length_map, Nat.ble_eq_true_of_le (by omega), cond_true]
    unfold setI
    rw [List.map_append]
    rfl
  f1 := fun v done k => by kernel_rfl
  ft := fun v done => by kernel_rfl
theorem setList_body : setListBody = .seq (fstC setListBody) (.seq (fstC (sndC setListBody)) (.seq (fstC (sndC (sndC setListBody))) (.seq (.seq (.region (ridC (fstC setListR)) (ropsC (fstC setListR)) false) setListX.code) (.seq (.region (ridC setListSort) (ropsC setListSort) false) c_bits_Set_List_t)))) := by kernel_rfl
theorem setList_a (s : Int × SetL) (L : Lt) (k : Kt) (x : Nat → Kt) (r : Kt) : evC Go.Proofs.Tryz.prog (clOf []) [] L (fstC setListBody) 0 (fun t => k (norm Go.Proofs.Tryz.prog setLab1 t)) x r (setA s) = k (setA s) := by kernel_rfl
theorem setList_b (s : Int × SetL) (L : Lt) (k : Kt) (x : Nat → Kt) (r : Kt) : evC Go.Proofs.Tryz.prog (clOf []) [] L (fstC (sndC setListBody)) 0 (fun t => k (norm Go.Proofs.Tryz.prog setLab1 t)) x r (setA s) = k (setA s) := by kernel_rfl
theorem setList_c (s : Int × SetL) (L : Lt) (k : Kt) (x : Nat → Kt) (r : Kt) : evC Go.Proofs.Tryz.prog (clOf []) [] L (fstC (sndC (sndC setListBody))) 0 (fun t => k (norm Go.Proofs.Tryz.prog setLab1 t)) x r (setA s) = k (setC s) := by kernel_rfl
def mapKV (P : Program) (T : TypeId) : TypeId × TypeId := match P.underlying T with | some (.map K V) => (K, V) | _ => (0, 0)

theorem callOK_bits_Set_List (s : Int × SetL) (hk : k_bits_Set_List s = true) : CallOK Go.Proofs.Tryz.prog 46 (toPs sg_bits_Set_List (s, ())) (K_bits_Set_List (v_bits_Set_List s)) := by
  obtain ⟨hcl, hdet⟩ := clOf_ok (P := Go.Proofs.Tryz.prog) tbl_nil
  have hlim : s.2.length * 512 ≤ limit := Nat.le_of_ble_eq_true hk
  refine callOK_of_wp (tb := tb_bits_Set_List_t) (fn := Go.Proofs.Tryz.f46) (c := setListBody) (vs := [.pt 1 0 0]) (st := ⟨[], [(1, 0, .box 102 [.d (.int .i64) s.1, .mp 1026 0] (some 0)), (1026, 0, .map (.int .i64) (.int .u64) s.2)]⟩) (by kernel_rfl) (by kernel_rfl) (by kernel_rfl) ?_
  intro _ Mod F0 w0 a w hr
  have hr : Rel Mod F0 w0 (setA s) a w := hr
  rw [setList_body]
  refine wp_seq (piece hcl hdet (norm Go.Proofs.Tryz.prog setLab1) (fun h => norm_rel h) (setList_a s) hr fun a w hr => ?_)
  refine wp_seq (piece hcl hdet (norm Go.Proofs.Tryz.prog setLab1) (fun h => norm_rel h) (setList_b s) hr fun a w hr => ?_)
  refine wp_seq (piece hcl hdet (norm Go.Proofs.Tryz.prog setLab1) (fun h => norm_rel h) (setList_c s) hr fun a w hr => ?_)
  -- the range
  refine wp_seq (wp_seq (wp_region ?_))
  rw [show List.range (ropsC (fstC setListR)).size = [0, 1, 2, 3, 4] from by kernel_rfl]
  refine evOp hcl (o := opC (fstC setListR) 0) (st1 := (setC s).put (some 11) (.pt 1 0 0)) (by kernel_rfl) (by kernel_rfl) (fun k => by kernel_rfl) hr fun a w hr => ?_
  refine evOp hcl (o := opC (fstC setListR) 1) (st1 := ((setC s).put (some 11) (.pt 1 0 0)).put (some 12) (.pt 1 0 0)) (by kernel_rfl) (by kernel_rfl) (fun k => by kernel_rfl) hr fun a w hr => ?_
  refine evOp hcl (o := opC (fstC setListR) 2) (st1 := (((setC s).put (some 11) (.pt 1 0 0)).put (some 12) (.pt 1 0 0)).put (some 13) (.pt 1 0 1)) (by kernel_rfl) (by kernel_rfl) (fun k => by kernel_rfl) hr fun a w hr => ?_
  refine evOp hcl (o := opC (fstC setListR) 3) (st1 := setM s) (by kernel_rfl) (by kernel_rfl) (fun k => by kernel_rfl) hr fun a w hr => ?_
  refine handOp (o := opC (fstC setListR) 4) (by kernel_rfl) (by kernel_rfl) ?_
  refine rangeLoop (tm := 14) (idm0 := 1026) (ver0 := 0) (T := (match (opC (fstC setListR) 4).op with | .range T _ => T | _ => 0)) (K := (mapKV Go.Proofs.Tryz.prog (match (opC (fstC setListR) 4).op with | .range T _ => T | _ => 0)).1) (V := (mapKV Go.Proofs.Tryz.prog (match (opC (fstC setListR) 4).op with | .range T _ => T | _ => 0)).2)
    hcl hdet setListX_ok rfl rfl (setList_ev s hk) (by kernel_rfl) (by kernel_rfl) (by kernel_rfl) (by kernel_rfl) (by kernel_rfl) (by kernel_rfl) (fun v => by kernel_rfl) (fun v done => by kernel_rfl) (fun v done => by kernel_rfl) hr ?_
  intro v done a w hperm hr
  -- the sort
  have hr : Rel Mod F0 w0 (S0_bits_Set_List_t s (done.map Prod.fst)) a w := norm_rel (P := Go.Proofs.Tryz.prog) (lab := setLab1) hr
  refine wp_seq (wp_region ?_)
  rw [show List.range (ropsC setListSort).size = [0, 1] from by kernel_rfl]
  refine evOp hcl (o := opC setListSort 0) (st1 := (S0_bits_Set_List_t s (done.map Prod.fst)).put (some 24) (.own 4 0 none)) (by kernel_rfl) (by kernel_rfl) (fun k => by kernel_rfl) hr fun a w hr => ?_
  refine handOp (o := opC setListSort 1) (by kernel_rfl) (by kernel_rfl) ?_
  refine sortStep (ts := 24) (id := 4) (ver := 0) (E := 3) (l := done.map Prod.fst) (c := (match (opC setListSort 1).op with | .call c => c | _ => default)) (fn := Go.Proofs.Tryz.f71) (body := Go.Proofs.Tryz.f71.body.getD .skip) (by kernel_rfl) (by kernel_rfl) (by kernel_rfl) (by kernel_rfl) (by kernel_rfl) (by kernel_rfl) (by kernel_rfl) (by kernel_rfl) sortOK (by
    rw [List.length_map, hperm.length_eq]
    unfold limit at hlim
    omega) hr fun a w hr => ?_
  have hr : Rel Mod F0 w0 (S0_bits_Set_List_t s (sorted (done.map Prod.fst))) a w := norm_rel (P := Go.Proofs.Tryz.prog) (lab := setLab1) hr
  rw [sorted_perm (hperm.map Prod.fst)] at hr
  have hg := g_bits_Set_List_t s (sorted (s.2.map Prod.fst)) (by rw [List.length_mergeSort, List.length_map]; exact hk)
  exact tailStep hcl hdet (ps := ps_bits_Set_List_t s (sorted (s.2.map Prod.fst))) rfl (by kernel_rfl) (en_bits_Set_List_t s _) (lp_bits_Set_List_t s _) hg hr
end
noncomputable def e_bits_Set_List : Run := entO sg_bits_Set_List K_bits_Set_List (fun a => k_bits_Set_List a.1) (fun a => v_bits_Set_List a.1)
theorem ok_bits_Set_List : EntOK Go.Proofs.Tryz.prog 46 e_bits_Set_List := entO_hand (noRun_ok (known_of (fn := Go.Proofs.Tryz.f46) (c := setListBody) (by kernel_rfl) (by kernel_rfl) (by kernel_rfl))) fun a h => callOK_bits_Set_List a.1 h
end Go.Ev
end

section
set_option linter.unusedSectionVars false
set_option linter.unusedVariables false
set_option linter.unusedSimpArgs false
set_option maxRecDepth 100000
set_option linter.unusedVariables false
open Go Go.Ev
namespace Go.Ev
noncomputable section
/-! ### paling/flow.From -/
def sg_flow_From : Sig := [(true, (.sl T_api_Ins)), (false, (.int .i64))]
noncomputable def t_flow_From : Tbl := [(42, e_bits_New), (74, e_flow_Next), (44, e_bits_Set_Put), (46, e_bits_Set_List)]
theorem tk_flow_From : ∀ p ∈ t_flow_From, EntOK Go.Proofs.Tryz.prog p.1 p.2 := tbl_cons ok_bits_New (tbl_cons ok_flow_Next (tbl_cons ok_bits_Set_Put (tbl_cons ok_bits_Set_List (tbl_nil))))
noncomputable def c_flow_From : Code := Go.Proofs.Tryz.f51.body.getD .skip
def tb_flow_From : Tb := [(4, ⟨[2, 5, 6], [(1000000000000000000000000000000000000000000000000000000000007, 1)]⟩)]
inductive J_flow_From where
  | l4 (len : Nat) (seen : Int) (open_ : List Int) (seen1 : List (Int × Int))
def T_flow_From (t : List (El T_api_Ins)) (i : Int) : J_flow_From → JT J_flow_From (List Int)
  | .l4 len seen open_ seen1 =>
    .br (decide ((Int.ofNat len) > (0 : Int)))
      (.br ((decide ((0 : Int) ≤ (IntKind.i64.wrap ((Int.ofNat len) - (1 : Int))))) && (decide ((IntKind.i64.wrap ((Int.ofNat len) - (1 : Int))) < (Int.ofNat len))))
        (.br ((decide ((0 : Int) ≤ (IntKind.i64.wrap ((Int.ofNat len) - (1 : Int))))) && (decide ((IntKind.i64.wrap ((Int.ofNat len) - (1 : Int))) ≤ (Int.ofNat len))))
          (.br (v_bits_Set_Put (seen, seen1) (List.getD open_ (Int.toNat (IntKind.i64.wrap ((Int.ofNat len) - (1 : Int)))) (dflt (.int .i64)))).1
            (.br (k_flow_Next t (List.getD open_ (Int.toNat (IntKind.i64.wrap ((Int.ofNat len) - (1 : Int)))) (dflt (.int .i64))))
              (.br (Nat.ble (((List.length (List.take (Int.toNat (IntKind.i64.wrap ((Int.ofNat len) - (1 : Int)))) open_)) + (List.length (v_flow_Next t (List.getD open_ (Int.toNat (IntKind.i64.wrap ((Int.ofNat len) - (1 : Int)))) (dflt (.int .i64)))))) * 8) limit)
                (.jmp (.l4 (List.length ((List.take (Int.toNat (IntKind.i64.wrap ((Int.ofNat len) - (1 : Int)))) open_) ++ (v_flow_Next t (List.getD open_ (Int.toNat (IntKind.i64.wrap ((Int.ofNat len) - (1 : Int)))) (dflt (.int .i64)))))) (v_bits_Set_Put (seen, seen1) (List.getD open_ (Int.toNat (IntKind.i64.wrap ((Int.ofNat len) - (1 : Int)))) (dflt (.int .i64)))).2.1 ((List.take (Int.toNat (IntKind.i64.wrap ((Int.ofNat len) - (1 : Int)))) open_) ++ (v_flow_Next t (List.getD open_ (Int.toNat (IntKind.i64.wrap ((Int.ofNat len) - (1 : Int)))) (dflt (.int .i64))))) (v_bits_Set_Put (seen, seen1) (List.getD open_ (Int.toNat (IntKind.i64.wrap ((Int.ofNat len) - (1 : Int)))) (dflt (.int .i64)))).2.2))
              (.no))
            (.no))
          (.jmp (.l4 (Int.toNat (IntKind.i64.wrap ((Int.ofNat len) - (1 : Int)))) (v_bits_Set_Put (seen, seen1) (List.getD open_ (Int.toNat (IntKind.i64.wrap ((Int.ofNat len) - (1 : Int)))) (dflt (.int .i64)))).2.1 open_ (v_bits_Set_Put (seen, seen1) (List.getD open_ (Int.toNat (IntKind.i64.wrap ((Int.ofNat len) - (1 : Int)))) (dflt (.int .i64)))).2.2)))
        (.no))
      (.no))
    (.br (k_bits_Set_List (seen, seen1))
      (.leaf (v_bits_Set_List (seen, seen1)).1)
    (.no))
def T0_flow_From (t : List (El T_api_Ins)) (i : Int) : JT J_flow_From (List Int) :=
  .br (k_flow_Next t i)
    (.jmp (.l4 (List.length (v_flow_Next t i)) (v_bits_New (Int.ofNat (List.length t))).1 (v_flow_Next t i) (v_bits_New (Int.ofNat (List.length t))).2))
  (.no)
def R_flow_From : List Int → AV := fun (r : List Int) => .rw 3 (.int .i64) r
def S_flow_From (t : List (El T_api_Ins)) (i : Int) : J_flow_From → Nat × St
  | .l4 len seen open_ seen1 => (4, ⟨mkTm 39 [(2, .pt 3 0 0), (5, .pt 6 0 0), (6, .own 7 0 (some len))], [(3, 0, .box 48 [.d (.sl T_api_Ins) t] none), (6, 0, .box 102 [.d (.int .i64) seen, .mp 6146 0] none), (7, 0, .row 3 (.int .i64) open_ false), (6146, 0, .map (.int .i64) (.int .u64) seen1)]⟩)
theorem en_flow_From (t : List (El T_api_Ins)) (i : Int) (L : Lt) : entryA Go.Proofs.Tryz.prog (clOf t_flow_From) tb_flow_From Go.Proofs.Tryz.f51 c_flow_From L (toForms sg_flow_From (t, i, ())) = (T0_flow_From t i).run (fun v => some (R_flow_From v, tps (toForms sg_flow_From (t, i, ())))) fun j => L (S_flow_From t i j).1 (S_flow_From t i j).2 := by kernel_rfl
theorem lp_flow_From (t : List (El T_api_Ins)) (i : Int) : ∀ (L : Lt) (j : J_flow_From), procOf (procsF Go.Proofs.Tryz.prog (clOf t_flow_From) tb_flow_From Go.Proofs.Tryz.f51 c_flow_From (toForms sg_flow_From (t, i, ()))) (S_flow_From t i j).1 L (S_flow_From t i j).2 = (T_flow_From t i j).run (fun v => some (R_flow_From v, tps (toForms sg_flow_From (t, i, ())))) fun j => L (S_flow_From t i j).1 (S_flow_From t i j).2
  | L, .l4 len seen open_ seen1 => by kernel_rfl
end
end Go.Ev
end

section
set_option linter.unusedSectionVars false
set_option linter.unusedVariables false
set_option linter.unusedSimpArgs false
set_option maxRecDepth 100000
set_option linter.unusedVariables false
set_option linter.unusedSimpArgs false
open Go
namespace Go.Ev
noncomputable def v_flow_From (t : List (El T_api_Ins)) (i : Int) : List Int := listOf t.length (fromB t i)
def k_flow_From (t : List (El T_api_Ins)) (i : Int) : Bool := flowOK t
theorem next_short (t : List (El T_api_Ins)) (i : Int) : (v_flow_Next t i).length ≤ 3 := by
  unfold v_flow_Next
  by_cases h : 0 ≤ i ∧ i < (t.length : Int)
  · obtain ⟨j, rfl⟩ := Int.eq_ofNat_of_zero_le h.1
    rw [← nextL_eq (by omega)]
    unfold nextL
    simp only [List.length_append]
    split <;> split <;> split <;> simp
  · rw [nextB_out h]; simp
theorem take_pred {l : List Int} {n : Nat} (h : n + 1 ≤ l.length) : l.take (n + 1) = l.take n ++ [l.getD n 0] := by
  have hn : n < l.length := by omega
  rw [List.take_succ_eq_append_getElem hn, getD_lt hn]
theorem g_flow_From (t : List (El T_api_Ins)) (i : Int) (hk : k_flow_From t i = true) : Goes (T_flow_From t i) (T0_flow_From t i) (v_flow_From t i) := by
  have hlen := flowOK_len hk
  generalize hn : t.length = n at hlen
  have loop : ∀ m, ∀ (M : Nat → Bool) (s : Int × List (Int × Int)) (open_ : List Int) (len : Nat), len ≤ open_.length → 4 * (n - card n M) + len = m → SetOK s n M → (∀ j, M j = true → Come (fun k j => nextB t (k : Int) j) (nextB t i) j) →
      (∀ x ∈ open_.take len, ∃ j : Nat, x = (j : Int) ∧ Come (fun k j => nextB t (k : Int) j) (nextB t i) j) → (∀ j, nextB t i j = true → M j = true ∨ (j : Int) ∈ open_.take len) → (∀ k j, M k = true → nextB t (k : Int) j = true → M j = true ∨ (j : Int) ∈ open_.take len) →
      len ≤ 3 * (card n M + 1) → Goes (T_flow_From t i) (.jmp (.l4 len s.1 open_ s.2)) (v_flow_From t i) := by
    intro m
    induction m using Nat.strongRecOn with
    | _ m ih =>
    intro M s open_ len hl hm hs h1 h2 h3 h4 h5
    cases len with
    | zero =>
      rw [goes_jmp, T_flow_From, goes_br, if_neg (by decide)]
      have hkl : k_bits_Set_List (s.1, s.2) = true := Nat.ble_eq_true_of_le (by have := hs.few; unfold limit; show s.2.length * 512 ≤ _; omega)
      rw [goes_br, if_pos hkl]
      have hv : (v_bits_Set_List (s.1, s.2)).1 = v_flow_From t i := by
        show listS s = _
        rw [hs.list (by omega)]
        unfold v_flow_From fromB
        rw [hn]
        refine listOf_congr fun j _ => comeB_eq (fun j hj => ?_) (fun k j hk hj => ?_) h1 j
        · simpa using h3 j hj
        · simpa using h4 k j hk hj
      rw [hv]; exact .leaf
    | succ len =>
      have hc := @card_le n M
      have e : IntKind.i64.wrap (Int.ofNat (len + 1) - 1) = (len : Int) := by
        rw [wrap_i64 (by simp <;> omega) (by simp <;> omega)]; simp
      have g1 : decide (Int.ofNat (len + 1) > (0 : Int)) = true := decide_eq_true (by simp <;> omega)
      have g2 : (decide ((0 : Int) ≤ (len : Int)) && decide ((len : Int) < Int.ofNat (len + 1))) = true := bound_len (by omega)
      have g3 : (decide ((0 : Int) ≤ (len : Int)) && decide ((len : Int) ≤ Int.ofNat (len + 1))) = true := by simp; omega
      rw [goes_jmp, T_flow_From, e, goes_br, if_pos g1, goes_br, if_pos g2, goes_br, if_pos g3, goes_br, Int.toNat_natCast]
      have htk := take_pred hl
      obtain ⟨j, hj, hcj⟩ := h2 (open_.getD len 0) (by rw [htk]; simp)
      have hjn : j < n := by
        have := come_lt (n := t.length) (fun j => nextB_lt) (fun k j => nextB_lt) hcj
        omega
      have hd : open_.getD len (dflt (.int .i64)) = (j : Int) := hj
      rw [hd]
      have hput : v_bits_Set_Put (s.1, s.2) (j : Int) = putS s (j : Int) := rfl
      rw [hput]
      have sub : ∀ x, x ∈ open_.take len → x ∈ open_.take (len + 1) := fun x hx => by rw [htk]; simp [hx]
      cases hMj : M j with
      | true =>
        have hno := hs.put_no (by omega) (i := (j : Int)) (fun h => by rw [Int.toNat_natCast, hMj] at h; cases h.2.2)
        rw [hno, if_neg (by simp)]
        have lose : ∀ k : Nat, (M k = true ∨ (k : Int) ∈ open_.take (len + 1)) → (M k = true ∨ (k : Int) ∈ open_.take len) := fun k h => by
          rcases h with h | h
          · exact .inl h
          · rw [htk, List.mem_append] at h
            rcases h with h | h
            · exact .inr h
            · simp only [List.mem_singleton] at h
              rw [hj] at h
              have : k = j := by omega
              subst this
              exact .inl hMj
        exact ih (m - 1) (by omega) M s open_ len (by omega) (by omega) hs h1 (fun x hx => h2 x (sub x hx)) (fun k hk => lose k (h3 k hk)) (fun k k' hk hk' => lose k' (h4 k k' hk hk')) (by omega)
      | false =>
        obtain ⟨p1, p2⟩ := hs.put (by omega) hjn hMj
        have hsh := next_short t (j : Int)
        have hkn : k_flow_Next t (j : Int) = true := hk
        rw [p1, if_pos rfl, goes_br, if_pos hkn, goes_br, if_pos (Nat.ble_eq_true_of_le (by
          rw [List.length_take]; unfold limit; omega))]
        have hcard := card_add hMj hjn
        have hcl2 := @card_le n (fun k => M k || (k == j))
        have hnl : ∀ k : Nat, nextB t (j : Int) k = true → (k : Int) ∈ v_flow_Next t (j : Int) := fun k hk => listOf_mem.2 ⟨k, nextB_lt hk, hk, rfl⟩
        have htake : (open_.take len ++ v_flow_Next t (j : Int)).take (open_.take len ++ v_flow_Next t (j : Int)).length = open_.take len ++ v_flow_Next t (j : Int) := List.take_length
        have hlen2 : (open_.take len ++ v_flow_Next t (j : Int)).length ≤ len + 3 := by rw [List.length_append, List.length_take]; omega
        have keep : ∀ k : Nat, (M k = true ∨ (k : Int) ∈ open_.take (len + 1)) → ((M k || (k == j)) = true ∨ (k : Int) ∈ open_.take len ++ v_flow_Next t (j : Int)) := fun k h => by
          rcases h with h | h
          · exact .inl (by rw [h]; rfl)
          · rw [htk, List.mem_append] at h
            rcases h with h | h
            · exact .inr (List.mem_append_left _ h)
            · simp only [List.mem_singleton] at h
              rw [hj] at h
              have : k = j := by omega
              subst this
              exact .inl (by simp)
        refine ih _ (by omega) (fun k => M k || (k == j)) (putS s (j : Int)).2 (open_.take len ++ v_flow_Next t (j : Int)) (open_.take len ++ v_flow_Next t (j : Int)).length (Nat.le_refl _) rfl p2 (fun k hk => ?_) (fun x hx => ?_) (fun k hk => ?_) (fun k k' hk hk' => ?_) (by omega)
        · simp only [Bool.or_eq_true, beq_iff_eq] at hk
          rcases hk with hk | hk
          · exact h1 k hk
          · subst hk; exact hcj
        · rw [htake, List.mem_append] at hx
          rcases hx with hx | hx
          · exact h2 x (sub x hx)
          · obtain ⟨k, _, hk, rfl⟩ := listOf_mem.1 hx
            exact ⟨k, rfl, .step hcj hk⟩
        · rw [htake]; exact keep k (h3 k hk)
        · rw [htake]
          simp only [Bool.or_eq_true, beq_iff_eq] at hk
          rcases hk with hk | hk
          · exact keep k' (h4 k k' hk hk')
          · subst hk
            exact .inr (List.mem_append_right _ (hnl k' hk'))
  have hkn : k_flow_Next t i = true := hk
  unfold T0_flow_From
  rw [goes_br, if_pos hkn]
  have hnew : v_bits_New (Int.ofNat (List.length t)) = ((n : Int), []) := by
    rw [hn]
    unfold v_bits_New
    simp
    omega
  rw [hnew]
  refine loop _ (fun _ => false) ((n : Int), []) (v_flow_Next t i) _ (Nat.le_refl _) rfl (SetOK.new n) (fun j h => by cases h) (fun x hx => ?_) (fun j hj => .inr ?_) (fun k j h => by cases h) (by have := next_short t i; omega)
  · rw [List.take_length] at hx
    obtain ⟨k, _, hk, rfl⟩ := listOf_mem.1 hx
    exact ⟨k, rfl, .start hk⟩
  · rw [List.take_length]; exact listOf_mem.2 ⟨j, nextB_lt hj, hj, rfl⟩
end Go.Ev
end

section
set_option linter.unusedSectionVars false
set_option linter.unusedVariables false
set_option linter.unusedSimpArgs false
set_option maxRecDepth 100000
set_option linter.unusedVariables false
open Go Go.Ev
namespace Go.Ev
noncomputable section
noncomputable def e_flow_From : Run := entG sg_flow_From R_flow_From (fun a => k_flow_From a.1 a.2.1) (fun a => v_flow_From a.1 a.2.1)
theorem ok_flow_From : EntOK Go.Proofs.Tryz.prog 51 e_flow_From := entG_ok (tb := tb_flow_From) (c := c_flow_From) tk_flow_From (by kernel_rfl) (by kernel_rfl) (by kernel_rfl) (fun a => by kernel_rfl) fun ⟨t, i, _⟩ hk => evF_goes (c := c_flow_From) (K := fun v => (R_flow_From v, tps (toForms sg_flow_From (t, i, ())))) (S := S_flow_From t i) (by kernel_rfl) (en_flow_From t i) (lp_flow_From t i) (g_flow_From t i hk)
end
end Go.Ev
end

section
set_option linter.unusedSectionVars false
set_option linter.unusedVariables false
set_option linter.unusedSimpArgs false
set_option maxRecDepth 100000
set_option linter.unusedVariables false
open Go Go.Ev
namespace Go.Ev
noncomputable section
/-! ### paling/clash.behind -/
def sg_clash_behind : Sig := [(true, T_api_Prog), (false, (.sl T_api_Access)), (false, (.int .i64))]
noncomputable def t_clash_behind : Tbl := [(42, e_bits_New), (51, e_flow_From), (44, e_bits_Set_Put), (52, e_bits_Set_Has)]
theorem tk_clash_behind : ∀ p ∈ t_clash_behind, EntOK Go.Proofs.Tryz.prog p.1 p.2 := tbl_cons ok_bits_New (tbl_cons ok_flow_From (tbl_cons ok_bits_Set_Put (tbl_cons ok_bits_Set_Has (tbl_nil))))
noncomputable def c_clash_behind : Code := Go.Proofs.Tryz.f45.body.getD .skip
def tb_clash_behind : Tb := [(6, ⟨[1, 2, 7, 9, 32, 33, 34, 58, 64, 69, 70, 72, 76], []⟩), (14, ⟨[2, 7, 9, 12, 42, 43, 44], [(13, 74)]⟩)]
inductive J_clash_behind where
  | l6 (h : Int) (x : Int) (x1 : Int) (x2 : Int) (x3 : Int) (x4 : Bool) (x5 : Bool) (from_ : Int) (h1 : List Int) (from_1 : List (Int × Int)) (h2 : Int)
  | l14 (x : Int) (x1 : Int) (x2 : Int) (x3 : Int) (x4 : Bool) (x5 : Bool) (from_ : Int) (from_1 : List (Int × Int)) (h : Int) (out : List Int)
def T_clash_behind (p : El T_api_Prog) (l : List (El T_api_Access)) (c : Int) : J_clash_behind → JT J_clash_behind (List Int)
  | .l6 h x x1 x2 x3 x4 x5 from_ h1 from_1 h2 =>
    .br (decide (h2 < h))
      (.br ((decide ((0 : Int) ≤ h2)) && (decide (h2 < (Int.ofNat (List.length h1)))))
        (.jmp (.l6 h x x1 x2 x3 x4 x5 (v_bits_Set_Put (from_, from_1) (List.getD h1 (Int.toNat h2) (dflt (.int .i64)))).2.1 h1 (v_bits_Set_Put (from_, from_1) (List.getD h1 (Int.toNat h2) (dflt (.int .i64)))).2.2 (IntKind.i64.wrap (h2 + (1 : Int)))))
      (.no))
    (.jmp (.l14 x x1 x2 x3 x4 x5 from_ from_1 (0 : Int) []))
  | .l14 x x1 x2 x3 x4 x5 from_ from_1 h out =>
    .br (decide (h < (Int.ofNat (List.length l))))
      (.br ((decide ((0 : Int) ≤ h)) && (decide (h < (Int.ofNat (List.length l)))))
        (.br ((List.getD l (Int.toNat h) (dflt T_api_Access)).1 == x)
          (.br (h == c)
            (.br (Nat.ble (((List.length out) + 1) * 8) limit)
              (.jmp (.l14 x x1 x2 x3 x4 x5 from_ from_1 (IntKind.i64.wrap (h + (1 : Int))) (out ++ [h])))
            (.no))
          (.br ((List.getD l (Int.toNat h) (dflt T_api_Access)).2.1 == x1)
            (.br (decide ((List.getD l (Int.toNat h) (dflt T_api_Access)).2.2.1 > x2))
              (.br (Nat.ble (((List.length out) + 1) * 8) limit)
                (.jmp (.l14 x x1 x2 x3 x4 x5 from_ from_1 (IntKind.i64.wrap (h + (1 : Int))) (out ++ [h])))
              (.no))
            (.br (v_bits_Set_Has (from_, from_1) (List.getD l (Int.toNat h) (dflt T_api_Access)).2.1).1
              (.br (Nat.ble (((List.length out) + 1) * 8) limit)
                (.jmp (.l14 x x1 x2 x3 x4 x5 (v_bits_Set_Has (from_, from_1) (List.getD l (Int.toNat h) (dflt T_api_Access)).2.1).2.1 (v_bits_Set_Has (from_, from_1) (List.getD l (Int.toNat h) (dflt T_api_Access)).2.1).2.2 (IntKind.i64.wrap (h + (1 : Int))) (out ++ [h])))
              (.no))
            (.jmp (.l14 x x1 x2 x3 x4 x5 (v_bits_Set_Has (from_, from_1) (List.getD l (Int.toNat h) (dflt T_api_Access)).2.1).2.1 (v_bits_Set_Has (from_, from_1) (List.getD l (Int.toNat h) (dflt T_api_Access)).2.1).2.2 (IntKind.i64.wrap (h + (1 : Int))) out))))
          (.br (v_bits_Set_Has (from_, from_1) (List.getD l (Int.toNat h) (dflt T_api_Access)).2.1).1
            (.br (Nat.ble (((List.length out) + 1) * 8) limit)
              (.jmp (.l14 x x1 x2 x3 x4 x5 (v_bits_Set_Has (from_, from_1) (List.getD l (Int.toNat h) (dflt T_api_Access)).2.1).2.1 (v_bits_Set_Has (from_, from_1) (List.getD l (Int.toNat h) (dflt T_api_Access)).2.1).2.2 (IntKind.i64.wrap (h + (1 : Int))) (out ++ [h])))
            (.no))
          (.jmp (.l14 x x1 x2 x3 x4 x5 (v_bits_Set_Has (from_, from_1) (List.getD l (Int.toNat h) (dflt T_api_Access)).2.1).2.1 (v_bits_Set_Has (from_, from_1) (List.getD l (Int.toNat h) (dflt T_api_Access)).2.1).2.2 (IntKind.i64.wrap (h + (1 : Int))) out)))))
        (.jmp (.l14 x x1 x2 x3 x4 x5 from_ from_1 (IntKind.i64.wrap (h + (1 : Int))) out)))
      (.no))
    (.leaf out)
def T0_clash_behind (p : El T_api_Prog) (l : List (El T_api_Access)) (c : Int) : JT J_clash_behind (List Int) :=
  .br ((decide ((0 : Int) ≤ c)) && (decide (c < (Int.ofNat (List.length l)))))
    (.br ((decide ((0 : Int) ≤ (List.getD l (Int.toNat c) (dflt T_api_Access)).1)) && (decide ((List.getD l (Int.toNat c) (dflt T_api_Access)).1 < (Int.ofNat (List.length p.2)))))
      (.br (k_flow_From (List.getD p.2 (Int.toNat (List.getD l (Int.toNat c) (dflt T_api_Access)).1) (dflt (.sl T_api_Ins))) (List.getD l (Int.toNat c) (dflt T_api_Access)).2.1)
        (.jmp (.l6 (Int.ofNat (List.length (v_flow_From (List.getD p.2 (Int.toNat (List.getD l (Int.toNat c) (dflt T_api_Access)).1) (dflt (.sl T_api_Ins))) (List.getD l (Int.toNat c) (dflt T_api_Access)).2.1))) (List.getD l (Int.toNat c) (dflt T_api_Access)).1 (List.getD l (Int.toNat c) (dflt T_api_Access)).2.1 (List.getD l (Int.toNat c) (dflt T_api_Access)).2.2.1 (List.getD l (Int.toNat c) (dflt T_api_Access)).2.2.2.1 (List.getD l (Int.toNat c) (dflt T_api_Access)).2.2.2.2.1 (List.getD l (Int.toNat c) (dflt T_api_Access)).2.2.2.2.2 (v_bits_New (Int.ofNat (List.length (List.getD p.2 (Int.toNat (List.getD l (Int.toNat c) (dflt T_api_Access)).1) (dflt (.sl T_api_Ins)))))).1 (v_flow_From (List.getD p.2 (Int.toNat (List.getD l (Int.toNat c) (dflt T_api_Access)).1) (dflt (.sl T_api_Ins))) (List.getD l (Int.toNat c) (dflt T_api_Access)).2.1) (v_bits_New (Int.ofNat (List.length (List.getD p.2 (Int.toNat (List.getD l (Int.toNat c) (dflt T_api_Access)).1) (dflt (.sl T_api_Ins)))))).2 (0 : Int)))
      (.no))
    (.no))
  (.no)
def R_clash_behind : List Int → AV := fun (r : List Int) => .rw 3 (.int .i64) r
def S_clash_behind (p : El T_api_Prog) (l : List (El T_api_Access)) (c : Int) : J_clash_behind → Nat × St
  | .l6 h x x1 x2 x3 x4 x5 from_ h1 from_1 h2 => (6, ⟨mkTm 85 [(1, .d (.sl T_api_Access) l), (2, .d (.int .i64) c), (7, .pt 8 0 0), (9, .pt 10 0 0), (32, .own 33 0 none), (33, .d (.int .i64) h), (34, .d (.int .i64) h2)], [(8, 0, .box 43 [.d (.int .i64) x, .d (.int .i64) x1, .d (.int .i64) x2, .d (.int .i64) x3, .d .bool x4, .d .bool x5] none), (10, 0, .box 102 [.d (.int .i64) from_, .mp 10242 0] none), (33, 0, .row 3 (.int .i64) h1 false), (10242, 0, .map (.int .i64) (.int .u64) from_1)]⟩)
  | .l14 x x1 x2 x3 x4 x5 from_ from_1 h out => (14, ⟨mkTm 85 [(2, .d (.int .i64) c), (7, .pt 8 0 0), (9, .pt 10 0 0), (12, .own 13 0 none), (42, .d (.sl T_api_Access) l), (43, .d (.int .i64) (Int.ofNat (List.length l))), (44, .d (.int .i64) h)], [(8, 0, .box 43 [.d (.int .i64) x, .d (.int .i64) x1, .d (.int .i64) x2, .d (.int .i64) x3, .d .bool x4, .d .bool x5] none), (10, 0, .box 102 [.d (.int .i64) from_, .mp 10242 0] none), (13, 0, .row 3 (.int .i64) out false), (10242, 0, .map (.int .i64) (.int .u64) from_1)]⟩)
theorem en_clash_behind (p : El T_api_Prog) (l : List (El T_api_Access)) (c : Int) (L : Lt) : entryA Go.Proofs.Tryz.prog (clOf t_clash_behind) tb_clash_behind Go.Proofs.Tryz.f45 c_clash_behind L (toForms sg_clash_behind (p, l, c, ())) = (T0_clash_behind p l c).run (fun v => some (R_clash_behind v, tps (toForms sg_clash_behind (p, l, c, ())))) fun j => L (S_clash_behind p l c j).1 (S_clash_behind p l c j).2 := by kernel_rfl
theorem lp_clash_behind (p : El T_api_Prog) (l : List (El T_api_Access)) (c : Int) : ∀ (L : Lt) (j : J_clash_behind), procOf (procsF Go.Proofs.Tryz.prog (clOf t_clash_behind) tb_clash_behind Go.Proofs.Tryz.f45 c_clash_behind (toForms sg_clash_behind (p, l, c, ()))) (S_clash_behind p l c j).1 L (S_clash_behind p l c j).2 = (T_clash_behind p l c j).run (fun v => some (R_clash_behind v, tps (toForms sg_clash_behind (p, l, c, ())))) fun j => L (S_clash_behind p l c j).1 (S_clash_behind p l c j).2
  | L, .l6 h x x1 x2 x3 x4 x5 from_ h1 from_1 h2 => by kernel_rfl
  | L, .l14 x x1 x2 x3 x4 x5 from_ from_1 h out => by kernel_rfl
end
end Go.Ev
end

section
set_option linter.unusedSectionVars false
set_option linter.unusedVariables false
set_option linter.unusedSimpArgs false
set_option maxRecDepth 100000
set_option linter.unusedVariables false
set_option linter.unusedSimpArgs false
open Go
namespace Go.Ev
noncomputable def v_clash_behind (p : El T_api_Prog) (l : List (El T_api_Access)) (c : Int) : List Int := listOf l.length (behB p l c.toNat)
def k_clash_behind (p : El T_api_Prog) (l : List (El T_api_Access)) (c : Int) : Bool := decide (0 ≤ c ∧ c < (l.length : Int) ∧ l.length < 1099511627776) && (decide (0 ≤ thA l c.toNat ∧ thA l c.toNat < (p.2.length : Int)) && flowOK (thrOf p l c.toNat))
theorem g_clash_behind (p : El T_api_Prog) (l : List (El T_api_Access)) (c : Int) (hk : k_clash_behind p l c = true) : Goes (T_clash_behind p l c) (T0_clash_behind p l c) (v_clash_behind p l c) := by
  unfold k_clash_behind at hk
  simp only [Bool.and_eq_true, decide_eq_true_eq] at hk
  obtain ⟨⟨c0, c1, hN⟩, ⟨t0, t1⟩, hf⟩ := hk
  obtain ⟨c, rfl⟩ := Int.eq_ofNat_of_zero_le c0
  rw [Int.toNat_natCast] at t0 t1 hf
  have hc : c < l.length := by omega
  have htl := flowOK_len hf
  obtain ⟨t, ht⟩ : ∃ t, thrOf p l c = t := ⟨_, rfl⟩
  have hg : List.getD p.2 (Int.toNat (List.getD l c (dflt T_api_Access)).1) (dflt (.sl T_api_Ins)) = t := ht
  rw [ht] at hf htl
  have kf : k_flow_From t (List.getD l c (dflt T_api_Access)).2.1 = true := hf
  obtain ⟨L, hL⟩ : ∃ L, v_flow_From t (List.getD l c (dflt T_api_Access)).2.1 = L := ⟨_, rfl⟩
  have hLl : L.length ≤ t.length := by rw [← hL]; unfold v_flow_From; rw [listOf_length]; exact card_le
  have hmem : ∀ x, x ∈ L ↔ ∃ i : Nat, i < t.length ∧ fromB t (inA l c) i = true ∧ x = (i : Int) := fun x => by rw [← hL]; exact listOf_mem
  unfold T0_clash_behind v_clash_behind
  rw [goes_br, if_pos (bound_len hc), goes_br, Int.toNat_natCast]
  have hth : (decide ((0 : Int) ≤ (List.getD l c (dflt T_api_Access)).1) && decide ((List.getD l c (dflt T_api_Access)).1 < Int.ofNat p.2.length)) = true := by
    rw [Bool.and_eq_true, decide_eq_true_eq, decide_eq_true_eq]; exact ⟨t0, t1⟩
  rw [if_pos hth, goes_br, hg, if_pos kf, hL]
  have hnew : v_bits_New (Int.ofNat (List.length t)) = (((t.length : Nat) : Int), []) := by
    unfold v_bits_New
    simp
    omega
  rw [hnew]
  -- the second loop
  have second : ∀ (s : Int × List (Int × Int)), SetOK s t.length (fromB t (inA l c)) → ∀ h, h ≤ l.length → ∀ out : List Int, out.length ≤ h →
      Goes (T_clash_behind p l (c : Int)) (.jmp (.l14 (List.getD l c (dflt T_api_Access)).1 (List.getD l c (dflt T_api_Access)).2.1 (List.getD l c (dflt T_api_Access)).2.2.1 (List.getD l c (dflt T_api_Access)).2.2.2.1 (List.getD l c (dflt T_api_Access)).2.2.2.2.1 (List.getD l c (dflt T_api_Access)).2.2.2.2.2 s.1 s.2 (h : Int) out)) (out ++ listR l.length (behB p l c) h) := by
    intro s hs
    refine down ?_ fun h hh ih => ?_
    · intro out ho
      rw [goes_jmp, T_clash_behind, goes_br, if_neg (by rw [lt_len_not (Nat.lt_irrefl _)]; decide), listR_end, List.append_nil]
      exact .leaf
    · intro out ho
      have b1 : Nat.ble ((out.length + 1) * 8) limit = true := Nat.ble_eq_true_of_le (by unfold limit; omega)
      have hhas : v_bits_Set_Has (s.1, s.2) (inA l h) = (decide (0 ≤ inA l h) && fromB t (inA l c) (inA l h).toNat, s) := by
        show (hasS s (inA l h), s) = _
        rw [hs.has (by omega)]
      have add : behB p l c h = true → Goes (T_clash_behind p l (c : Int)) (.jmp (.l14 (List.getD l c (dflt T_api_Access)).1 (List.getD l c (dflt T_api_Access)).2.1 (List.getD l c (dflt T_api_Access)).2.2.1 (List.getD l c (dflt T_api_Access)).2.2.2.1 (List.getD l c (dflt T_api_Access)).2.2.2.2.1 (List.getD l c (dflt T_api_Access)).2.2.2.2.2 s.1 s.2 ((h + 1 : Nat) : Int) (out ++ [(h : Int)]))) (out ++ listR l.length (behB p l c) h) := fun hb => by
        rw [listR_step hh, if_pos hb]
        have := ih (out ++ [(h : Int)]) (by simp; omega)
        rwa [List.append_assoc] at this
      have skip : behB p l c h = false → Goes (T_clash_behind p l (c : Int)) (.jmp (.l14 (List.getD l c (dflt T_api_Access)).1 (List.getD l c (dflt T_api_Access)).2.1 (List.getD l c (dflt T_api_Access)).2.2.1 (List.getD l c (dflt T_api_Access)).2.2.2.1 (List.getD l c (dflt T_api_Access)).2.2.2.2.1 (List.getD l c (dflt T_api_Access)).2.2.2.2.2 s.1 s.2 ((h + 1 : Nat) : Int) out)) (out ++ listR l.length (behB p l c) h) := fun hb => by
        rw [listR_step hh, hb, if_neg (by decide)]
        exact ih out (by omega)
      have e1 : (List.getD l h (dflt T_api_Access)).1 = thA l h := rfl
      have e2 : (List.getD l h (dflt T_api_Access)).2.1 = inA l h := rfl
      have e3 : (List.getD l h (dflt T_api_Access)).2.2.1 = paA l h := rfl
      have f1 : (List.getD l c (dflt T_api_Access)).1 = thA l c := rfl
      have f2 : (List.getD l c (dflt T_api_Access)).2.1 = inA l c := rfl
      have f3 : (List.getD l c (dflt T_api_Access)).2.2.1 = paA l c := rfl
      have hbe : behB p l c h = (thA l h == thA l c && (h == c || ((inA l h == inA l c && decide (paA l h > paA l c)) || (decide (0 ≤ inA l h) && fromB t (inA l c) (inA l h).toNat)))) := by
        unfold behB
        rw [decide_eq_true hh, Bool.true_and, ht]
      have hhc : ((h : Int) == (c : Int)) = (h == c) := by
        by_cases e : h = c
        · subst e; simp
        · have : (h == c) = false := by simpa using e
          rw [this]; simp; omega
      rw [goes_jmp, T_clash_behind]
      simp only [goes_br, lt_len hh, nng, Bool.and_self, if_true, Int.toNat_natCast, b1, wrap_succ (k := h) (by omega), e1, e2, e3, hhas, hhc]
      rw [f1, f2, f3] at *
      generalize hq : (decide (0 ≤ inA l h) && fromB t (inA l c) (inA l h).toNat) = q at *
      by_cases c1 : (thA l h == thA l c) = true
      · rw [if_pos c1]
        rw [c1, Bool.true_and] at hbe
        by_cases c2 : (h == c) = true
        · rw [if_pos c2]
          rw [c2, Bool.true_or] at hbe
          exact add hbe
        · rw [if_neg c2]
          rw [Bool.eq_false_iff.2 c2, Bool.false_or] at hbe
          by_cases c3 : (inA l h == inA l c) = true
          · rw [if_pos c3]
            rw [c3, Bool.true_and] at hbe
            by_cases c4 : decide (paA l h > paA l c) = true
            · rw [if_pos c4]
              rw [c4, Bool.true_or] at hbe
              exact add hbe
            · rw [if_neg c4]
              rw [Bool.eq_false_iff.2 c4, Bool.false_or] at hbe
              cases q with
              | true => rw [if_pos rfl]; exact add hbe
              | false => rw [if_neg (by decide)]; exact skip hbe
          · rw [if_neg c3]
            rw [Bool.eq_false_iff.2 c3, Bool.false_and, Bool.false_or] at hbe
            cases q with
            | true => rw [if_pos rfl]; exact add hbe
            | false => rw [if_neg (by decide)]; exact skip hbe
      · rw [if_neg c1]
        rw [Bool.eq_false_iff.2 c1, Bool.false_and] at hbe
        exact skip hbe
  -- the first loop
  have first : ∀ h, h ≤ L.length → ∀ (s : Int × List (Int × Int)), SetOK s t.length (fun j => (L.take h).contains (j : Int)) →
      Goes (T_clash_behind p l (c : Int)) (.jmp (.l6 (Int.ofNat L.length) (List.getD l c (dflt T_api_Access)).1 (List.getD l c (dflt T_api_Access)).2.1 (List.getD l c (dflt T_api_Access)).2.2.1 (List.getD l c (dflt T_api_Access)).2.2.2.1 (List.getD l c (dflt T_api_Access)).2.2.2.2.1 (List.getD l c (dflt T_api_Access)).2.2.2.2.2 s.1 L s.2 (h : Int))) (listOf l.length (behB p l c)) := by
    refine down ?_ fun h hh ih => ?_
    · intro s hs
      rw [goes_jmp, T_clash_behind, goes_br, if_neg (by simp)]
      have := second s (hs.congr' fun j => by
        rw [List.take_length, Bool.eq_iff_iff, List.contains_iff_mem, hmem]
        constructor
        · rintro ⟨i, _, h1, h2⟩; have : j = i := by omega
          subst this; exact h1
        · intro h; exact ⟨j, fromB_lt h, h, rfl⟩) 0 (Nat.zero_le _) [] (Nat.le_refl _)
      rwa [List.nil_append, listR_zero] at this
    · intro s hs
      obtain ⟨i, hi, _, hie⟩ := (hmem L[h]).1 (List.getElem_mem hh)
      obtain ⟨_, p2⟩ := hs.putO (by omega) hi
      have hp : v_bits_Set_Put (s.1, s.2) (i : Int) = putS s (i : Int) := rfl
      rw [goes_jmp, T_clash_behind, goes_br, if_pos (lt_len hh), goes_br, if_pos (bound_len hh), Int.toNat_natCast, getD_lt hh, hie, hp, wrap_succ (by omega)]
      refine ih _ (p2.congr' fun j => ?_)
      rw [List.take_succ_eq_append_getElem hh, Bool.eq_iff_iff, Bool.or_eq_true, List.contains_iff_mem, List.contains_iff_mem, List.mem_append, List.mem_singleton, hie, beq_iff_eq]
      exact or_congr Iff.rfl (by omega)
  exact first 0 (Nat.zero_le _) (((t.length : Nat) : Int), []) ((SetOK.new t.length).congr' fun j => by simp)
end Go.Ev
end

section
set_option linter.unusedSectionVars false
set_option linter.unusedVariables false
set_option linter.unusedSimpArgs false
set_option maxRecDepth 100000
set_option linter.unusedVariables false
open Go Go.Ev
namespace Go.Ev
noncomputable section
noncomputable def e_clash_behind : Run := entG sg_clash_behind R_clash_behind (fun a => k_clash_behind a.1 a.2.1 a.2.2.1) (fun a => v_clash_behind a.1 a.2.1 a.2.2.1)
theorem ok_clash_behind : EntOK Go.Proofs.Tryz.prog 45 e_clash_behind := entG_ok (tb := tb_clash_behind) (c := c_clash_behind) tk_clash_behind (by kernel_rfl) (by kernel_rfl) (by kernel_rfl) (fun a => by kernel_rfl) fun ⟨p, l, c, _⟩ hk => evF_goes (c := c_clash_behind) (K := fun v => (R_clash_behind v, tps (toForms sg_clash_behind (p, l, c, ())))) (S := S_clash_behind p l c) (by kernel_rfl) (en_clash_behind p l c) (lp_clash_behind p l c) (g_clash_behind p l c hk)
end
end Go.Ev
end

section
set_option linter.unusedSectionVars false
set_option linter.unusedVariables false
set_option linter.unusedSimpArgs false
set_option maxRecDepth 100000
set_option linter.unusedVariables false
open Go Go.Ev
namespace Go.Ev
noncomputable section
/-! ### paling/clash.Back -/
def sg_clash_Back : Sig := [(true, T_api_Prog), (false, (.int .i64))]
noncomputable def t_clash_Back : Tbl := [(35, e_touch_Of), (42, e_bits_New), (43, e_clash_Back_1), (45, e_clash_behind), (44, e_bits_Set_Put), (46, e_bits_Set_List)]
theorem tk_clash_Back : ∀ p ∈ t_clash_Back, EntOK Go.Proofs.Tryz.prog p.1 p.2 := tbl_cons ok_touch_Of (tbl_cons ok_bits_New (tbl_cons ok_clash_Back_1 (tbl_cons ok_clash_behind (tbl_cons ok_bits_Set_Put (tbl_cons ok_bits_Set_List (tbl_nil))))))
noncomputable def c_clash_Back : Code := Go.Proofs.Tryz.f19.body.getD .skip
def tb_clash_Back : Tb := [(11, ⟨[2, 5, 7, 9, 10, 11], []⟩), (17, ⟨[2, 5, 7, 9, 10, 11, 54, 55, 56], []⟩), (hintK, ⟨[], [(1, 74)]⟩)]
inductive J_clash_Back where
  | l11 (l : List (El T_api_Access)) (back : Int) (open_ : List Int) (meet : Int) (meet1 : Int) (back1 : List (Int × Int)) (meet2 : Int) (meet3 : List (Int × Int)) (gone : Int) (gone1 : List (Int × Int))
  | l17 (h : Int) (l : List (El T_api_Access)) (h1 : List Int) (back : Int) (open_ : List Int) (meet : Int) (meet1 : Int) (back1 : List (Int × Int)) (meet2 : Int) (meet3 : List (Int × Int)) (h2 : Int) (gone : Int) (gone1 : List (Int × Int))
def T_clash_Back (p : El T_api_Prog) (a : Int) : J_clash_Back → JT J_clash_Back (List Int)
  | .l11 l back open_ meet meet1 back1 meet2 meet3 gone gone1 =>
    .br (decide ((Int.ofNat (List.length open_)) > (0 : Int)))
      (.br (decide ((0 : Int) < (Int.ofNat (List.length open_))))
        (.br (Nat.ble 1 (List.length open_))
          (.br (k_clash_behind p l (List.getD open_ 0 (dflt (.int .i64))))
            (.jmp (.l17 (Int.ofNat (List.length (v_clash_behind p l (List.getD open_ 0 (dflt (.int .i64)))))) l (v_clash_behind p l (List.getD open_ 0 (dflt (.int .i64)))) back (List.drop 1 open_) meet meet1 back1 meet2 meet3 (0 : Int) gone gone1))
          (.no))
        (.no))
      (.no))
    (.br (k_bits_Set_List (back, back1))
      (.leaf (v_bits_Set_List (back, back1)).1)
    (.no))
  | .l17 h l h1 back open_ meet meet1 back1 meet2 meet3 h2 gone gone1 =>
    .br (decide (h2 < h))
      (.br ((decide ((0 : Int) ≤ h2)) && (decide (h2 < (Int.ofNat (List.length h1)))))
        (.br (v_bits_Set_Put (gone, gone1) (List.getD h1 (Int.toNat h2) (dflt (.int .i64)))).1
          (.br (k_clash_Back_1 (List.getD h1 (Int.toNat h2) (dflt (.int .i64))) l meet (meet2, meet3) open_ meet1 (back, back1))
            (.jmp (.l17 h (v_clash_Back_1 (List.getD h1 (Int.toNat h2) (dflt (.int .i64))) l meet (meet2, meet3) open_ meet1 (back, back1)).1 h1 (v_clash_Back_1 (List.getD h1 (Int.toNat h2) (dflt (.int .i64))) l meet (meet2, meet3) open_ meet1 (back, back1)).2.2.2.2.2.1 (v_clash_Back_1 (List.getD h1 (Int.toNat h2) (dflt (.int .i64))) l meet (meet2, meet3) open_ meet1 (back, back1)).2.2.2.1 (v_clash_Back_1 (List.getD h1 (Int.toNat h2) (dflt (.int .i64))) l meet (meet2, meet3) open_ meet1 (back, back1)).2.1 (v_clash_Back_1 (List.getD h1 (Int.toNat h2) (dflt (.int .i64))) l meet (meet2, meet3) open_ meet1 (back, back1)).2.2.2.2.1 (v_clash_Back_1 (List.getD h1 (Int.toNat h2) (dflt (.int .i64))) l meet (meet2, meet3) open_ meet1 (back, back1)).2.2.2.2.2.2 (v_clash_Back_1 (List.getD h1 (Int.toNat h2) (dflt (.int .i64))) l meet (meet2, meet3) open_ meet1 (back, back1)).2.2.1.1 (v_clash_Back_1 (List.getD h1 (Int.toNat h2) (dflt (.int .i64))) l meet (meet2, meet3) open_ meet1 (back, back1)).2.2.1.2 (IntKind.i64.wrap (h2 + (1 : Int))) (v_bits_Set_Put (gone, gone1) (List.getD h1 (Int.toNat h2) (dflt (.int .i64)))).2.1 (v_bits_Set_Put (gone, gone1) (List.getD h1 (Int.toNat h2) (dflt (.int .i64)))).2.2))
          (.no))
        (.jmp (.l17 h l h1 back open_ meet meet1 back1 meet2 meet3 (IntKind.i64.wrap (h2 + (1 : Int))) (v_bits_Set_Put (gone, gone1) (List.getD h1 (Int.toNat h2) (dflt (.int .i64)))).2.1 (v_bits_Set_Put (gone, gone1) (List.getD h1 (Int.toNat h2) (dflt (.int .i64)))).2.2)))
      (.no))
    (.jmp (.l11 l back open_ meet meet1 back1 meet2 meet3 gone gone1))
def T0_clash_Back (p : El T_api_Prog) (a : Int) : JT J_clash_Back (List Int) :=
  .br (k_touch_Of p)
    (.br (decide (a < (0 : Int)))
      (.leaf [])
    (.br (decide (a ≥ (Int.ofNat (List.length (v_touch_Of p)))))
      (.leaf [])
    (.br ((decide ((0 : Int) ≤ a)) && (decide (a < (Int.ofNat (List.length (v_touch_Of p))))))
      (.br (k_clash_Back_1 a (v_touch_Of p) (List.getD (v_touch_Of p) (Int.toNat a) (dflt T_api_Access)).1 (v_bits_New (Int.ofNat (List.length (v_touch_Of p)))) [] a (v_bits_New (Int.ofNat (List.length (v_touch_Of p)))))
        (.jmp (.l11 (v_clash_Back_1 a (v_touch_Of p) (List.getD (v_touch_Of p) (Int.toNat a) (dflt T_api_Access)).1 (v_bits_New (Int.ofNat (List.length (v_touch_Of p)))) [] a (v_bits_New (Int.ofNat (List.length (v_touch_Of p))))).1 (v_clash_Back_1 a (v_touch_Of p) (List.getD (v_touch_Of p) (Int.toNat a) (dflt T_api_Access)).1 (v_bits_New (Int.ofNat (List.length (v_touch_Of p)))) [] a (v_bits_New (Int.ofNat (List.length (v_touch_Of p))))).2.2.2.2.2.1 (v_clash_Back_1 a (v_touch_Of p) (List.getD (v_touch_Of p) (Int.toNat a) (dflt T_api_Access)).1 (v_bits_New (Int.ofNat (List.length (v_touch_Of p)))) [] a (v_bits_New (Int.ofNat (List.length (v_touch_Of p))))).2.2.2.1 (v_clash_Back_1 a (v_touch_Of p) (List.getD (v_touch_Of p) (Int.toNat a) (dflt T_api_Access)).1 (v_bits_New (Int.ofNat (List.length (v_touch_Of p)))) [] a (v_bits_New (Int.ofNat (List.length (v_touch_Of p))))).2.1 (v_clash_Back_1 a (v_touch_Of p) (List.getD (v_touch_Of p) (Int.toNat a) (dflt T_api_Access)).1 (v_bits_New (Int.ofNat (List.length (v_touch_Of p)))) [] a (v_bits_New (Int.ofNat (List.length (v_touch_Of p))))).2.2.2.2.1 (v_clash_Back_1 a (v_touch_Of p) (List.getD (v_touch_Of p) (Int.toNat a) (dflt T_api_Access)).1 (v_bits_New (Int.ofNat (List.length (v_touch_Of p)))) [] a (v_bits_New (Int.ofNat (List.length (v_touch_Of p))))).2.2.2.2.2.2 (v_clash_Back_1 a (v_touch_Of p) (List.getD (v_touch_Of p) (Int.toNat a) (dflt T_api_Access)).1 (v_bits_New (Int.ofNat (List.length (v_touch_Of p)))) [] a (v_bits_New (Int.ofNat (List.length (v_touch_Of p))))).2.2.1.1 (v_clash_Back_1 a (v_touch_Of p) (List.getD (v_touch_Of p) (Int.toNat a) (dflt T_api_Access)).1 (v_bits_New (Int.ofNat (List.length (v_touch_Of p)))) [] a (v_bits_New (Int.ofNat (List.length (v_touch_Of p))))).2.2.1.2 (v_bits_New (Int.ofNat (List.length (v_touch_Of p)))).1 (v_bits_New (Int.ofNat (List.length (v_touch_Of p)))).2))
      (.no))
    (.no))))
  (.no)
def R_clash_Back : List Int → AV := fun (r : List Int) => .rw 3 (.int .i64) r
def S_clash_Back (p : El T_api_Prog) (a : Int) : J_clash_Back → Nat × St
  | .l11 l back open_ meet meet1 back1 meet2 meet3 gone gone1 => (11, ⟨mkTm 69 [(2, .pt 3 0 0), (5, .pt 6 0 0), (7, .pt 8 0 0), (9, .pt 10 0 0), (10, .pt 11 0 0), (11, .fn 43 [.pt 6 0 0, .pt 12290 0 0, .pt 12291 0 0, .pt 11 0 0, .pt 12293 0 0, .pt 8 0 0])], [(3, 0, .box 26 [.d (.sl T_api_Sym) p.1, .d (.sl (.sl T_api_Ins)) p.2] none), (6, 0, .box 34 [.d (.sl T_api_Access) l] none), (8, 0, .box 78 [.pt 8193 0 0] none), (10, 0, .box 102 [.d (.int .i64) gone, .mp 10242 0] none), (11, 0, .box 37 [.own 11265 0 none] none), (8193, 0, .box 102 [.d (.int .i64) back, .mp 8389634 0] none), (10242, 0, .map (.int .i64) (.int .u64) gone1), (11265, 0, .row 3 (.int .i64) open_ false), (12290, 0, .box 3 [.d (.int .i64) meet] none), (12291, 0, .box 78 [.pt 12585985 0 0] none), (12293, 0, .box 3 [.d (.int .i64) meet1] none), (8389634, 0, .map (.int .i64) (.int .u64) back1), (12585985, 0, .box 102 [.d (.int .i64) meet2, .mp 12888048642 0] none), (12888048642, 0, .map (.int .i64) (.int .u64) meet3)]⟩)
  | .l17 h l h1 back open_ meet meet1 back1 meet2 meet3 h2 gone gone1 => (17, ⟨mkTm 69 [(2, .pt 3 0 0), (5, .pt 6 0 0), (7, .pt 8 0 0), (9, .pt 10 0 0), (10, .pt 11 0 0), (11, .fn 43 [.pt 6 0 0, .pt 12290 0 0, .pt 12291 0 0, .pt 11 0 0, .pt 12293 0 0, .pt 8 0 0]), (54, .own 55 0 none), (55, .d (.int .i64) h), (56, .d (.int .i64) h2)], [(3, 0, .box 26 [.d (.sl T_api_Sym) p.1, .d (.sl (.sl T_api_Ins)) p.2] none), (6, 0, .box 34 [.d (.sl T_api_Access) l] none), (8, 0, .box 78 [.pt 8193 0 0] none), (10, 0, .box 102 [.d (.int .i64) gone, .mp 10242 0] none), (11, 0, .box 37 [.own 11265 0 none] none), (55, 0, .row 3 (.int .i64) h1 false), (8193, 0, .box 102 [.d (.int .i64) back, .mp 8389634 0] none), (10242, 0, .map (.int .i64) (.int .u64) gone1), (11265, 0, .row 3 (.int .i64) open_ false), (12290, 0, .box 3 [.d (.int .i64) meet] none), (12291, 0, .box 78 [.pt 12585985 0 0] none), (12293, 0, .box 3 [.d (.int .i64) meet1] none), (8389634, 0, .map (.int .i64) (.int .u64) back1), (12585985, 0, .box 102 [.d (.int .i64) meet2, .mp 12888048642 0] none), (12888048642, 0, .map (.int .i64) (.int .u64) meet3)]⟩)
theorem en_clash_Back (p : El T_api_Prog) (a : Int) (L : Lt) : entryA Go.Proofs.Tryz.prog (clOf t_clash_Back) tb_clash_Back Go.Proofs.Tryz.f19 c_clash_Back L (toForms sg_clash_Back (p, a, ())) = (T0_clash_Back p a).run (fun v => some (R_clash_Back v, tps (toForms sg_clash_Back (p, a, ())))) fun j => L (S_clash_Back p a j).1 (S_clash_Back p a j).2 := by kernel_rfl
theorem lp_clash_Back (p : El T_api_Prog) (a : Int) : ∀ (L : Lt) (j : J_clash_Back), procOf (procsF Go.Proofs.Tryz.prog (clOf t_clash_Back) tb_clash_Back Go.Proofs.Tryz.f19 c_clash_Back (toForms sg_clash_Back (p, a, ()))) (S_clash_Back p a j).1 L (S_clash_Back p a j).2 = (T_clash_Back p a j).run (fun v => some (R_clash_Back v, tps (toForms sg_clash_Back (p, a, ())))) fun j => L (S_clash_Back p a j).1 (S_clash_Back p a j).2
  | L, .l11 l back open_ meet meet1 back1 meet2 meet3 gone gone1 => by kernel_rfl
  | L, .l17 h l h1 back open_ meet meet1 back1 meet2 meet3 h2 gone gone1 => by kernel_rfl
end
end Go.Ev
end

section
set_option linter.unusedSectionVars false
set_option linter.unusedVariables false
set_option linter.unusedSimpArgs false
/- Where accesses stand. -/
set_option linter.unusedVariables false
set_option linter.unusedSimpArgs false
namespace Go.Ev
open Go
theorem accT_memX {t : Nat} {a : El T_api_Access} : ∀ {l : List (El T_api_Ins)} {k : Nat}, a ∈ accT t k l ↔ ∃ (j : Nat) (i : El T_api_Ins), l[j]? = some i ∧ a ∈ accI t (k + j) i
  | [], k => by simp [accT]
  | i :: r, k => by
    unfold accT
    rw [List.mem_append, accT_memX (l := r)]
    constructor
    · rintro (h | ⟨j, i', h1, h2⟩)
      · exact ⟨0, i, rfl, h⟩
      · exact ⟨j + 1, i', by simpa using h1, by rw [show k + (j + 1) = k + 1 + j by omega]; exact h2⟩
    · rintro ⟨j, i', h1, h2⟩
      cases j with
      | zero => left; simp at h1; subst h1; exact h2
      | succ j => right; exact ⟨j, i', by simpa using h1, by rw [show k + 1 + j = k + (j + 1) by omega]; exact h2⟩
theorem accI_memX {t k : Nat} {i : El T_api_Ins} {a : El T_api_Access} : a ∈ accI t k i ↔ ((v_ins_Reads i).2 = true ∧ a = ((t : Int), ((k : Int), ((0 : Int), ((v_ins_Reads i).1.2.2.1, (false, v_ins_Locked i)))))) ∨ ((v_ins_Writes i).2 = true ∧ a = ((t : Int), ((k : Int), ((if (v_ins_Reads i).2 then (1 : Int) else 0), ((v_ins_Writes i).1.2.2.1, (true, v_ins_Locked i)))))) := by
  unfold accI
  rw [List.mem_append]
  cases (v_ins_Reads i).2 <;> cases (v_ins_Writes i).2 <;> simp
theorem accI_atX {t k : Nat} {i : El T_api_Ins} {a : El T_api_Access} (h : a ∈ accI t k i) : (show Int from a.1) = (t : Int) ∧ (show Int from a.2.1) = (k : Int) := by
  rcases accI_memX.1 h with ⟨_, rfl⟩ | ⟨_, rfl⟩ <;> exact ⟨rfl, rfl⟩
theorem accP_memX {a : El T_api_Access} : ∀ {l : List (List (El T_api_Ins))} {t : Nat}, a ∈ accP t l ↔ ∃ (u : Nat) (x : List (El T_api_Ins)) (j : Nat) (i : El T_api_Ins), l[u]? = some x ∧ x[j]? = some i ∧ a ∈ accI (t + u) j i
  | [], t => by simp [accP]
  | x :: r, t => by
    unfold accP
    rw [List.mem_append, accT_memX, accP_memX (l := r)]
    constructor
    · rintro (⟨j, i, h1, h2⟩ | ⟨u, y, j, i, h1, h2, h3⟩)
      · exact ⟨0, x, j, i, rfl, h1, by rw [Nat.zero_add] at h2; exact h2⟩
      · exact ⟨u + 1, y, j, i, by simpa using h1, h2, by rw [show t + (u + 1) = t + 1 + u by omega]; exact h3⟩
    · rintro ⟨u, y, j, i, h1, h2, h3⟩
      cases u with
      | zero =>
        left
        simp at h1
        subst h1
        exact ⟨j, i, h2, by rw [Nat.zero_add]; exact h3⟩
      | succ u => right; exact ⟨u, y, j, i, by simpa using h1, h2, by rw [show t + 1 + u = t + (u + 1) by omega]; exact h3⟩
/-- An access stands in a thread, at an instruction. -/
theorem acc_where {p : El T_api_Prog} {a : El T_api_Access} (h : a ∈ ofC p) : ∃ (u : Nat) (x : List (El T_api_Ins)) (j : Nat) (i : El T_api_Ins), p.2[u]? = some x ∧ x[j]? = some i ∧ a ∈ accI u j i ∧ (show Int from a.1) = (u : Int) ∧ (show Int from a.2.1) = (j : Int) := by
  unfold ofC at h
  split at h
  · obtain ⟨u, x, j, i, h1, h2, h3⟩ := accP_memX.1 h
    rw [Nat.zero_add] at h3
    exact ⟨u, x, j, i, h1, h2, h3, (accI_atX h3).1, (accI_atX h3).2⟩
  · cases h
def ltNX (t k q t' k' q' : Int) : Prop := t < t' ∨ t = t' ∧ (k < k' ∨ k = k' ∧ q < q')
def ltAX (a b : El T_api_Access) : Prop := ltNX a.1 a.2.1 a.2.2.1 b.1 b.2.1 b.2.2.1
theorem accI_ordX (t k : Nat) (i : El T_api_Ins) : (accI t k i).Pairwise ltAX := by
  unfold accI
  cases (v_ins_Reads i).2 <;> cases (v_ins_Writes i).2 <;> simp [List.pairwise_cons]
  exact .inr ⟨rfl, .inr ⟨rfl, by show (0 : Int) < 1; omega⟩⟩
theorem accT_atX {t : Nat} {l : List (El T_api_Ins)} {k : Nat} {a : El T_api_Access} (h : a ∈ accT t k l) : ∃ (j : Nat) (i : El T_api_Ins), l[j]? = some i ∧ a ∈ accI t (k + j) i ∧ (show Int from a.1) = (t : Int) ∧ (show Int from a.2.1) = ((k + j : Nat) : Int) := by
  obtain ⟨j, i, h1, h2⟩ := accT_memX.1 h
  exact ⟨j, i, h1, h2, accI_atX h2⟩
theorem accT_ordX (t : Nat) : ∀ (k : Nat) (l : List (El T_api_Ins)), (accT t k l).Pairwise ltAX
  | _, [] => .nil
  | k, i :: r => by
    unfold accT
    refine List.pairwise_append.2 ⟨accI_ordX t k i, accT_ordX t (k + 1) r, fun a ha b hb => ?_⟩
    obtain ⟨h1, h2⟩ := accI_atX ha
    obtain ⟨j, _, _, _, h3, h4⟩ := accT_atX hb
    have key : ∀ a1 a2 a3 b1 b2 b3 : Int, a1 = t → a2 = k → b1 = t → b2 = ((k + 1 + j : Nat) : Int) → ltNX a1 a2 a3 b1 b2 b3 := fun a1 a2 a3 b1 b2 b3 e1 e2 e3 e4 => .inr ⟨by omega, .inl (by omega)⟩
    exact key _ _ _ _ _ _ h1 h2 h3 h4
theorem accP_ordX : ∀ (t : Nat) (l : List (List (El T_api_Ins))), (accP t l).Pairwise ltAX
  | _, [] => .nil
  | t, x :: r => by
    unfold accP
    refine List.pairwise_append.2 ⟨accT_ordX t 0 x, accP_ordX (t + 1) r, fun a ha b hb => ?_⟩
    obtain ⟨_, _, _, _, h1, _⟩ := accT_atX ha
    obtain ⟨u, _, _, _, _, _, hb3⟩ := accP_memX.1 hb
    have h3 := (accI_atX hb3).1
    have key : ∀ a1 a2 a3 b1 b2 b3 : Int, a1 = t → b1 = ((t + 1 + u : Nat) : Int) → ltNX a1 a2 a3 b1 b2 b3 := fun a1 a2 a3 b1 b2 b3 e1 e3 => .inl (by omega)
    exact key _ _ _ _ _ _ h1 h3
theorem ofC_ord (p : El T_api_Prog) : (ofC p).Pairwise ltAX := by
  unfold ofC
  split
  · exact accP_ordX 0 p.2
  · exact .nil
theorem flow_small {t : List (El T_api_Ins)} (h : smallThread t = true) : flowOK t = true := by
  have labs : ∀ {t : List (El T_api_Ins)} {i : El T_api_Ins}, i ∈ t → i.2.2.2.2.2.2.length ≤ (labels t).length := fun {t i} hi => by
    unfold labels
    induction t with
    | nil => cases hi
    | cons x r ih =>
      rw [List.flatMap_cons, List.length_append]
      rcases List.mem_cons.1 hi with rfl | hi
      · omega
      · have := ih hi; omega
  unfold smallThread at h
  simp only [Bool.and_eq_true, List.all_eq_true, decide_eq_true_eq] at h
  unfold flowOK
  simp only [Bool.and_eq_true, List.all_eq_true, decide_eq_true_eq]
  refine ⟨h.1, fun i hi => ⟨(h.2.2 i hi).1, ?_⟩⟩
  have := labs hi
  omega
end Go.Ev
end

section
set_option linter.unusedSectionVars false
set_option linter.unusedVariables false
set_option linter.unusedSimpArgs false
set_option maxRecDepth 100000
set_option linter.unusedVariables false
set_option linter.unusedSimpArgs false
open Go
namespace Go.Ev
noncomputable def v_clash_Back (p : El T_api_Prog) (a : Int) : List Int := if 0 ≤ a ∧ a < ((ofC p).length : Int) then listOf (ofC p).length (backB p (ofC p) a.toNat) else []
def k_clash_Back (p : El T_api_Prog) (a : Int) : Bool := smallAll p
theorem meetF_ok {l : List Acc} {x : Nat} {own a : Int} : ∀ (n h : Nat) (s : SetT × List Int × SetT) (C B : Nat → Bool), l.length < 1099511627776 → h + n ≤ l.length → SetOK s.1 l.length C → SetOK s.2.2 l.length B →
    ∃ C' B', SetOK (meetF l (x : Int) own a (List.range' h n) s).1 l.length C' ∧ SetOK (meetF l (x : Int) own a (List.range' h n) s).2.2 l.length B' ∧
      (∀ j, C' j = true ↔ C j = true ∨ (h ≤ j ∧ j < h + n ∧ clB l x j = true ∧ thA l j ≠ own)) ∧ (∀ j, B' j = true ↔ B j = true ∨ (h ≤ j ∧ j < h + n ∧ clB l x j = true ∧ thA l j = own ∧ (x : Int) ≠ a)) ∧
      (∀ y ∈ s.2.1, y ∈ (meetF l (x : Int) own a (List.range' h n) s).2.1) ∧ (∀ y ∈ (meetF l (x : Int) own a (List.range' h n) s).2.1, y ∈ s.2.1 ∨ ∃ j : Nat, y = (j : Int) ∧ C' j = true) ∧
      (∀ j, C' j = true → C j = true ∨ (j : Int) ∈ (meetF l (x : Int) own a (List.range' h n) s).2.1) ∧ (meetF l (x : Int) own a (List.range' h n) s).2.1.length + card l.length C = s.2.1.length + card l.length C'
  | 0, h, s, C, B, _, _, hC, hB => ⟨C, B, hC, hB, fun j => ⟨.inl, fun h => h.elim id fun h => by omega⟩, fun j => ⟨.inl, fun h => h.elim id fun h => by omega⟩, fun y hy => hy, fun y hy => .inl hy, fun j hj => .inl hj, rfl⟩
  | n + 1, h, s, C, B, hN, hn, hC, hB => by
    rw [List.range'_succ, meetF]
    have hh : h < l.length := by omega
    -- one step
    have one : ∃ C1 B1, SetOK (meet1 l (x : Int) own a h s).1 l.length C1 ∧ SetOK (meet1 l (x : Int) own a h s).2.2 l.length B1 ∧ (∀ j, C1 j = true ↔ C j = true ∨ (j = h ∧ clB l x h = true ∧ thA l h ≠ own)) ∧ (∀ j, B1 j = true ↔ B j = true ∨ (j = h ∧ clB l x h = true ∧ thA l h = own ∧ (x : Int) ≠ a)) ∧
        (∀ y ∈ s.2.1, y ∈ (meet1 l (x : Int) own a h s).2.1) ∧ (∀ y ∈ (meet1 l (x : Int) own a h s).2.1, y ∈ s.2.1 ∨ ∃ j : Nat, y = (j : Int) ∧ C1 j = true) ∧ (∀ j, C1 j = true → C j = true ∨ (j : Int) ∈ (meet1 l (x : Int) own a h s).2.1) ∧
        (meet1 l (x : Int) own a h s).2.1.length + card l.length C = s.2.1.length + card l.length C1 := by
      unfold meet1
      rw [Int.toNat_natCast]
      by_cases c1 : clB l x h = true
      · rw [if_pos c1]
        by_cases c2 : thA l h = own
        · rw [if_neg (by simp [c2])]
          by_cases c3 : (x : Int) = a
          · rw [if_neg (by simp [c3])]
            exact ⟨C, B, hC, hB, fun j => ⟨.inl, fun h => h.elim id fun h => absurd c2 h.2.2⟩, fun j => ⟨.inl, fun h => h.elim id fun h => absurd c3 h.2.2.2⟩, fun y hy => hy, fun y hy => .inl hy, fun j hj => .inl hj, rfl⟩
          · rw [if_pos c3]
            obtain ⟨_, p2⟩ := hB.putO (by omega) hh
            refine ⟨C, _, hC, p2, fun j => ⟨.inl, fun h => h.elim id fun h => absurd c2 h.2.2⟩, fun j => ?_, fun y hy => hy, fun y hy => .inl hy, fun j hj => .inl hj, rfl⟩
            rw [Bool.or_eq_true, beq_iff_eq]
            exact or_congr Iff.rfl ⟨fun h => ⟨h, c1, c2, c3⟩, fun h => h.1⟩
        · rw [if_pos c2]
          obtain ⟨p1, p2⟩ := hC.putO (by omega) hh
          have hB' : ∀ j, B j = true ↔ B j = true ∨ (j = h ∧ clB l x h = true ∧ thA l h = own ∧ (x : Int) ≠ a) := fun j => ⟨.inl, fun h => h.elim id fun h => absurd h.2.2.1 c2⟩
          have hC' : ∀ j, (C j || (j == h)) = true ↔ C j = true ∨ (j = h ∧ clB l x h = true ∧ thA l h ≠ own) := fun j => by
            rw [Bool.or_eq_true, beq_iff_eq]
            exact or_congr Iff.rfl ⟨fun h => ⟨h, c1, c2⟩, fun h => h.1⟩
          refine ⟨_, B, p2, hB, hC', hB', ?_⟩
          cases hCh : C h with
          | true =>
            rw [hCh] at p1
            rw [if_neg (by rw [p1]; decide)]
            have e : (fun k => C k || (k == h)) = C := funext fun k => by
              by_cases hk : k = h
              · subst hk; rw [hCh]; rfl
              · have : (k == h) = false := by simpa using hk
                rw [this, Bool.or_false]
            refine ⟨fun y hy => hy, fun y hy => .inl hy, fun j hj => .inl ?_, by rw [e]⟩
            have := congrFun e j
            rw [← this]; exact hj
          | false =>
            rw [hCh] at p1
            rw [if_pos (by rw [p1]; rfl)]
            refine ⟨fun y hy => List.mem_append_left _ hy, fun y hy => ?_, fun j hj => ?_, ?_⟩
            · rcases List.mem_append.1 hy with hy | hy
              · exact .inl hy
              · simp only [List.mem_singleton] at hy
                exact .inr ⟨h, hy, by simp⟩
            · rw [Bool.or_eq_true, beq_iff_eq] at hj
              rcases hj with hj | rfl
              · exact .inl hj
              · exact .inr (List.mem_append_right _ (by simp))
            · rw [card_add hCh hh, List.length_append, List.length_singleton]
              omega
      · rw [if_neg c1]
        exact ⟨C, B, hC, hB, fun j => ⟨.inl, fun h => h.elim id fun h => absurd h.2.1 c1⟩, fun j => ⟨.inl, fun h => h.elim id fun h => absurd h.2.1 c1⟩, fun y hy => hy, fun y hy => .inl hy, fun j hj => .inl hj, rfl⟩
    obtain ⟨C1, B1, a1, a2, a3, a4, a5, a6, a7, a8⟩ := one
    obtain ⟨C2, B2, b1, b2, b3, b4, b5, b6, b7, b8⟩ := meetF_ok n (h + 1) (meet1 l (x : Int) own a h s) C1 B1 hN (by omega) a1 a2
    refine ⟨C2, B2, b1, b2, fun j => ?_, fun j => ?_, fun y hy => b5 y (a5 y hy), fun y hy => ?_, fun j hj => ?_, by omega⟩
    · rw [b3, a3, or_assoc]
      refine or_congr Iff.rfl ⟨?_, ?_⟩
      · rintro (⟨rfl, h1⟩ | ⟨h1, h2, h3⟩)
        · exact ⟨Nat.le_refl _, by omega, h1⟩
        · exact ⟨by omega, by omega, h3⟩
      · rintro ⟨h1, h2, h3⟩
        by_cases e : j = h
        · subst e; exact .inl ⟨rfl, h3⟩
        · exact .inr ⟨by omega, by omega, h3⟩
    · rw [b4, a4, or_assoc]
      refine or_congr Iff.rfl ⟨?_, ?_⟩
      · rintro (⟨rfl, h1⟩ | ⟨h1, h2, h3⟩)
        · exact ⟨Nat.le_refl _, by omega, h1⟩
        · exact ⟨by omega, by omega, h3⟩
      · rintro ⟨h1, h2, h3⟩
        by_cases e : j = h
        · subst e; exact .inl ⟨rfl, h3⟩
        · exact .inr ⟨by omega, by omega, h3⟩
    · rcases b6 y hy with h1 | h1
      · rcases a6 y h1 with h2 | ⟨j, h2, h3⟩
        · exact .inl h2
        · exact .inr ⟨j, h2, (b3 j).2 (.inl h3)⟩
      · exact .inr h1
    · rcases b7 j hj with h1 | h1
      · rcases a7 j h1 with h2 | h2
        · exact .inl h2
        · exact .inr (b5 _ h2)
      · exact .inr h1
/-- What holds while chains are gone over. -/
structure BInv (p : El T_api_Prog) (l : List Acc) (a : Nat) (C G B : Nat → Bool) (O : List Int) : Prop where
  c : ∀ c, C c = true ↔ c < l.length ∧ thA l c ≠ thA l a ∧ (clB l a c = true ∨ ∃ k, G k = true ∧ clB l k c = true)
  g : ∀ d, G d = true → ∃ c, C c = true ∧ behB p l c d = true
  o : ∀ x ∈ O, ∃ c : Nat, x = (c : Int) ∧ C c = true
  b : ∀ b, B b = true ↔ b < l.length ∧ thA l b = thA l a ∧ ∃ k, G k = true ∧ clB l k b = true
  s : ∀ d, G d = true → isB p l a d = true
theorem BInv.is {p : El T_api_Prog} {l : List Acc} {a : Nat} {C G B : Nat → Bool} {O : List Int} (h : BInv p l a C G B O) {c : Nat} (hc : C c = true) : isB p l a c = true := by
  obtain ⟨h1, h2, h3⟩ := (h.c c).1 hc
  rcases h3 with h3 | ⟨k, hk, h3⟩
  · exact comeB_iff.2 (.start (by unfold chS; rw [decide_eq_true h1, h3]; rfl))
  · refine comeB_iff.2 (.step (comeB_iff.1 (h.s k hk)) ?_)
    unfold chB
    simp only [Bool.and_eq_true, decide_eq_true_eq, Bool.not_eq_true', beq_eq_false_iff_ne, Bool.or_eq_true]
    exact ⟨h1, h2, .inl h3⟩
theorem BInv.meet {p : El T_api_Prog} {l : List Acc} {a d : Nat} {C G B C' B' : Nat → Bool} {O O' : List Int} {c : Nat} (h : BInv p l a C G B O) (hc : C c = true) (hd : behB p l c d = true) (hl : d < l.length)
    (hC : ∀ j, C' j = true ↔ C j = true ∨ (0 ≤ j ∧ j < 0 + l.length ∧ clB l d j = true ∧ thA l j ≠ thA l a)) (hB : ∀ j, B' j = true ↔ B j = true ∨ (0 ≤ j ∧ j < 0 + l.length ∧ clB l d j = true ∧ thA l j = thA l a ∧ (d : Int) ≠ (a : Int)))
    (hO : ∀ y ∈ O', y ∈ O ∨ ∃ j : Nat, y = (j : Int) ∧ C' j = true) : BInv p l a C' (fun k => G k || (k == d)) B' O' := by
  have hth := behB_lt hd
  have hne := ((h.c c).1 hc).2.1
  have hdis : isB p l a d = true := by
    refine comeB_iff.2 (.step (comeB_iff.1 (h.is hc)) ?_)
    unfold chB
    simp only [Bool.and_eq_true, decide_eq_true_eq, Bool.not_eq_true', beq_eq_false_iff_ne, Bool.or_eq_true]
    exact ⟨hl, by rw [hth.2]; exact hne, .inr hd⟩
  have hg : ∀ k, (G k || (k == d)) = true ↔ G k = true ∨ k = d := fun k => by rw [Bool.or_eq_true, beq_iff_eq]
  refine ⟨fun j => ?_, fun j hj => ?_, fun y hy => ?_, fun j => ?_, fun j hj => ?_⟩
  · rw [hC, h.c]
    constructor
    · rintro (⟨h1, h2, h3⟩ | ⟨_, h1, h2, h3⟩)
      · exact ⟨h1, h2, h3.imp id fun ⟨k, hk, h4⟩ => ⟨k, (hg k).2 (.inl hk), h4⟩⟩
      · exact ⟨by omega, h3, .inr ⟨d, (hg d).2 (.inr rfl), h2⟩⟩
    · rintro ⟨h1, h2, h3⟩
      rcases h3 with h3 | ⟨k, hk, h3⟩
      · exact .inl ⟨h1, h2, .inl h3⟩
      · rcases (hg k).1 hk with hk | rfl
        · exact .inl ⟨h1, h2, .inr ⟨k, hk, h3⟩⟩
        · exact .inr ⟨Nat.zero_le _, by omega, h3, h2⟩
  · rcases (hg j).1 hj with hj | rfl
    · obtain ⟨c', h1, h2⟩ := h.g j hj
      exact ⟨c', (hC c').2 (.inl h1), h2⟩
    · exact ⟨c, (hC c).2 (.inl hc), hd⟩
  · rcases hO y hy with hy | hy
    · obtain ⟨c', h1, h2⟩ := h.o y hy
      exact ⟨c', h1, (hC c').2 (.inl h2)⟩
    · exact hy
  · rw [hB, h.b]
    constructor
    · rintro (⟨h1, h2, k, hk, h3⟩ | ⟨_, h1, h2, h3, _⟩)
      · exact ⟨h1, h2, k, (hg k).2 (.inl hk), h3⟩
      · exact ⟨by omega, h3, d, (hg d).2 (.inr rfl), h2⟩
    · rintro ⟨h1, h2, k, hk, h3⟩
      rcases (hg k).1 hk with hk | rfl
      · exact .inl ⟨h1, h2, k, hk, h3⟩
      · refine .inr ⟨Nat.zero_le _, by omega, h3, h2, fun e => hne ?_⟩
        have : k = a := by omega
        subst this
        rw [← hth.2]
  · rcases (hg j).1 hj with hj | rfl
    · exact h.s j hj
    · exact hdis
theorem g_clash_Back (p : El T_api_Prog) (a : Int) (hk : k_clash_Back p a = true) : Goes (T_clash_Back p a) (T0_clash_Back p a) (v_clash_Back p a) := by
  have hA := smallA hk
  have hNl := ofC_len hk
  have kt : k_touch_Of p = true := hk
  have vt : v_touch_Of p = ofC p := rfl
  have hacc : ∀ c, c < (ofC p).length → 0 ≤ thA (ofC p) c ∧ thA (ofC p) c < (p.2.length : Int) ∧ flowOK (thrOf p (ofC p) c) = true := fun c hc => by
    have hm : accA (ofC p) c ∈ ofC p := by unfold accA; rw [getD_lt hc]; exact List.getElem_mem hc
    obtain ⟨u, x, j, i, h1, h2, h3, h4, h5⟩ := acc_where hm
    have hth : thA (ofC p) c = (u : Int) := h4
    have hu := (List.getElem?_eq_some_iff.1 h1).1
    have hx : x ∈ p.2 := List.mem_of_getElem? h1
    refine ⟨by omega, by omega, ?_⟩
    unfold thrOf
    rw [hth, Int.toNat_natCast, List.getD_eq_getElem?_getD, h1]
    exact flow_small (hA.thr x hx)
  obtain ⟨l, hl⟩ : ∃ l, ofC p = l := ⟨_, rfl⟩
  rw [hl] at hNl vt hacc
  obtain ⟨T, hT⟩ : ∃ T, T = T_clash_Back p a := ⟨_, rfl⟩
  rw [← hT]
  unfold T0_clash_Back v_clash_Back
  rw [goes_br, if_pos kt, vt, hl, goes_br]
  by_cases h0 : a < 0
  · rw [if_pos (decide_eq_true h0), if_neg (by omega)]; exact .leaf
  rw [if_neg (by simpa using h0), goes_br]
  by_cases h1 : a ≥ Int.ofNat l.length
  · rw [if_pos (decide_eq_true h1), if_neg (by simp at h1; omega)]; exact .leaf
  obtain ⟨a, rfl⟩ := Int.eq_ofNat_of_zero_le (show 0 ≤ a by omega)
  have ha : a < l.length := by simp at h1; omega
  rw [if_neg (by simpa using h1), goes_br, if_pos (bound_len ha), goes_br, Int.toNat_natCast]
  have hval : (if (0 : Int) ≤ (a : Int) ∧ (a : Int) < (l.length : Int) then listOf l.length (backB p l a) else []) = listOf l.length (backB p l a) := if_pos ⟨by omega, by omega⟩
  rw [hval]
  have hown : (List.getD l a (dflt T_api_Access)).1 = thA l a := rfl
  have hnew : v_bits_New (Int.ofNat l.length) = (((l.length : Nat) : Int), []) := by
    unfold v_bits_New
    simp
    omega
  rw [hown, hnew]
  have kb : ∀ (x : Nat) (come : SetT) (o : List Int) (b : SetT), x < l.length → o.length < 1099511627776 → k_clash_Back_1 (x : Int) l (thA l a) come o (a : Int) b = true := fun x come o b hx ho => decide_eq_true ⟨by omega, by omega, by omega, ho⟩
  -- the loops
  have fin : ∀ (C G B : Nat → Bool) (sc sg sb : SetT), SetOK sb l.length B → BInv p l a C G B [] →
      (∀ c, C c = true → (c : Int) ∈ ([] : List Int) ∨ ∀ d, behB p l c d = true → G d = true) → Goes T (.jmp (.l11 l sb.1 [] (thA l a) (a : Int) sb.2 sc.1 sc.2 sg.1 sg.2)) (listOf l.length (backB p l a)) := by
    intro C G B sc sg sb hb hi hp
    rw [goes_jmp, hT, T_clash_Back, ← hT, goes_br, if_neg (by decide)]
    have hkl : k_bits_Set_List (sb.1, sb.2) = true := Nat.ble_eq_true_of_le (by have := hb.few; unfold limit; show sb.2.length * 512 ≤ _; omega)
    rw [goes_br, if_pos hkl]
    have hGi : ∀ d, G d = isB p l a d := gone_is hi.c (fun d => ⟨hi.g d, fun ⟨c, h1, h2⟩ => (hp c h1).elim (fun h => by cases h) fun h => h d h2⟩) hi.s
    have hv : (v_bits_Set_List (sb.1, sb.2)).1 = listOf l.length (backB p l a) := by
      show listS sb = _
      rw [hb.list (by omega)]
      refine listOf_congr fun j hj => ?_
      unfold backB
      rw [Bool.eq_iff_iff, hi.b, Bool.and_eq_true, beq_iff_eq, List.any_eq_true]
      constructor
      · rintro ⟨_, h2, k, hk, h3⟩
        rw [hGi] at hk
        exact ⟨h2, k, List.mem_range.2 (is_lt hk).1, by rw [hk, h3]; rfl⟩
      · rintro ⟨h2, k, _, h3⟩
        rw [Bool.and_eq_true] at h3
        exact ⟨hj, h2, k, by rw [hGi]; exact h3.1, h3.2⟩
    rw [hv]
    exact .leaf
  have loop : ∀ m, ∀ (C G B : Nat → Bool) (sc sg sb : SetT) (O : List Int), 2 * (l.length - card l.length C) + O.length ≤ m → O.length ≤ card l.length C → SetOK sc l.length C → SetOK sg l.length G → SetOK sb l.length B → BInv p l a C G B O →
      (∀ c, C c = true → (c : Int) ∈ O ∨ ∀ d, behB p l c d = true → G d = true) → Goes T (.jmp (.l11 l sb.1 O (thA l a) (a : Int) sb.2 sc.1 sc.2 sg.1 sg.2)) (listOf l.length (backB p l a)) := by
    intro m
    induction m with
    | zero =>
      intro C G B sc sg sb O hm hO1 hc hg hb hi hp
      have : O = [] := List.eq_nil_of_length_eq_zero (by omega)
      subst this
      exact fin C G B sc sg sb hb hi hp
    | succ m ih =>
      intro C G B sc sg sb O hm hO1 hc hg hb hi hp
      cases O with
      | nil => exact fin C G B sc sg sb hb hi hp
      | cons x O =>
        obtain ⟨c, rfl, hCc⟩ := hi.o x (by simp)
        have hcl := ((hi.c c).1 hCc).1
        have hcard := @card_le l.length C
        obtain ⟨q1, q2, q3⟩ := hacc c hcl
        have kbh : k_clash_behind p l (c : Int) = true := by
          unfold k_clash_behind
          rw [Int.toNat_natCast, q3, decide_eq_true ⟨by omega, by omega, by omega⟩, decide_eq_true ⟨q1, q2⟩]; rfl
        have e0 : List.getD ((c : Int) :: O) 0 (dflt (.int .i64)) = (c : Int) := rfl
        have g1 : decide (Int.ofNat ((c : Int) :: O).length > (0 : Int)) = true := decide_eq_true (by simp <;> omega)
        have g2 : decide ((0 : Int) < Int.ofNat ((c : Int) :: O).length) = true := decide_eq_true (by simp <;> omega)
        have g3 : Nat.ble 1 ((c : Int) :: O).length = true := Nat.ble_eq_true_of_le (by simp)
        rw [goes_jmp, hT, T_clash_Back, ← hT, goes_br, if_pos g1, goes_br, if_pos g2, goes_br, if_pos g3, e0, goes_br, if_pos kbh]
        obtain ⟨L, hL⟩ : ∃ L, v_clash_behind p l (c : Int) = L := ⟨_, rfl⟩
        have hLm : ∀ y, y ∈ L ↔ ∃ d : Nat, d < l.length ∧ behB p l c d = true ∧ y = (d : Int) := fun y => by rw [← hL]; unfold v_clash_behind; rw [Int.toNat_natCast]; exact listOf_mem
        have hLl : L.length ≤ l.length := by rw [← hL]; unfold v_clash_behind; rw [listOf_length]; exact card_le
        rw [hL, show List.drop 1 ((c : Int) :: O) = O from rfl]
        have inner : ∀ h, h ≤ L.length → ∀ (C G B : Nat → Bool) (sc sg sb : SetT) (O : List Int), 2 * (l.length - card l.length C) + O.length ≤ m → O.length ≤ card l.length C → SetOK sc l.length C → SetOK sg l.length G → SetOK sb l.length B → BInv p l a C G B O → C c = true →
            (∀ c', C c' = true → c' ≠ c → (c' : Int) ∈ O ∨ ∀ d, behB p l c' d = true → G d = true) → (∀ d, behB p l c d = true → G d = true ∨ (d : Int) ∈ L.drop h) →
            Goes T (.jmp (.l17 (Int.ofNat L.length) l L sb.1 O (thA l a) (a : Int) sb.2 sc.1 sc.2 (h : Int) sg.1 sg.2)) (listOf l.length (backB p l a)) := by
          refine down ?_ fun h hh ih2 => ?_
          · intro C G B sc sg sb O hm hO1 hc hg hb hi hCc hp hcur
            rw [goes_jmp, hT, T_clash_Back, ← hT, goes_br, if_neg (by simp)]
            refine ih C G B sc sg sb O hm hO1 hc hg hb hi fun c' hc' => ?_
            by_cases e : c' = c
            · subst e
              right
              intro d hd
              rcases hcur d hd with h1 | h1
              · exact h1
              · rw [List.drop_length] at h1; cases h1
            · exact hp c' hc' e
          · intro C G B sc sg sb O hm hO1 hc hg hb hi hCc hp hcur
            obtain ⟨d, hd, hbd, hde⟩ := (hLm L[h]).1 (List.getElem_mem hh)
            have hcard := @card_le l.length C
            obtain ⟨p1, p2⟩ := hg.putO (by omega) hd
            have hput : v_bits_Set_Put (sg.1, sg.2) (d : Int) = putS sg (d : Int) := rfl
            have hkb := kb d (sc.1, sc.2) O (sb.1, sb.2) hd (by omega)
            rw [goes_jmp, hT, T_clash_Back, ← hT, goes_br, if_pos (lt_len hh), goes_br, if_pos (bound_len hh), Int.toNat_natCast, getD_lt hh, hde, hput, wrap_succ (by omega), goes_br]
            have hdrop := drop_cons hh
            cases hGd : G d with
            | true =>
              rw [hGd] at p1
              rw [if_neg (by rw [p1]; decide)]
              have e : ∀ k, (G k || (k == d)) = G k := fun k => by
                by_cases hk : k = d
                · subst hk; rw [hGd]; rfl
                · have : (k == d) = false := by simpa using hk
                  rw [this, Bool.or_false]
              refine ih2 C G B sc _ sb O hm hO1 hc (p2.congr' e) hb hi hCc hp fun d' hd' => ?_
              rcases hcur d' hd' with h1 | h1
              · exact .inl h1
              · rw [hdrop] at h1
                rcases List.mem_cons.1 h1 with h1 | h1
                · rw [hde] at h1
                  have : d' = d := by omega
                  subst this
                  exact .inl hGd
                · exact .inr h1
            | false =>
              rw [hGd] at p1
              rw [if_pos (by rw [p1]; rfl), goes_br, if_pos hkb]
              obtain ⟨C', B', b1, b2, b3, b4, b5, b6, b7, b8⟩ := meetF_ok (l := l) (x := d) (own := thA l a) (a := (a : Int)) l.length 0 (sc, O, sb) C B (by omega) (by omega) hc hb
              have hv : v_clash_Back_1 (d : Int) l (thA l a) (sc.1, sc.2) O (a : Int) (sb.1, sb.2) = (l, thA l a, (meetF l (d : Int) (thA l a) (a : Int) (List.range' 0 l.length) (sc, O, sb)).1, (meetF l (d : Int) (thA l a) (a : Int) (List.range' 0 l.length) (sc, O, sb)).2.1, (a : Int), (meetF l (d : Int) (thA l a) (a : Int) (List.range' 0 l.length) (sc, O, sb)).2.2) := rfl
              rw [hv]
              generalize meetF l (d : Int) (thA l a) (a : Int) (List.range' 0 l.length) (sc, O, sb) = R at *
              have hi' := hi.meet (O' := R.2.1) hCc hbd hd b3 b4 b6
              have hcl2 := @card_le l.length C'
              simp only at b5 b6 b7 b8
              have b8' : R.2.1.length + card l.length C = O.length + card l.length C' := b8
              have hcm : card l.length C ≤ card l.length C' := card_mono fun j h => (b3 j).2 (.inl h)
              have m1 : 2 * (l.length - card l.length C') + R.2.1.length ≤ m := by omega
              have m2 : R.2.1.length ≤ card l.length C' := by omega
              refine ih2 C' _ B' R.1 _ R.2.2 R.2.1 m1 m2 b1 p2 b2 hi' ((b3 c).2 (.inl hCc)) (fun c' hc' hne => ?_) fun d' hd' => ?_
              · rcases b7 c' hc' with h1 | h1
                · rcases hp c' h1 hne with h2 | h2
                  · exact .inl (b5 _ h2)
                  · exact .inr fun d'' hd'' => by rw [h2 d'' hd'']; rfl
                · exact .inl h1
              · rcases hcur d' hd' with h1 | h1
                · left; rw [h1]; rfl
                · rw [hdrop] at h1
                  rcases List.mem_cons.1 h1 with h1 | h1
                  · rw [hde] at h1
                    have : d' = d := by omega
                    subst this
                    left; simp
                  · exact .inr h1
        refine inner 0 (Nat.zero_le _) C G B sc sg sb O (by simp at hm; omega) (by simp at hO1; omega) hc hg hb ⟨hi.c, hi.g, fun y hy => hi.o y (List.mem_cons_of_mem _ hy), hi.b, hi.s⟩ hCc (fun c' hc' hne => ?_) fun d hd => ?_
        · rcases hp c' hc' with h1 | h1
          · rcases List.mem_cons.1 h1 with h1 | h1
            · exact absurd (by omega) hne
            · exact .inl h1
          · exact .inr h1
        · exact .inr (by rw [List.drop_zero]; exact (hLm _).2 ⟨d, (behB_lt hd).1, hd, rfl⟩)
  -- the first meeting
  rw [if_pos (kb a _ [] _ ha (by simp))]
  obtain ⟨C', B', b1, b2, b3, b4, b5, b6, b7, b8⟩ := meetF_ok (l := l) (x := a) (own := thA l a) (a := (a : Int)) l.length 0 ((((l.length : Nat) : Int), []), [], (((l.length : Nat) : Int), [])) (fun _ => false) (fun _ => false) (by omega) (by omega) (SetOK.new _) (SetOK.new _)
  have hv : v_clash_Back_1 (a : Int) l (thA l a) (((l.length : Nat) : Int), []) [] (a : Int) (((l.length : Nat) : Int), []) = (l, thA l a, (meetF l (a : Int) (thA l a) (a : Int) (List.range' 0 l.length) ((((l.length : Nat) : Int), []), [], (((l.length : Nat) : Int), []))).1, (meetF l (a : Int) (thA l a) (a : Int) (List.range' 0 l.length) ((((l.length : Nat) : Int), []), [], (((l.length : Nat) : Int), []))).2.1, (a : Int), (meetF l (a : Int) (thA l a) (a : Int) (List.range' 0 l.length) ((((l.length : Nat) : Int), []), [], (((l.length : Nat) : Int), []))).2.2) := rfl
  rw [hv]
  generalize meetF l (a : Int) (thA l a) (a : Int) (List.range' 0 l.length) ((((l.length : Nat) : Int), []), [], (((l.length : Nat) : Int), [])) = R at *
  simp only at b5 b6 b7 b8
  have hcl2 := @card_le l.length C'
  have h00 : card l.length (fun _ => false) = 0 := by unfold card; simp
  rw [h00] at b8
  refine loop _ C' (fun _ => false) B' R.1 (((l.length : Nat) : Int), []) R.2.2 R.2.1 (Nat.le_refl _) (by simp at b8; omega) b1 (SetOK.new _) b2 ⟨fun c => ?_, fun d hd => (by cases hd), fun y hy => ?_, fun b => ?_, fun d hd => (by cases hd)⟩ fun c hc => ?_
  · rw [b3]
    constructor
    · rintro (h | ⟨_, h1, h2, h3⟩)
      · cases h
      · exact ⟨by omega, h3, .inl h2⟩
    · rintro ⟨h1, h2, h3 | ⟨k, hk, _⟩⟩
      · exact .inr ⟨Nat.zero_le _, by omega, h3, h2⟩
      · cases hk
  · rcases b6 y hy with h | h
    · cases h
    · exact h
  · rw [b4]
    constructor
    · rintro (h | ⟨_, _, _, _, h⟩)
      · cases h
      · exact absurd rfl h
    · rintro ⟨_, _, k, hk, _⟩
      cases hk
  · rcases b7 c hc with h | h
    · cases h
    · exact .inl h
end Go.Ev
end

section
set_option linter.unusedSectionVars false
set_option linter.unusedVariables false
set_option linter.unusedSimpArgs false
set_option maxRecDepth 100000
set_option linter.unusedVariables false
open Go Go.Ev
namespace Go.Ev
noncomputable section
noncomputable def e_clash_Back : Run := entG sg_clash_Back R_clash_Back (fun a => k_clash_Back a.1 a.2.1) (fun a => v_clash_Back a.1 a.2.1)
theorem ok_clash_Back : EntOK Go.Proofs.Tryz.prog 19 e_clash_Back := entG_ok (tb := tb_clash_Back) (c := c_clash_Back) tk_clash_Back (by kernel_rfl) (by kernel_rfl) (by kernel_rfl) (fun a => by kernel_rfl) fun ⟨p, a, _⟩ hk => evF_goes (c := c_clash_Back) (K := fun v => (R_clash_Back v, tps (toForms sg_clash_Back (p, a, ())))) (S := S_clash_Back p a) (by kernel_rfl) (en_clash_Back p a) (lp_clash_Back p a) (g_clash_Back p a hk)
end
end Go.Ev
end

section
set_option linter.unusedSectionVars false
set_option linter.unusedVariables false
set_option linter.unusedSimpArgs false
set_option maxRecDepth 100000
set_option linter.unusedVariables false
open Go Go.Ev
namespace Go.Ev
noncomputable section
/-! ### paling/palingbook.SameInts -/
def sg_book_SameInts : Sig := [(false, (.sl (.int .i64))), (false, (.sl (.int .i64)))]
noncomputable def t_book_SameInts : Tbl := []
theorem tk_book_SameInts : ∀ p ∈ t_book_SameInts, EntOK Go.Proofs.Tryz.prog p.1 p.2 := tbl_nil
noncomputable def c_book_SameInts : Code := Go.Proofs.Tryz.f18.body.getD .skip
def tb_book_SameInts : Tb := [(6, ⟨[0, 1, 5], []⟩)]
inductive J_book_SameInts where
  | l6 (i : Int)
def T_book_SameInts (a : List Int) (b : List Int) : J_book_SameInts → JT J_book_SameInts (Bool)
  | .l6 i =>
    .br (decide (i < (Int.ofNat (List.length a))))
      (.br ((decide ((0 : Int) ≤ i)) && (decide (i < (Int.ofNat (List.length a)))))
        (.br ((decide ((0 : Int) ≤ i)) && (decide (i < (Int.ofNat (List.length b)))))
          (.br ((List.getD a (Int.toNat i) (dflt (.int .i64))) != (List.getD b (Int.toNat i) (dflt (.int .i64))))
            (.leaf false)
          (.jmp (.l6 (IntKind.i64.wrap (i + (1 : Int))))))
        (.no))
      (.no))
    (.leaf true)
def T0_book_SameInts (a : List Int) (b : List Int) : JT J_book_SameInts (Bool) :=
  .br ((Int.ofNat (List.length a)) != (Int.ofNat (List.length b)))
    (.leaf false)
  (.jmp (.l6 (0 : Int)))
def R_book_SameInts : Bool → AV := fun (r : Bool) => .d .bool r
def S_book_SameInts (a : List Int) (b : List Int) : J_book_SameInts → Nat × St
  | .l6 i => (6, ⟨mkTm 26 [(0, .d (.sl (.int .i64)) a), (1, .d (.sl (.int .i64)) b), (5, .d (.int .i64) i)], []⟩)
theorem en_book_SameInts (a : List Int) (b : List Int) (L : Lt) : entryA Go.Proofs.Tryz.prog (clOf t_book_SameInts) tb_book_SameInts Go.Proofs.Tryz.f18 c_book_SameInts L (toForms sg_book_SameInts (a, b, ())) = (T0_book_SameInts a b).run (fun v => some (R_book_SameInts v, tps (toForms sg_book_SameInts (a, b, ())))) fun j => L (S_book_SameInts a b j).1 (S_book_SameInts a b j).2 := by kernel_rfl
theorem lp_book_SameInts (a : List Int) (b : List Int) : ∀ (L : Lt) (j : J_book_SameInts), procOf (procsF Go.Proofs.Tryz.prog (clOf t_book_SameInts) tb_book_SameInts Go.Proofs.Tryz.f18 c_book_SameInts (toForms sg_book_SameInts (a, b, ()))) (S_book_SameInts a b j).1 L (S_book_SameInts a b j).2 = (T_book_SameInts a b j).run (fun v => some (R_book_SameInts v, tps (toForms sg_book_SameInts (a, b, ())))) fun j => L (S_book_SameInts a b j).1 (S_book_SameInts a b j).2
  | L, .l6 i => by kernel_rfl
end
end Go.Ev
end

section
set_option linter.unusedSectionVars false
set_option linter.unusedVariables false
set_option linter.unusedSimpArgs false
set_option linter.unusedVariables false
set_option linter.unusedSimpArgs false
open Go
namespace Go.Ev
theorem intB_eq {a b : Int} : (a == b) = decide (a = b) := by rw [Bool.eq_iff_iff]; simp

def v_book_SameInts (a b : List Int) : Bool := decide (a = b)
def k_book_SameInts (a b : List Int) : Bool := decide (a.length < 4611686018427387904)
theorem g_book_SameInts (a b : List Int) (hk : k_book_SameInts a b = true) : Goes (T_book_SameInts a b) (T0_book_SameInts a b) (v_book_SameInts a b) := by
  have hn : a.length < 4611686018427387904 := of_decide_eq_true hk
  have loop : a.length = b.length → ∀ k, k ≤ a.length → Goes (T_book_SameInts a b) (.jmp (.l6 (k : Int))) (decide (a.drop k = b.drop k)) := by
    intro he
    refine down ?_ fun k hk ih => ?_
    · rw [goes_jmp]
      simp [T_book_SameInts, goes_br, goes_leaf, he]
    · rw [goes_jmp]
      have hkb : k < b.length := he ▸ hk
      simp only [T_book_SameInts, goes_br, lt_len hk, lt_len hkb, nng, Bool.and_self, if_true, Int.toNat_natCast, getD_lt hk, getD_lt hkb, wrap_succ (k := k) (by omega)]
      rw [drop_cons hk, drop_cons hkb]
      split
      · rename_i h1
        have h2 : (! decide (a[k] = b[k])) = true := (congrArg Bool.not intB_eq).symm.trans h1
        have h3 : ¬ a[k] = b[k] := by simpa using h2
        rw [decide_eq_false (fun e => h3 (List.cons.inj e).1)]
        exact .leaf
      · rename_i h1
        have h2 : ¬ (! decide (a[k] = b[k])) = true := fun h => h1 ((congrArg Bool.not intB_eq).trans h)
        have h3 : a[k] = b[k] := by simpa using h2
        rw [show decide (a[k] :: List.drop (k + 1) a = b[k] :: List.drop (k + 1) b) = decide (List.drop (k + 1) a = List.drop (k + 1) b) from decide_eq_decide.2 ⟨fun e => (List.cons.inj e).2, fun e => by rw [h3, e]⟩]
        exact ih
  unfold T0_book_SameInts v_book_SameInts
  rw [goes_br]
  by_cases h : a.length = b.length
  · have := loop h 0 (Nat.zero_le _)
    simpa [h] using this
  · have : a ≠ b := fun e => h (congrArg _ e)
    rw [if_pos (by simp; omega), decide_eq_false this]
    exact .leaf

end Go.Ev
end

section
set_option linter.unusedSectionVars false
set_option linter.unusedVariables false
set_option linter.unusedSimpArgs false
set_option maxRecDepth 100000
set_option linter.unusedVariables false
open Go Go.Ev
namespace Go.Ev
noncomputable section
noncomputable def e_book_SameInts : Run := entG sg_book_SameInts R_book_SameInts (fun a => k_book_SameInts a.1 a.2.1) (fun a => v_book_SameInts a.1 a.2.1)
theorem ok_book_SameInts : EntOK Go.Proofs.Tryz.prog 18 e_book_SameInts := entG_ok (tb := tb_book_SameInts) (c := c_book_SameInts) tk_book_SameInts (by kernel_rfl) (by kernel_rfl) (by kernel_rfl) (fun a => by kernel_rfl) fun ⟨a, b, _⟩ hk => evF_goes (c := c_book_SameInts) (K := fun v => (R_book_SameInts v, tps (toForms sg_book_SameInts (a, b, ())))) (S := S_book_SameInts a b) (by kernel_rfl) (en_book_SameInts a b) (lp_book_SameInts a b) (g_book_SameInts a b hk)
end
end Go.Ev
end

section
set_option linter.unusedSectionVars false
set_option linter.unusedVariables false
set_option linter.unusedSimpArgs false
set_option maxRecDepth 100000
set_option linter.unusedVariables false
open Go Go.Ev
namespace Go.Ev
noncomputable section
/-! ### paling/palinglaw23.alive -/
def sg_law23_alive : Sig := []
noncomputable def t_law23_alive : Tbl := [(38, e_law23_both), (13, e_clash_Pairs), (12, e_book_SameTwos), (19, e_clash_Back), (18, e_book_SameInts)]
theorem tk_law23_alive : ∀ p ∈ t_law23_alive, EntOK Go.Proofs.Tryz.prog p.1 p.2 := tbl_cons ok_law23_both (tbl_cons ok_clash_Pairs (tbl_cons ok_book_SameTwos (tbl_cons ok_clash_Back (tbl_cons ok_book_SameInts (tbl_nil)))))
noncomputable def c_law23_alive : Code := Go.Proofs.Tryz.f16.body.getD .skip
def tb_law23_alive : Tb := []
def T_law23_alive : Empty → JT Empty (Bool) := fun j => nomatch j
def T0_law23_alive : JT Empty (Bool) :=
  .br (k_clash_Pairs v_law23_both)
    (.br (k_book_SameTwos (v_clash_Pairs v_law23_both) [((0 : Int), (3 : Int)), ((1 : Int), (2 : Int))])
      (.br (v_book_SameTwos (v_clash_Pairs v_law23_both) [((0 : Int), (3 : Int)), ((1 : Int), (2 : Int))])
        (.br (k_clash_Back v_law23_both (1 : Int))
          (.br (k_book_SameInts (v_clash_Back v_law23_both (1 : Int)) [(0 : Int), (1 : Int)])
            (.br (v_book_SameInts (v_clash_Back v_law23_both (1 : Int)) [(0 : Int), (1 : Int)])
              (.br (k_clash_Back v_law23_both (0 : Int))
                (.br (k_book_SameInts (v_clash_Back v_law23_both (0 : Int)) [(0 : Int)])
                  (.br (v_book_SameInts (v_clash_Back v_law23_both (0 : Int)) [(0 : Int)])
                    (.br (k_clash_Back v_law23_both (4 : Int))
                      (.leaf ((Int.ofNat (List.length (v_clash_Back v_law23_both (4 : Int)))) == (0 : Int)))
                    (.no))
                  (.leaf false))
                (.no))
              (.no))
            (.leaf false))
          (.no))
        (.no))
      (.leaf false))
    (.no))
  (.no)
def v_law23_alive : Bool :=
  bif (k_clash_Pairs v_law23_both) then
    bif (k_book_SameTwos (v_clash_Pairs v_law23_both) [((0 : Int), (3 : Int)), ((1 : Int), (2 : Int))]) then
      bif (v_book_SameTwos (v_clash_Pairs v_law23_both) [((0 : Int), (3 : Int)), ((1 : Int), (2 : Int))]) then
        bif (k_clash_Back v_law23_both (1 : Int)) then
          bif (k_book_SameInts (v_clash_Back v_law23_both (1 : Int)) [(0 : Int), (1 : Int)]) then
            bif (v_book_SameInts (v_clash_Back v_law23_both (1 : Int)) [(0 : Int), (1 : Int)]) then
              bif (k_clash_Back v_law23_both (0 : Int)) then
                bif (k_book_SameInts (v_clash_Back v_law23_both (0 : Int)) [(0 : Int)]) then
                  bif (v_book_SameInts (v_clash_Back v_law23_both (0 : Int)) [(0 : Int)]) then
                    bif (k_clash_Back v_law23_both (4 : Int)) then
                      ((Int.ofNat (List.length (v_clash_Back v_law23_both (4 : Int)))) == (0 : Int))
                    else false
                  else false
                else false
              else false
            else false
          else false
        else false
      else false
    else false
  else false
def k_law23_alive : Bool :=
  bif (k_clash_Pairs v_law23_both) then
    bif (k_book_SameTwos (v_clash_Pairs v_law23_both) [((0 : Int), (3 : Int)), ((1 : Int), (2 : Int))]) then
      bif (v_book_SameTwos (v_clash_Pairs v_law23_both) [((0 : Int), (3 : Int)), ((1 : Int), (2 : Int))]) then
        bif (k_clash_Back v_law23_both (1 : Int)) then
          bif (k_book_SameInts (v_clash_Back v_law23_both (1 : Int)) [(0 : Int), (1 : Int)]) then
            bif (v_book_SameInts (v_clash_Back v_law23_both (1 : Int)) [(0 : Int), (1 : Int)]) then
              bif (k_clash_Back v_law23_both (0 : Int)) then
                bif (k_book_SameInts (v_clash_Back v_law23_both (0 : Int)) [(0 : Int)]) then
                  bif (v_book_SameInts (v_clash_Back v_law23_both (0 : Int)) [(0 : Int)]) then
                    bif (k_clash_Back v_law23_both (4 : Int)) then
                      true
                    else false
                  else true
                else false
              else false
            else true
          else false
        else false
      else true
    else false
  else false
theorem g_law23_alive (hk : k_law23_alive = true) : Goes (T_law23_alive) (T0_law23_alive) (v_law23_alive) :=
  Goes.brk hk (fun hk =>
    Goes.brk hk (fun hk =>
      Goes.brk hk (fun hk =>
        Goes.brk hk (fun hk =>
          Goes.brk hk (fun hk =>
            Goes.brk hk (fun hk =>
              Goes.brk hk (fun hk =>
                Goes.brk hk (fun hk =>
                  Goes.brk hk (fun hk =>
                    Goes.brk hk (fun hk =>
                      Goes.leaf) (fun hk =>
                      Goes.nok hk)) (fun hk =>
                    Goes.leaf)) (fun hk =>
                  Goes.nok hk)) (fun hk =>
                Goes.nok hk)) (fun hk =>
              Goes.leaf)) (fun hk =>
            Goes.nok hk)) (fun hk =>
          Goes.nok hk)) (fun hk =>
        Goes.leaf)) (fun hk =>
      Goes.nok hk)) (fun hk =>
    Goes.nok hk)
def R_law23_alive : Bool → AV := fun (r : Bool) => .d .bool r
def S_law23_alive : Empty → Nat × St := fun j => nomatch j
theorem en_law23_alive (L : Lt) : entryA Go.Proofs.Tryz.prog (clOf t_law23_alive) tb_law23_alive Go.Proofs.Tryz.f16 c_law23_alive L (toForms sg_law23_alive (())) = (T0_law23_alive).run (fun v => some (R_law23_alive v, tps (toForms sg_law23_alive (())))) fun j => L (S_law23_alive j).1 (S_law23_alive j).2 := by kernel_rfl
theorem lp_law23_alive : ∀ (L : Lt) (j : Empty), procOf (procsF Go.Proofs.Tryz.prog (clOf t_law23_alive) tb_law23_alive Go.Proofs.Tryz.f16 c_law23_alive (toForms sg_law23_alive (()))) (S_law23_alive j).1 L (S_law23_alive j).2 = (T_law23_alive j).run (fun v => some (R_law23_alive v, tps (toForms sg_law23_alive (())))) fun j => L (S_law23_alive j).1 (S_law23_alive j).2 := fun L j => nomatch j
noncomputable def e_law23_alive : Run := entG sg_law23_alive R_law23_alive (fun a => k_law23_alive) (fun a => v_law23_alive)
theorem ok_law23_alive : EntOK Go.Proofs.Tryz.prog 16 e_law23_alive := entG_ok (tb := tb_law23_alive) (c := c_law23_alive) tk_law23_alive (by kernel_rfl) (by kernel_rfl) (by kernel_rfl) (fun a => by kernel_rfl) fun _ hk => evF_goes (c := c_law23_alive) (K := fun v => (R_law23_alive v, tps (toForms sg_law23_alive (())))) (S := S_law23_alive) (by kernel_rfl) (en_law23_alive) (lp_law23_alive) (g_law23_alive hk)
end
end Go.Ev
end

section
set_option linter.unusedSectionVars false
set_option linter.unusedVariables false
set_option linter.unusedSimpArgs false
set_option maxRecDepth 100000
set_option linter.unusedVariables false
open Go Go.Ev
namespace Go.Ev
noncomputable section
/-! ### paling/palingref1.Spots -/
def sg_ref1_Spots : Sig := [(false, .str)]
noncomputable def t_ref1_Spots : Tbl := []
theorem tk_ref1_Spots : ∀ p ∈ t_ref1_Spots, EntOK Go.Proofs.Tryz.prog p.1 p.2 := tbl_nil
noncomputable def c_ref1_Spots : Code := Go.Proofs.Tryz.f84.body.getD .skip
def tb_ref1_Spots : Tb := [(5, ⟨[0, 3, 4, 5, 10], [(4, 222)]⟩), (18, ⟨[3, 8], []⟩)]
inductive J_ref1_Spots where
  | l5 (line : Int) (out : List (El T_ref1_Spot)) (pos : Nat) (col : Int)
  | l18 (out : List (El T_ref1_Spot)) (i : Int)
def T_ref1_Spots (s : ByteArray) : J_ref1_Spots → JT J_ref1_Spots (List (El T_ref1_Spot))
  | .l5 line out pos col =>
    .br (decide (pos < (ByteArray.size s)))
      (.br (decide ((Int.ofNat (List.length out)) > (0 : Int)))
        (.br ((decide ((0 : Int) ≤ (IntKind.i64.wrap ((Int.ofNat (List.length out)) - (1 : Int))))) && (decide ((IntKind.i64.wrap ((Int.ofNat (List.length out)) - (1 : Int))) < (Int.ofNat (List.length out)))))
          (.br ((decide ((0 : Int) ≤ (IntKind.i64.wrap ((Int.ofNat (List.length out)) - (1 : Int))))) && (decide ((IntKind.i64.wrap ((Int.ofNat (List.length out)) - (1 : Int))) < (Int.ofNat (List.length out)))))
            (.br (Nat.ble (((List.length (List.set out (Int.toNat (IntKind.i64.wrap ((Int.ofNat (List.length out)) - (1 : Int)))) ((List.getD out (Int.toNat (IntKind.i64.wrap ((Int.ofNat (List.length out)) - (1 : Int)))) (dflt T_ref1_Spot)).1, ((List.getD out (Int.toNat (IntKind.i64.wrap ((Int.ofNat (List.length out)) - (1 : Int)))) (dflt T_ref1_Spot)).2.1, ((IntKind.i64.wrap ((Int.ofNat pos) - (List.getD out (Int.toNat (IntKind.i64.wrap ((Int.ofNat (List.length out)) - (1 : Int)))) (dflt T_ref1_Spot)).2.1)), (List.getD out (Int.toNat (IntKind.i64.wrap ((Int.ofNat (List.length out)) - (1 : Int)))) (dflt T_ref1_Spot)).2.2.2))))) + 1) * 48) limit)
              (.br ((Int.ofNat (Utf8.decode s pos).1) == (10 : Int))
                (.jmp (.l5 (IntKind.i64.wrap (line + (1 : Int))) ((List.set out (Int.toNat (IntKind.i64.wrap ((Int.ofNat (List.length out)) - (1 : Int)))) ((List.getD out (Int.toNat (IntKind.i64.wrap ((Int.ofNat (List.length out)) - (1 : Int)))) (dflt T_ref1_Spot)).1, ((List.getD out (Int.toNat (IntKind.i64.wrap ((Int.ofNat (List.length out)) - (1 : Int)))) (dflt T_ref1_Spot)).2.1, ((IntKind.i64.wrap ((Int.ofNat pos) - (List.getD out (Int.toNat (IntKind.i64.wrap ((Int.ofNat (List.length out)) - (1 : Int)))) (dflt T_ref1_Spot)).2.1)), (List.getD out (Int.toNat (IntKind.i64.wrap ((Int.ofNat (List.length out)) - (1 : Int)))) (dflt T_ref1_Spot)).2.2.2)))) ++ [((Int.ofNat (Utf8.decode s pos).1), ((Int.ofNat pos), ((0 : Int), (line, (col, false)))))]) (pos + (Utf8.decode s pos).2) (1 : Int)))
              (.jmp (.l5 line ((List.set out (Int.toNat (IntKind.i64.wrap ((Int.ofNat (List.length out)) - (1 : Int)))) ((List.getD out (Int.toNat (IntKind.i64.wrap ((Int.ofNat (List.length out)) - (1 : Int)))) (dflt T_ref1_Spot)).1, ((List.getD out (Int.toNat (IntKind.i64.wrap ((Int.ofNat (List.length out)) - (1 : Int)))) (dflt T_ref1_Spot)).2.1, ((IntKind.i64.wrap ((Int.ofNat pos) - (List.getD out (Int.toNat (IntKind.i64.wrap ((Int.ofNat (List.length out)) - (1 : Int)))) (dflt T_ref1_Spot)).2.1)), (List.getD out (Int.toNat (IntKind.i64.wrap ((Int.ofNat (List.length out)) - (1 : Int)))) (dflt T_ref1_Spot)).2.2.2)))) ++ [((Int.ofNat (Utf8.decode s pos).1), ((Int.ofNat pos), ((0 : Int), (line, (col, false)))))]) (pos + (Utf8.decode s pos).2) (IntKind.i64.wrap (col + (1 : Int))))))
            (.no))
          (.no))
        (.no))
      (.br (Nat.ble (((List.length out) + 1) * 48) limit)
        (.br ((Int.ofNat (Utf8.decode s pos).1) == (10 : Int))
          (.jmp (.l5 (IntKind.i64.wrap (line + (1 : Int))) (out ++ [((Int.ofNat (Utf8.decode s pos).1), ((Int.ofNat pos), ((0 : Int), (line, (col, false)))))]) (pos + (Utf8.decode s pos).2) (1 : Int)))
        (.jmp (.l5 line (out ++ [((Int.ofNat (Utf8.decode s pos).1), ((Int.ofNat pos), ((0 : Int), (line, (col, false)))))]) (pos + (Utf8.decode s pos).2) (IntKind.i64.wrap (col + (1 : Int))))))
      (.no)))
    (.br (decide ((Int.ofNat (List.length out)) > (0 : Int)))
      (.br ((decide ((0 : Int) ≤ (IntKind.i64.wrap ((Int.ofNat (List.length out)) - (1 : Int))))) && (decide ((IntKind.i64.wrap ((Int.ofNat (List.length out)) - (1 : Int))) < (Int.ofNat (List.length out)))))
        (.br ((decide ((0 : Int) ≤ (IntKind.i64.wrap ((Int.ofNat (List.length out)) - (1 : Int))))) && (decide ((IntKind.i64.wrap ((Int.ofNat (List.length out)) - (1 : Int))) < (Int.ofNat (List.length out)))))
          (.jmp (.l18 (List.set out (Int.toNat (IntKind.i64.wrap ((Int.ofNat (List.length out)) - (1 : Int)))) ((List.getD out (Int.toNat (IntKind.i64.wrap ((Int.ofNat (List.length out)) - (1 : Int)))) (dflt T_ref1_Spot)).1, ((List.getD out (Int.toNat (IntKind.i64.wrap ((Int.ofNat (List.length out)) - (1 : Int)))) (dflt T_ref1_Spot)).2.1, ((IntKind.i64.wrap ((Int.ofNat (ByteArray.size s)) - (List.getD out (Int.toNat (IntKind.i64.wrap ((Int.ofNat (List.length out)) - (1 : Int)))) (dflt T_ref1_Spot)).2.1)), (List.getD out (Int.toNat (IntKind.i64.wrap ((Int.ofNat (List.length out)) - (1 : Int)))) (dflt T_ref1_Spot)).2.2.2)))) (0 : Int)))
        (.no))
      (.no))
    (.jmp (.l18 out (0 : Int))))
  | .l18 out i =>
    .br (decide (i < (Int.ofNat (List.length out))))
      (.br ((decide ((0 : Int) ≤ i)) && (decide (i < (Int.ofNat (List.length out)))))
        (.br ((List.getD out (Int.toNat i) (dflt T_ref1_Spot)).1 == (65533 : Int))
          (.br ((decide ((0 : Int) ≤ i)) && (decide (i < (Int.ofNat (List.length out)))))
            (.br ((decide ((0 : Int) ≤ i)) && (decide (i < (Int.ofNat (List.length out)))))
              (.jmp (.l18 (List.set out (Int.toNat i) ((List.getD out (Int.toNat i) (dflt T_ref1_Spot)).1, ((List.getD out (Int.toNat i) (dflt T_ref1_Spot)).2.1, ((List.getD out (Int.toNat i) (dflt T_ref1_Spot)).2.2.1, ((List.getD out (Int.toNat i) (dflt T_ref1_Spot)).2.2.2.1, ((List.getD out (Int.toNat i) (dflt T_ref1_Spot)).2.2.2.2.1, ((List.getD out (Int.toNat i) (dflt T_ref1_Spot)).2.2.1 == (1 : Int)))))))) (IntKind.i64.wrap (i + (1 : Int)))))
            (.no))
          (.no))
        (.br ((decide ((0 : Int) ≤ i)) && (decide (i < (Int.ofNat (List.length out)))))
          (.jmp (.l18 (List.set out (Int.toNat i) ((List.getD out (Int.toNat i) (dflt T_ref1_Spot)).1, ((List.getD out (Int.toNat i) (dflt T_ref1_Spot)).2.1, ((List.getD out (Int.toNat i) (dflt T_ref1_Spot)).2.2.1, ((List.getD out (Int.toNat i) (dflt T_ref1_Spot)).2.2.2.1, ((List.getD out (Int.toNat i) (dflt T_ref1_Spot)).2.2.2.2.1, false)))))) (IntKind.i64.wrap (i + (1 : Int)))))
        (.no)))
      (.no))
    (.leaf out)
def T0_ref1_Spots (s : ByteArray) : JT J_ref1_Spots (List (El T_ref1_Spot)) :=
  .jmp (.l5 (1 : Int) [] 0 (1 : Int))
def R_ref1_Spots : List (El T_ref1_Spot) → AV := fun (r : List (El T_ref1_Spot)) => .rw 114 T_ref1_Spot r
def S_ref1_Spots (s : ByteArray) : J_ref1_Spots → Nat × St
  | .l5 line out pos col => (5, ⟨mkTm 91 [(0, .d .str s), (3, .own 4 0 none), (4, .d (.int .i64) line), (5, .d (.int .i64) col), (10, .it 11 0)], [(4, 0, .row 114 T_ref1_Spot out false), (11, 0, .sit s pos)]⟩)
  | .l18 out i => (18, ⟨mkTm 91 [(3, .own 4 0 none), (8, .d (.int .i64) i)], [(4, 0, .row 114 T_ref1_Spot out false)]⟩)
theorem en_ref1_Spots (s : ByteArray) (L : Lt) : entryA Go.Proofs.Tryz.prog (clOf t_ref1_Spots) tb_ref1_Spots Go.Proofs.Tryz.f84 c_ref1_Spots L (toForms sg_ref1_Spots (s, ())) = (T0_ref1_Spots s).run (fun v => some (R_ref1_Spots v, tps (toForms sg_ref1_Spots (s, ())))) fun j => L (S_ref1_Spots s j).1 (S_ref1_Spots s j).2 := by kernel_rfl
theorem lp_ref1_Spots (s : ByteArray) : ∀ (L : Lt) (j : J_ref1_Spots), procOf (procsF Go.Proofs.Tryz.prog (clOf t_ref1_Spots) tb_ref1_Spots Go.Proofs.Tryz.f84 c_ref1_Spots (toForms sg_ref1_Spots (s, ()))) (S_ref1_Spots s j).1 L (S_ref1_Spots s j).2 = (T_ref1_Spots s j).run (fun v => some (R_ref1_Spots v, tps (toForms sg_ref1_Spots (s, ())))) fun j => L (S_ref1_Spots s j).1 (S_ref1_Spots s j).2
  | L, .l5 line out pos col => by kernel_rfl
  | L, .l18 out i => by kernel_rfl
end
end Go.Ev
end

section
set_option linter.unusedSectionVars false
set_option linter.unusedVariables false
set_option linter.unusedSimpArgs false
set_option linter.unusedVariables false
set_option linter.unusedSimpArgs false
open Go
namespace Go.Ev
/-- as in spotsFrom, but not told yet which are bad -/
def rawFrom (s : ByteArray) : Nat → Nat → Int → Int → List (El T_glyph_Spot)
  | 0, _, _, _ => []
  | n + 1, pos, line, col =>
    if pos < s.size then
      spotAt s pos line col false :: rawFrom s n (pos + (Utf8.decode s pos).2) (v_glyph_step line col (Int.ofNat (Utf8.decode s pos).1)).1 (v_glyph_step line col (Int.ofNat (Utf8.decode s pos).1)).2
    else []
def tellBad (x : El T_glyph_Spot) : El T_glyph_Spot := (x.1, x.2.1, x.2.2.1, x.2.2.2.1, x.2.2.2.2.1, x.1 == (65533 : Int) && x.2.2.1 == (1 : Int))
def noSize (x : El T_glyph_Spot) : El T_glyph_Spot := (x.1, x.2.1, 0, x.2.2.2.1, x.2.2.2.2.1, x.2.2.2.2.2)
theorem raw_spots (s : ByteArray) : ∀ (n pos : Nat) (line col : Int), (rawFrom s n pos line col).map tellBad = spotsFrom s n pos line col
  | 0, _, _, _ => rfl
  | n + 1, pos, line, col => by
    unfold rawFrom spotsFrom
    split
    · rw [List.map_cons, raw_spots s n]
      congr 1
      unfold tellBad spotAt badAt
      have e1 : (Int.ofNat (Utf8.decode s pos).1 == (65533 : Int)) = decide ((Utf8.decode s pos).1 = 65533) := by rw [Bool.eq_iff_iff]; simp <;> omega
      have e2 : (Int.ofNat (Utf8.decode s pos).2 == (1 : Int)) = decide ((Utf8.decode s pos).2 = 1) := by rw [Bool.eq_iff_iff]; simp <;> omega
      simp only [e1, e2]
    · rfl
def v_ref1_Spots (s : ByteArray) : List (El T_glyph_Spot) := spots s
def k_ref1_Spots (s : ByteArray) : Bool := smallText s
theorem g_ref1_Spots (s : ByteArray) (hk : k_ref1_Spots s = true) : Goes (T_ref1_Spots s) (T0_ref1_Spots s) (v_ref1_Spots s) := by
  have hs : s.size < 549755813888 := of_decide_eq_true hk
  have loop2 : ∀ (rest pre : List (El T_glyph_Spot)), pre.length + rest.length ≤ s.size → (∀ x ∈ rest, x.2.2.2.2.2 = false) → Goes (T_ref1_Spots s) (.jmp (.l18 (pre ++ rest) (pre.length : Int))) (pre ++ rest.map tellBad) := by
    intro rest
    induction rest with
    | nil =>
      intro pre _ _
      rw [goes_jmp]
      simp [T_ref1_Spots, goes_br, goes_leaf]
    | cons x rest ih =>
      intro pre hl hx
      rw [goes_jmp]
      have hk : pre.length < (pre ++ x :: rest).length := by simp
      have hg : (pre ++ x :: rest).getD pre.length (dflt T_glyph_Spot) = x := by simp [List.getD]
      have hset : ∀ y, (pre ++ x :: rest).set pre.length y = pre ++ y :: rest := fun y => by simp
      have hl' : (pre ++ x :: rest).length ≤ s.size := by simpa using hl
      simp only [T_ref1_Spots, goes_br, lt_len hk, nng, Bool.and_self, if_true, Int.toNat_natCast, hg, hset, wrap_succ (k := pre.length) (by omega)]
      have hb : x.2.2.2.2.2 = false := hx x (by simp)
      have key : ∀ b, b = (x.1 == (65533 : Int) && x.2.2.1 == (1 : Int)) → Goes (T_ref1_Spots s) (.jmp (.l18 (pre ++ (x.1, x.2.1, x.2.2.1, x.2.2.2.1, x.2.2.2.2.1, b) :: rest) ((pre.length + 1 : Nat) : Int))) (pre ++ (x :: rest).map tellBad) := by
        intro b e
        subst e
        have := ih (pre ++ [tellBad x]) (by simp at hl ⊢; omega) (fun y hy => hx y (by simp [hy]))
        simpa [tellBad] using this
      by_cases h : x.1 = 65533
      · rw [if_pos (by simp [h])]
        exact key _ (by simp [h])
      · rw [if_neg (by simp [h])]
        exact key _ (by simp [h])
  have raw_false : ∀ (n pos : Nat) (line col : Int), ∀ x ∈ rawFrom s n pos line col, x.2.2.2.2.2 = false := by
    intro n
    induction n with
    | zero => intro pos line col x hx; simp [rawFrom] at hx
    | succ n ih =>
      intro pos line col x hx
      unfold rawFrom at hx
      split at hx
      · rcases List.mem_cons.1 hx with rfl | hx
        · rfl
        · exact ih _ _ _ x hx
      · simp at hx
  -- the first loop: what is there, of which the last one has no size yet
  have loop1 : ∀ (n pos : Nat) (line col : Int) (done : List (El T_glyph_Spot)) (out : List (El T_glyph_Spot)), s.size - pos < n → pos ≤ s.size → done.length ≤ pos → (∀ x ∈ done, x.2.2.2.2.2 = false) →
      ((done = [] ∧ out = []) ∨ ∃ ini x, done = ini ++ [x] ∧ out = ini ++ [noSize x] ∧ ∃ a m : Nat, x.2.1 = (a : Int) ∧ x.2.2.1 = (m : Int) ∧ a + m = pos) →
      Goes (T_ref1_Spots s) (.jmp (.l5 line out pos col)) ((done ++ rawFrom s n pos line col).map tellBad) := by
    intro n
    induction n with
    | zero => intro pos line col done out h; omega
    | succ n ih =>
      intro pos line col done out hn hp hd hfalse hinv
      rw [goes_jmp]
      simp only [T_ref1_Spots, goes_br]
      by_cases h : pos < s.size
      · have hle := dec_le h
        have h1 := dec_ge (s := s) (pos := pos)
        have hraw : rawFrom s (n + 1) pos line col = spotAt s pos line col false :: rawFrom s n (pos + (Utf8.decode s pos).2) (v_glyph_step line col (Int.ofNat (Utf8.decode s pos).1)).1 (v_glyph_step line col (Int.ofNat (Utf8.decode s pos).1)).2 := by
          rw [rawFrom, if_pos h]
        have hnext : ∀ (l c : Int), l = (v_glyph_step line col (Int.ofNat (Utf8.decode s pos).1)).1 → c = (v_glyph_step line col (Int.ofNat (Utf8.decode s pos).1)).2 →
            Goes (T_ref1_Spots s) (.jmp (.l5 l (done ++ [(Int.ofNat (Utf8.decode s pos).1, Int.ofNat pos, 0, line, col, false)]) (pos + (Utf8.decode s pos).2) c)) ((done ++ rawFrom s (n + 1) pos line col).map tellBad) := by
          intro l c el ec
          subst el; subst ec
          have e : ∀ (r : List (El T_glyph_Spot)), done ++ spotAt s pos line col false :: r = (done ++ [spotAt s pos line col false]) ++ r := fun r => List.append_cons ..
          rw [hraw, e]
          refine ih (pos + (Utf8.decode s pos).2) _ _ (done ++ [spotAt s pos line col false]) _ (by omega) (by omega) (by simp <;> omega) ?_ (.inr ⟨done, spotAt s pos line col false, rfl, rfl, pos, (Utf8.decode s pos).2, rfl, rfl, rfl⟩)
          intro x hx
          rcases List.mem_append.1 hx with hx | hx
          · exact hfalse x hx
          · simp at hx; subst hx; rfl
        have hfin : if (Int.ofNat (Utf8.decode s pos).1 == (10 : Int)) = true then
              Goes (T_ref1_Spots s) (.jmp (.l5 (IntKind.i64.wrap (line + 1)) (done ++ [(Int.ofNat (Utf8.decode s pos).1, Int.ofNat pos, 0, line, col, false)]) (pos + (Utf8.decode s pos).2) 1)) ((done ++ rawFrom s (n + 1) pos line col).map tellBad)
            else Goes (T_ref1_Spots s) (.jmp (.l5 line (done ++ [(Int.ofNat (Utf8.decode s pos).1, Int.ofNat pos, 0, line, col, false)]) (pos + (Utf8.decode s pos).2) (IntKind.i64.wrap (col + 1)))) ((done ++ rawFrom s (n + 1) pos line col).map tellBad) := by
          split
          · rename_i hr
            exact hnext _ _ (by simp only [v_glyph_step, hr, cond_true]) (by simp only [v_glyph_step, hr, cond_true])
          · rename_i hr
            rw [Bool.not_eq_true] at hr
            exact hnext _ _ (by simp only [v_glyph_step, hr, cond_false]) (by simp only [v_glyph_step, hr, cond_false])
        rcases hinv with ⟨rfl, rfl⟩ | ⟨ini, x, rfl, rfl, a, m, ha, hm, ham⟩
        · have hb : Nat.ble ((([] : List (El T_glyph_Spot)).length + 1) * 48) limit = true := by decide
          simp only [h, decide_true, if_true, hb]
          rw [if_neg (by simp)]
          exact hfin
        · have hlen : (ini ++ [noSize x]).length = ini.length + 1 := by simp
          have hd2 : ini.length + 1 ≤ pos := by simpa using hd
          have hw : IntKind.i64.wrap (Int.ofNat (ini ++ [noSize x]).length - 1) = (ini.length : Int) := by rw [hlen, wrap_i64 (by simp <;> omega) (by simp <;> omega)]; simp
          have hg : (ini ++ [noSize x]).getD ini.length (dflt T_glyph_Spot) = noSize x := by simp [List.getD]
          have hset : ∀ y, (ini ++ [noSize x]).set ini.length y = ini ++ [y] := fun y => by simp
          have hat : IntKind.i64.wrap (Int.ofNat pos - (noSize x).2.1) = x.2.2.1 := by
            show IntKind.i64.wrap (Int.ofNat pos - x.2.1) = _
            rw [ha, hm, wrap_i64 (by simp <;> omega) (by simp <;> omega)]
            simp; omega
          have hy : ((noSize x).1, (noSize x).2.1, x.2.2.1, (noSize x).2.2.2) = x := rfl
          have hgt : decide (Int.ofNat (ini ++ [noSize x]).length > 0) = true := by rw [hlen]; simp <;> omega
          have hb : Nat.ble (((ini ++ [x]).length + 1) * 48) limit = true := by
            apply Nat.ble_eq_true_of_le; unfold limit; simp <;> omega
          have hlt : ini.length < (ini ++ [noSize x]).length := by simp
          simp only [h, decide_true, if_true, hgt, hw, lt_len hlt, nng, Bool.and_self, Int.toNat_natCast, hg, hset, hat, hy, hb]
          exact hfin
      · have hend : rawFrom s (n + 1) pos line col = [] := by rw [rawFrom, if_neg h]
        have hpos : pos = s.size := by omega
        rw [hend, List.append_nil]
        simp only [h, decide_false]
        rw [if_neg (by simp)]
        rcases hinv with ⟨rfl, rfl⟩ | ⟨ini, x, rfl, rfl, a, m, ha, hm, ham⟩
        · rw [if_neg (by simp)]
          exact loop2 [] [] (by simp) (by simp)
        · have hlen : (ini ++ [noSize x]).length = ini.length + 1 := by simp
          have hd2 : ini.length + 1 ≤ pos := by simpa using hd
          have hw : IntKind.i64.wrap (Int.ofNat (ini ++ [noSize x]).length - 1) = (ini.length : Int) := by rw [hlen, wrap_i64 (by simp <;> omega) (by simp <;> omega)]; simp
          have hg : (ini ++ [noSize x]).getD ini.length (dflt T_glyph_Spot) = noSize x := by simp [List.getD]
          have hset : ∀ y, (ini ++ [noSize x]).set ini.length y = ini ++ [y] := fun y => by simp
          have hat : IntKind.i64.wrap (Int.ofNat s.size - (noSize x).2.1) = x.2.2.1 := by
            show IntKind.i64.wrap (Int.ofNat s.size - x.2.1) = _
            rw [ha, hm, wrap_i64 (by simp <;> omega) (by simp <;> omega)]
            simp; omega
          have hy : ((noSize x).1, (noSize x).2.1, x.2.2.1, (noSize x).2.2.2) = x := rfl
          have hgt : decide (Int.ofNat (ini ++ [noSize x]).length > 0) = true := by rw [hlen]; simp <;> omega
          have hlt : ini.length < (ini ++ [noSize x]).length := by simp
          simp only [if_true, hgt, hw, lt_len hlt, nng, Bool.and_self, Int.toNat_natCast, hg, hset, hat, hy]
          exact loop2 (ini ++ [x]) [] (by simp <;> omega) hfalse
  unfold T0_ref1_Spots v_ref1_Spots spots
  have := loop1 (s.size + 1) 0 1 1 [] [] (by omega) (by omega) (by simp) (by simp) (.inl ⟨rfl, rfl⟩)
  rw [List.nil_append, raw_spots] at this
  exact this

end Go.Ev
end

section
set_option linter.unusedSectionVars false
set_option linter.unusedVariables false
set_option linter.unusedSimpArgs false
set_option maxRecDepth 100000
set_option linter.unusedVariables false
open Go Go.Ev
namespace Go.Ev
noncomputable section
noncomputable def e_ref1_Spots : Run := entG sg_ref1_Spots R_ref1_Spots (fun a => k_ref1_Spots a.1) (fun a => v_ref1_Spots a.1)
theorem ok_ref1_Spots : EntOK Go.Proofs.Tryz.prog 84 e_ref1_Spots := entG_ok (tb := tb_ref1_Spots) (c := c_ref1_Spots) tk_ref1_Spots (by kernel_rfl) (by kernel_rfl) (by kernel_rfl) (fun a => by kernel_rfl) fun ⟨s, _⟩ hk => evF_goes (c := c_ref1_Spots) (K := fun v => (R_ref1_Spots v, tps (toForms sg_ref1_Spots (s, ())))) (S := S_ref1_Spots s) (by kernel_rfl) (en_ref1_Spots s) (lp_ref1_Spots s) (g_ref1_Spots s hk)
end
end Go.Ev
end

section
set_option linter.unusedSectionVars false
set_option linter.unusedVariables false
set_option linter.unusedSimpArgs false
set_option maxRecDepth 100000
set_option linter.unusedVariables false
open Go Go.Ev
namespace Go.Ev
noncomputable section
/-! ### paling/palingref1.Regs -/
def sg_ref1_Regs : Sig := []
noncomputable def t_ref1_Regs : Tbl := []
theorem tk_ref1_Regs : ∀ p ∈ t_ref1_Regs, EntOK Go.Proofs.Tryz.prog p.1 p.2 := tbl_nil
noncomputable def c_ref1_Regs : Code := Go.Proofs.Tryz.f112.body.getD .skip
def tb_ref1_Regs : Tb := []
def T_ref1_Regs : Empty → JT Empty (List ByteArray) := fun j => nomatch j
def T0_ref1_Regs : JT Empty (List ByteArray) :=
  .leaf ([(bs [114, 97, 120]), (bs [114, 98, 120]), (bs [114, 99, 120]), (bs [114, 100, 120]), (bs [114, 115, 105]), (bs [114, 100, 105]), (bs [114, 56]), (bs [114, 57])])
def v_ref1_Regs : List ByteArray :=
  ([(bs [114, 97, 120]), (bs [114, 98, 120]), (bs [114, 99, 120]), (bs [114, 100, 120]), (bs [114, 115, 105]), (bs [114, 100, 105]), (bs [114, 56]), (bs [114, 57])])
theorem g_ref1_Regs : Goes (T_ref1_Regs) (T0_ref1_Regs) (v_ref1_Regs) :=
  Goes.leaf
def R_ref1_Regs : List ByteArray → AV := fun (r : List ByteArray) => .rw 9 .str r
def S_ref1_Regs : Empty → Nat × St := fun j => nomatch j
theorem en_ref1_Regs (L : Lt) : entryA Go.Proofs.Tryz.prog (clOf t_ref1_Regs) tb_ref1_Regs Go.Proofs.Tryz.f112 c_ref1_Regs L (toForms sg_ref1_Regs (())) = (T0_ref1_Regs).run (fun v => some (R_ref1_Regs v, tps (toForms sg_ref1_Regs (())))) fun j => L (S_ref1_Regs j).1 (S_ref1_Regs j).2 := by kernel_rfl
theorem lp_ref1_Regs : ∀ (L : Lt) (j : Empty), procOf (procsF Go.Proofs.Tryz.prog (clOf t_ref1_Regs) tb_ref1_Regs Go.Proofs.Tryz.f112 c_ref1_Regs (toForms sg_ref1_Regs (()))) (S_ref1_Regs j).1 L (S_ref1_Regs j).2 = (T_ref1_Regs j).run (fun v => some (R_ref1_Regs v, tps (toForms sg_ref1_Regs (())))) fun j => L (S_ref1_Regs j).1 (S_ref1_Regs j).2 := fun L j => nomatch j
noncomputable def e_ref1_Regs : Run := entT sg_ref1_Regs R_ref1_Regs (fun a => v_ref1_Regs)
theorem ok_ref1_Regs : EntOK Go.Proofs.Tryz.prog 112 e_ref1_Regs := entT_ok (tb := tb_ref1_Regs) (c := c_ref1_Regs) tk_ref1_Regs (by kernel_rfl) (by kernel_rfl) (by kernel_rfl) (fun a => by kernel_rfl) fun _ => evF_goes (c := c_ref1_Regs) (K := fun v => (R_ref1_Regs v, tps (toForms sg_ref1_Regs (())))) (S := S_ref1_Regs) (by kernel_rfl) (en_ref1_Regs) (lp_ref1_Regs) (g_ref1_Regs)
end
end Go.Ev
end

section
set_option linter.unusedSectionVars false
set_option linter.unusedVariables false
set_option linter.unusedSimpArgs false
set_option maxRecDepth 100000
set_option linter.unusedVariables false
open Go Go.Ev
namespace Go.Ev
noncomputable section
/-! ### paling/palingref1.ops -/
def sg_ref1_ops : Sig := []
noncomputable def t_ref1_ops : Tbl := []
theorem tk_ref1_ops : ∀ p ∈ t_ref1_ops, EntOK Go.Proofs.Tryz.prog p.1 p.2 := tbl_nil
noncomputable def c_ref1_ops : Code := Go.Proofs.Tryz.f113.body.getD .skip
def tb_ref1_ops : Tb := []
def T_ref1_ops : Empty → JT Empty (List ByteArray) := fun j => nomatch j
def T0_ref1_ops : JT Empty (List ByteArray) :=
  .leaf ([(bs []), (bs [109, 111, 118]), (bs [97, 100, 100]), (bs [115, 117, 98]), (bs [97, 110, 100]), (bs [111, 114]), (bs [120, 111, 114]), (bs [99, 109, 112]), (bs [120, 99, 104, 103]), (bs [99, 109, 112, 120, 99, 104, 103]), (bs [106, 109, 112]), (bs []), (bs [109, 102, 101, 110, 99, 101]), (bs [110, 111, 112]), (bs [104, 108, 116])])
def v_ref1_ops : List ByteArray :=
  ([(bs []), (bs [109, 111, 118]), (bs [97, 100, 100]), (bs [115, 117, 98]), (bs [97, 110, 100]), (bs [111, 114]), (bs [120, 111, 114]), (bs [99, 109, 112]), (bs [120, 99, 104, 103]), (bs [99, 109, 112, 120, 99, 104, 103]), (bs [106, 109, 112]), (bs []), (bs [109, 102, 101, 110, 99, 101]), (bs [110, 111, 112]), (bs [104, 108, 116])])
theorem g_ref1_ops : Goes (T_ref1_ops) (T0_ref1_ops) (v_ref1_ops) :=
  Goes.leaf
def R_ref1_ops : List ByteArray → AV := fun (r : List ByteArray) => .rw 9 .str r
def S_ref1_ops : Empty → Nat × St := fun j => nomatch j
theorem en_ref1_ops (L : Lt) : entryA Go.Proofs.Tryz.prog (clOf t_ref1_ops) tb_ref1_ops Go.Proofs.Tryz.f113 c_ref1_ops L (toForms sg_ref1_ops (())) = (T0_ref1_ops).run (fun v => some (R_ref1_ops v, tps (toForms sg_ref1_ops (())))) fun j => L (S_ref1_ops j).1 (S_ref1_ops j).2 := by kernel_rfl
theorem lp_ref1_ops : ∀ (L : Lt) (j : Empty), procOf (procsF Go.Proofs.Tryz.prog (clOf t_ref1_ops) tb_ref1_ops Go.Proofs.Tryz.f113 c_ref1_ops (toForms sg_ref1_ops (()))) (S_ref1_ops j).1 L (S_ref1_ops j).2 = (T_ref1_ops j).run (fun v => some (R_ref1_ops v, tps (toForms sg_ref1_ops (())))) fun j => L (S_ref1_ops j).1 (S_ref1_ops j).2 := fun L j => nomatch j
noncomputable def e_ref1_ops : Run := entT sg_ref1_ops R_ref1_ops (fun a => v_ref1_ops)
theorem ok_ref1_ops : EntOK Go.Proofs.Tryz.prog 113 e_ref1_ops := entT_ok (tb := tb_ref1_ops) (c := c_ref1_ops) tk_ref1_ops (by kernel_rfl) (by kernel_rfl) (by kernel_rfl) (fun a => by kernel_rfl) fun _ => evF_goes (c := c_ref1_ops) (K := fun v => (R_ref1_ops v, tps (toForms sg_ref1_ops (())))) (S := S_ref1_ops) (by kernel_rfl) (en_ref1_ops) (lp_ref1_ops) (g_ref1_ops)
end
end Go.Ev
end

section
set_option linter.unusedSectionVars false
set_option linter.unusedVariables false
set_option linter.unusedSimpArgs false
set_option maxRecDepth 100000
set_option linter.unusedVariables false
open Go Go.Ev
namespace Go.Ev
noncomputable section
/-! ### paling/palingref1.conds -/
def sg_ref1_conds : Sig := []
noncomputable def t_ref1_conds : Tbl := []
theorem tk_ref1_conds : ∀ p ∈ t_ref1_conds, EntOK Go.Proofs.Tryz.prog p.1 p.2 := tbl_nil
noncomputable def c_ref1_conds : Code := Go.Proofs.Tryz.f114.body.getD .skip
def tb_ref1_conds : Tb := []
def T_ref1_conds : Empty → JT Empty (List ByteArray) := fun j => nomatch j
def T0_ref1_conds : JT Empty (List ByteArray) :=
  .leaf ([(bs []), (bs [106, 101]), (bs [106, 110, 101]), (bs [106, 108]), (bs [106, 108, 101]), (bs [106, 103]), (bs [106, 103, 101]), (bs [106, 98]), (bs [106, 98, 101]), (bs [106, 97]), (bs [106, 97, 101])])
def v_ref1_conds : List ByteArray :=
  ([(bs []), (bs [106, 101]), (bs [106, 110, 101]), (bs [106, 108]), (bs [106, 108, 101]), (bs [106, 103]), (bs [106, 103, 101]), (bs [106, 98]), (bs [106, 98, 101]), (bs [106, 97]), (bs [106, 97, 101])])
theorem g_ref1_conds : Goes (T_ref1_conds) (T0_ref1_conds) (v_ref1_conds) :=
  Goes.leaf
def R_ref1_conds : List ByteArray → AV := fun (r : List ByteArray) => .rw 9 .str r
def S_ref1_conds : Empty → Nat × St := fun j => nomatch j
theorem en_ref1_conds (L : Lt) : entryA Go.Proofs.Tryz.prog (clOf t_ref1_conds) tb_ref1_conds Go.Proofs.Tryz.f114 c_ref1_conds L (toForms sg_ref1_conds (())) = (T0_ref1_conds).run (fun v => some (R_ref1_conds v, tps (toForms sg_ref1_conds (())))) fun j => L (S_ref1_conds j).1 (S_ref1_conds j).2 := by kernel_rfl
theorem lp_ref1_conds : ∀ (L : Lt) (j : Empty), procOf (procsF Go.Proofs.Tryz.prog (clOf t_ref1_conds) tb_ref1_conds Go.Proofs.Tryz.f114 c_ref1_conds (toForms sg_ref1_conds (()))) (S_ref1_conds j).1 L (S_ref1_conds j).2 = (T_ref1_conds j).run (fun v => some (R_ref1_conds v, tps (toForms sg_ref1_conds (())))) fun j => L (S_ref1_conds j).1 (S_ref1_conds j).2 := fun L j => nomatch j
noncomputable def e_ref1_conds : Run := entT sg_ref1_conds R_ref1_conds (fun a => v_ref1_conds)
theorem ok_ref1_conds : EntOK Go.Proofs.Tryz.prog 114 e_ref1_conds := entT_ok (tb := tb_ref1_conds) (c := c_ref1_conds) tk_ref1_conds (by kernel_rfl) (by kernel_rfl) (by kernel_rfl) (fun a => by kernel_rfl) fun _ => evF_goes (c := c_ref1_conds) (K := fun v => (R_ref1_conds v, tps (toForms sg_ref1_conds (())))) (S := S_ref1_conds) (by kernel_rfl) (en_ref1_conds) (lp_ref1_conds) (g_ref1_conds)
end
end Go.Ev
end

section
set_option linter.unusedSectionVars false
set_option linter.unusedVariables false
set_option linter.unusedSimpArgs false
set_option maxRecDepth 100000
set_option linter.unusedVariables false
open Go Go.Ev
namespace Go.Ev
noncomputable section
/-! ### paling/palingref1.Word -/
def sg_ref1_Word : Sig := [(false, .str)]
noncomputable def t_ref1_Word : Tbl := [(112, e_ref1_Regs), (89, e_ref1_index), (113, e_ref1_ops), (114, e_ref1_conds)]
theorem tk_ref1_Word : ∀ p ∈ t_ref1_Word, EntOK Go.Proofs.Tryz.prog p.1 p.2 := tbl_cons ok_ref1_Regs (tbl_cons ok_ref1_index (tbl_cons ok_ref1_ops (tbl_cons ok_ref1_conds (tbl_nil))))
noncomputable def c_ref1_Word : Code := Go.Proofs.Tryz.f85.body.getD .skip
def tb_ref1_Word : Tb := []
def T_ref1_Word (s : ByteArray) : Empty → JT Empty (Bool) := fun j => nomatch j
def T0_ref1_Word (s : ByteArray) : JT Empty (Bool) :=
  .br (! (eqB s (bs [])))
    (.br (eqB s (bs [115, 121, 109]))
      (.leaf true)
    (.br (eqB s (bs [116, 104, 114, 101, 97, 100]))
      (.leaf true)
    (.br (eqB s (bs [108, 111, 99, 107]))
      (.leaf true)
    (.br (k_ref1_index v_ref1_Regs s)
      (.br (decide ((v_ref1_index v_ref1_Regs s) ≥ (0 : Int)))
        (.leaf true)
      (.br (k_ref1_index v_ref1_ops s)
        (.br (decide ((v_ref1_index v_ref1_ops s) > (0 : Int)))
          (.leaf true)
        (.br (k_ref1_index v_ref1_conds s)
          (.leaf (decide ((v_ref1_index v_ref1_conds s) > (0 : Int))))
        (.no)))
      (.no)))
    (.no)))))
  (.leaf false)
def u_ref1_Word (s : ByteArray) : Bool :=
  bif (! (eqB s (bs []))) then
    bif (eqB s (bs [115, 121, 109])) then
      true
    else bif (eqB s (bs [116, 104, 114, 101, 97, 100])) then
      true
    else bif (eqB s (bs [108, 111, 99, 107])) then
      true
    else bif (k_ref1_index v_ref1_Regs s) then
      bif (decide ((v_ref1_index v_ref1_Regs s) ≥ (0 : Int))) then
        true
      else bif (k_ref1_index v_ref1_ops s) then
        bif (decide ((v_ref1_index v_ref1_ops s) > (0 : Int))) then
          true
        else bif (k_ref1_index v_ref1_conds s) then
          (decide ((v_ref1_index v_ref1_conds s) > (0 : Int)))
        else false
      else false
    else false
  else false
def ku_ref1_Word (s : ByteArray) : Bool :=
  bif (! (eqB s (bs []))) then
    bif (eqB s (bs [115, 121, 109])) then
      true
    else bif (eqB s (bs [116, 104, 114, 101, 97, 100])) then
      true
    else bif (eqB s (bs [108, 111, 99, 107])) then
      true
    else bif (k_ref1_index v_ref1_Regs s) then
      bif (decide ((v_ref1_index v_ref1_Regs s) ≥ (0 : Int))) then
        true
      else bif (k_ref1_index v_ref1_ops s) then
        bif (decide ((v_ref1_index v_ref1_ops s) > (0 : Int))) then
          true
        else bif (k_ref1_index v_ref1_conds s) then
          true
        else false
      else false
    else false
  else true
theorem gu_ref1_Word (s : ByteArray) (hk : ku_ref1_Word s = true) : Goes (T_ref1_Word s) (T0_ref1_Word s) (u_ref1_Word s) :=
  Goes.brk hk (fun hk =>
    Goes.brk hk (fun hk =>
      Goes.leaf) (fun hk =>
      Goes.brk hk (fun hk =>
        Goes.leaf) (fun hk =>
        Goes.brk hk (fun hk =>
          Goes.leaf) (fun hk =>
          Goes.brk hk (fun hk =>
            Goes.brk hk (fun hk =>
              Goes.leaf) (fun hk =>
              Goes.brk hk (fun hk =>
                Goes.brk hk (fun hk =>
                  Goes.leaf) (fun hk =>
                  Goes.brk hk (fun hk =>
                    Goes.leaf) (fun hk =>
                    Goes.nok hk))) (fun hk =>
                Goes.nok hk))) (fun hk =>
            Goes.nok hk))))) (fun hk =>
    Goes.leaf)
def R_ref1_Word : Bool → AV := fun (r : Bool) => .d .bool r
def S_ref1_Word (s : ByteArray) : Empty → Nat × St := fun j => nomatch j
theorem en_ref1_Word (s : ByteArray) (L : Lt) : entryA Go.Proofs.Tryz.prog (clOf t_ref1_Word) tb_ref1_Word Go.Proofs.Tryz.f85 c_ref1_Word L (toForms sg_ref1_Word (s, ())) = (T0_ref1_Word s).run (fun v => some (R_ref1_Word v, tps (toForms sg_ref1_Word (s, ())))) fun j => L (S_ref1_Word s j).1 (S_ref1_Word s j).2 := by kernel_rfl
theorem lp_ref1_Word (s : ByteArray) : ∀ (L : Lt) (j : Empty), procOf (procsF Go.Proofs.Tryz.prog (clOf t_ref1_Word) tb_ref1_Word Go.Proofs.Tryz.f85 c_ref1_Word (toForms sg_ref1_Word (s, ()))) (S_ref1_Word s j).1 L (S_ref1_Word s j).2 = (T_ref1_Word s j).run (fun v => some (R_ref1_Word v, tps (toForms sg_ref1_Word (s, ())))) fun j => L (S_ref1_Word s j).1 (S_ref1_Word s j).2 := fun L j => nomatch j
end
end Go.Ev
end

section
set_option linter.unusedSectionVars false
set_option linter.unusedVariables false
set_option linter.unusedSimpArgs false
set_option linter.unusedVariables false
set_option linter.unusedSimpArgs false
open Go
namespace Go.Ev
def v_ref1_Word (s : ByteArray) : Bool := v_names_Word s
theorem g_ref1_Word (s : ByteArray) : Goes (T_ref1_Word s) (T0_ref1_Word s) (v_ref1_Word s) := by
  have hk : ∀ l : List ByteArray, l.length < 100 → k_ref1_index l s = true := fun l h => decide_eq_true (by omega)
  have h1 : k_ref1_index v_ref1_Regs s = true := hk _ (by decide)
  have h2 : k_ref1_index v_ref1_ops s = true := hk _ (by decide)
  have h3 : k_ref1_index v_ref1_conds s = true := hk _ (by decide)
  have hku : ku_ref1_Word s = true := by
    unfold ku_ref1_Word
    simp only [h1, h2, h3, cond_true]
    cases eqB s (bs []) <;> cases eqB s (bs [115, 121, 109]) <;> cases eqB s (bs [116, 104, 114, 101, 97, 100]) <;> cases eqB s (bs [108, 111, 99, 107]) <;> cases decide (v_ref1_index v_ref1_Regs s ≥ 0) <;> cases decide (v_ref1_index v_ref1_ops s > 0) <;> rfl
  have hv : v_ref1_Word s = u_ref1_Word s := by
    unfold v_ref1_Word u_ref1_Word v_names_Word
    simp only [h1, h2, h3, cond_true, eqB_eq]
    have hr : decide (v_ref1_index v_ref1_Regs s ≥ 0) = (findFrom s v_names_regs 0).isSome := by
      unfold v_ref1_index
      rw [show v_ref1_Regs = v_names_regs from rfl]
      cases findFrom s v_names_regs 0 <;> simp
    have hR : (v_names_Reg s).2 = (findFrom s v_names_regs 0).isSome := by
      unfold v_names_Reg
      cases findFrom s v_names_regs 0 <;> rfl
    rw [hr, hR]
    by_cases h0 : s = bs []
    · subst h0
      decide
    have hidx : ∀ l : List ByteArray, decide (v_ref1_index (bs [] :: l) s > 0) = (findFrom s l 0).isSome := by
      intro l
      unfold v_ref1_index
      rw [show findFrom s (bs [] :: l) 0 = findFrom s l (0 + 1) by rw [findFrom, if_neg (fun e => h0 e.symm)], findFrom_shift (k := 0) (j := 0 + 1)]
      cases h : findFrom s l (0 + 1) with
      | none => simp
      | some n => have := findFrom_some h; simp; omega
    have ho := hidx v_names_ops
    have hj := hidx v_names_jumps
    rw [show v_ref1_ops = bs [] :: v_names_ops from rfl, ho, show v_ref1_conds = bs [] :: v_names_jumps from rfl, hj]
    have hO : (v_names_Op s).2.2 = ((findFrom s v_names_ops 0).isSome || (findFrom s v_names_jumps 0).isSome) := by
      unfold v_names_Op
      rw [if_neg h0]
      cases findFrom s v_names_ops 0 with
      | some k => rfl
      | none => cases findFrom s v_names_jumps 0 <;> rfl
    rw [hO]
    simp only [h0, decide_false, Bool.not_false, cond_true]
    cases (findFrom s v_names_ops 0).isSome <;> cases (findFrom s v_names_jumps 0).isSome <;> rfl
  rw [hv]
  exact gu_ref1_Word s hku

end Go.Ev
end

section
set_option linter.unusedSectionVars false
set_option linter.unusedVariables false
set_option linter.unusedSimpArgs false
set_option maxRecDepth 100000
set_option linter.unusedVariables false
open Go Go.Ev
namespace Go.Ev
noncomputable section
noncomputable def e_ref1_Word : Run := entT sg_ref1_Word R_ref1_Word (fun a => v_ref1_Word a.1)
theorem ok_ref1_Word : EntOK Go.Proofs.Tryz.prog 85 e_ref1_Word := entT_ok (tb := tb_ref1_Word) (c := c_ref1_Word) tk_ref1_Word (by kernel_rfl) (by kernel_rfl) (by kernel_rfl) (fun a => by kernel_rfl) fun ⟨s, _⟩ => evF_goes (c := c_ref1_Word) (K := fun v => (R_ref1_Word v, tps (toForms sg_ref1_Word (s, ())))) (S := S_ref1_Word s) (by kernel_rfl) (en_ref1_Word s) (lp_ref1_Word s) (g_ref1_Word s)
end
end Go.Ev
end

section
set_option linter.unusedSectionVars false
set_option linter.unusedVariables false
set_option linter.unusedSimpArgs false
set_option maxRecDepth 100000
set_option linter.unusedVariables false
open Go Go.Ev
namespace Go.Ev
noncomputable section
/-! ### paling/palingref1.Letter -/
def sg_ref1_Letter : Sig := [(false, (.int .i32))]
noncomputable def t_ref1_Letter : Tbl := []
theorem tk_ref1_Letter : ∀ p ∈ t_ref1_Letter, EntOK Go.Proofs.Tryz.prog p.1 p.2 := tbl_nil
noncomputable def c_ref1_Letter : Code := Go.Proofs.Tryz.f86.body.getD .skip
def tb_ref1_Letter : Tb := []
def T_ref1_Letter (r : Int) : Empty → JT Empty (Bool) := fun j => nomatch j
def T0_ref1_Letter (r : Int) : JT Empty (Bool) :=
  .br (decide (r ≥ (97 : Int)))
    (.br (decide (r ≤ (122 : Int)))
      (.leaf true)
    (.br (decide (r ≥ (65 : Int)))
      (.br (decide (r ≤ (90 : Int)))
        (.leaf true)
      (.br (r == (95 : Int))
        (.leaf true)
      (.br (decide (r ≥ (161 : Int)))
        (.leaf (decide (r ≤ (1114111 : Int))))
      (.leaf false))))
    (.br (r == (95 : Int))
      (.leaf true)
    (.br (decide (r ≥ (161 : Int)))
      (.leaf (decide (r ≤ (1114111 : Int))))
    (.leaf false)))))
  (.br (decide (r ≥ (65 : Int)))
    (.br (decide (r ≤ (90 : Int)))
      (.leaf true)
    (.br (r == (95 : Int))
      (.leaf true)
    (.br (decide (r ≥ (161 : Int)))
      (.leaf (decide (r ≤ (1114111 : Int))))
    (.leaf false))))
  (.br (r == (95 : Int))
    (.leaf true)
  (.br (decide (r ≥ (161 : Int)))
    (.leaf (decide (r ≤ (1114111 : Int))))
  (.leaf false))))
def v_ref1_Letter (r : Int) : Bool :=
  bif (decide (r ≥ (97 : Int))) then
    bif (decide (r ≤ (122 : Int))) then
      true
    else bif (decide (r ≥ (65 : Int))) then
      bif (decide (r ≤ (90 : Int))) then
        true
      else bif (r == (95 : Int)) then
        true
      else bif (decide (r ≥ (161 : Int))) then
        (decide (r ≤ (1114111 : Int)))
      else false
    else bif (r == (95 : Int)) then
      true
    else bif (decide (r ≥ (161 : Int))) then
      (decide (r ≤ (1114111 : Int)))
    else false
  else bif (decide (r ≥ (65 : Int))) then
    bif (decide (r ≤ (90 : Int))) then
      true
    else bif (r == (95 : Int)) then
      true
    else bif (decide (r ≥ (161 : Int))) then
      (decide (r ≤ (1114111 : Int)))
    else false
  else bif (r == (95 : Int)) then
    true
  else bif (decide (r ≥ (161 : Int))) then
    (decide (r ≤ (1114111 : Int)))
  else false
theorem g_ref1_Letter (r : Int) : Goes (T_ref1_Letter r) (T0_ref1_Letter r) (v_ref1_Letter r) :=
  Goes.br (
    Goes.br (
      Goes.leaf) (
      Goes.br (
        Goes.br (
          Goes.leaf) (
          Goes.br (
            Goes.leaf) (
            Goes.br (
              Goes.leaf) (
              Goes.leaf)))) (
        Goes.br (
          Goes.leaf) (
          Goes.br (
            Goes.leaf) (
            Goes.leaf))))) (
    Goes.br (
      Goes.br (
        Goes.leaf) (
        Goes.br (
          Goes.leaf) (
          Goes.br (
            Goes.leaf) (
            Goes.leaf)))) (
      Goes.br (
        Goes.leaf) (
        Goes.br (
          Goes.leaf) (
          Goes.leaf))))
def R_ref1_Letter : Bool → AV := fun (r : Bool) => .d .bool r
def S_ref1_Letter (r : Int) : Empty → Nat × St := fun j => nomatch j
theorem en_ref1_Letter (r : Int) (L : Lt) : entryA Go.Proofs.Tryz.prog (clOf t_ref1_Letter) tb_ref1_Letter Go.Proofs.Tryz.f86 c_ref1_Letter L (toForms sg_ref1_Letter (r, ())) = (T0_ref1_Letter r).run (fun v => some (R_ref1_Letter v, tps (toForms sg_ref1_Letter (r, ())))) fun j => L (S_ref1_Letter r j).1 (S_ref1_Letter r j).2 := by kernel_rfl
theorem lp_ref1_Letter (r : Int) : ∀ (L : Lt) (j : Empty), procOf (procsF Go.Proofs.Tryz.prog (clOf t_ref1_Letter) tb_ref1_Letter Go.Proofs.Tryz.f86 c_ref1_Letter (toForms sg_ref1_Letter (r, ()))) (S_ref1_Letter r j).1 L (S_ref1_Letter r j).2 = (T_ref1_Letter r j).run (fun v => some (R_ref1_Letter v, tps (toForms sg_ref1_Letter (r, ())))) fun j => L (S_ref1_Letter r j).1 (S_ref1_Letter r j).2 := fun L j => nomatch j
noncomputable def e_ref1_Letter : Run := entT sg_ref1_Letter R_ref1_Letter (fun a => v_ref1_Letter a.1)
theorem ok_ref1_Letter : EntOK Go.Proofs.Tryz.prog 86 e_ref1_Letter := entT_ok (tb := tb_ref1_Letter) (c := c_ref1_Letter) tk_ref1_Letter (by kernel_rfl) (by kernel_rfl) (by kernel_rfl) (fun a => by kernel_rfl) fun ⟨r, _⟩ => evF_goes (c := c_ref1_Letter) (K := fun v => (R_ref1_Letter v, tps (toForms sg_ref1_Letter (r, ())))) (S := S_ref1_Letter r) (by kernel_rfl) (en_ref1_Letter r) (lp_ref1_Letter r) (g_ref1_Letter r)
end
end Go.Ev
end

section
set_option linter.unusedSectionVars false
set_option linter.unusedVariables false
set_option linter.unusedSimpArgs false
set_option maxRecDepth 100000
set_option linter.unusedVariables false
open Go Go.Ev
namespace Go.Ev
noncomputable section
/-! ### paling/palingref1.Digit -/
def sg_ref1_Digit : Sig := [(false, (.int .i32))]
noncomputable def t_ref1_Digit : Tbl := []
theorem tk_ref1_Digit : ∀ p ∈ t_ref1_Digit, EntOK Go.Proofs.Tryz.prog p.1 p.2 := tbl_nil
noncomputable def c_ref1_Digit : Code := Go.Proofs.Tryz.f87.body.getD .skip
def tb_ref1_Digit : Tb := []
def T_ref1_Digit (r : Int) : Empty → JT Empty (Bool) := fun j => nomatch j
def T0_ref1_Digit (r : Int) : JT Empty (Bool) :=
  .br (decide (r ≥ (48 : Int)))
    (.leaf (decide (r ≤ (57 : Int))))
  (.leaf false)
def v_ref1_Digit (r : Int) : Bool :=
  bif (decide (r ≥ (48 : Int))) then
    (decide (r ≤ (57 : Int)))
  else false
theorem g_ref1_Digit (r : Int) : Goes (T_ref1_Digit r) (T0_ref1_Digit r) (v_ref1_Digit r) :=
  Goes.br (
    Goes.leaf) (
    Goes.leaf)
def R_ref1_Digit : Bool → AV := fun (r : Bool) => .d .bool r
def S_ref1_Digit (r : Int) : Empty → Nat × St := fun j => nomatch j
theorem en_ref1_Digit (r : Int) (L : Lt) : entryA Go.Proofs.Tryz.prog (clOf t_ref1_Digit) tb_ref1_Digit Go.Proofs.Tryz.f87 c_ref1_Digit L (toForms sg_ref1_Digit (r, ())) = (T0_ref1_Digit r).run (fun v => some (R_ref1_Digit v, tps (toForms sg_ref1_Digit (r, ())))) fun j => L (S_ref1_Digit r j).1 (S_ref1_Digit r j).2 := by kernel_rfl
theorem lp_ref1_Digit (r : Int) : ∀ (L : Lt) (j : Empty), procOf (procsF Go.Proofs.Tryz.prog (clOf t_ref1_Digit) tb_ref1_Digit Go.Proofs.Tryz.f87 c_ref1_Digit (toForms sg_ref1_Digit (r, ()))) (S_ref1_Digit r j).1 L (S_ref1_Digit r j).2 = (T_ref1_Digit r j).run (fun v => some (R_ref1_Digit v, tps (toForms sg_ref1_Digit (r, ())))) fun j => L (S_ref1_Digit r j).1 (S_ref1_Digit r j).2 := fun L j => nomatch j
noncomputable def e_ref1_Digit : Run := entT sg_ref1_Digit R_ref1_Digit (fun a => v_ref1_Digit a.1)
theorem ok_ref1_Digit : EntOK Go.Proofs.Tryz.prog 87 e_ref1_Digit := entT_ok (tb := tb_ref1_Digit) (c := c_ref1_Digit) tk_ref1_Digit (by kernel_rfl) (by kernel_rfl) (by kernel_rfl) (fun a => by kernel_rfl) fun ⟨r, _⟩ => evF_goes (c := c_ref1_Digit) (K := fun v => (R_ref1_Digit v, tps (toForms sg_ref1_Digit (r, ())))) (S := S_ref1_Digit r) (by kernel_rfl) (en_ref1_Digit r) (lp_ref1_Digit r) (g_ref1_Digit r)
end
end Go.Ev
end

section
set_option linter.unusedSectionVars false
set_option linter.unusedVariables false
set_option linter.unusedSimpArgs false
set_option maxRecDepth 100000
set_option linter.unusedVariables false
open Go Go.Ev
namespace Go.Ev
noncomputable section
/-! ### paling/palingref1.Right -/
def sg_ref1_Right : Sig := [(false, .str)]
noncomputable def t_ref1_Right : Tbl := [(84, e_ref1_Spots), (85, e_ref1_Word), (86, e_ref1_Letter), (87, e_ref1_Digit)]
theorem tk_ref1_Right : ∀ p ∈ t_ref1_Right, EntOK Go.Proofs.Tryz.prog p.1 p.2 := tbl_cons ok_ref1_Spots (tbl_cons ok_ref1_Word (tbl_cons ok_ref1_Letter (tbl_cons ok_ref1_Digit (tbl_nil))))
noncomputable def c_ref1_Right : Code := Go.Proofs.Tryz.f68.body.getD .skip
def tb_ref1_Right : Tb := [(7, ⟨[3, 4], []⟩)]
inductive J_ref1_Right where
  | l7 (i : Int)
def T_ref1_Right (s : ByteArray) : J_ref1_Right → JT J_ref1_Right (Bool)
  | .l7 i =>
    .br (decide (i < (Int.ofNat (List.length (v_ref1_Spots s)))))
      (.br ((decide ((0 : Int) ≤ i)) && (decide (i < (Int.ofNat (List.length (v_ref1_Spots s))))))
        (.br (List.getD (v_ref1_Spots s) (Int.toNat i) (dflt T_ref1_Spot)).2.2.2.2.2
          (.leaf false)
        (.br ((decide ((0 : Int) ≤ i)) && (decide (i < (Int.ofNat (List.length (v_ref1_Spots s))))))
          (.br (! (v_ref1_Letter (List.getD (v_ref1_Spots s) (Int.toNat i) (dflt T_ref1_Spot)).1))
            (.br (i == (0 : Int))
              (.leaf false)
            (.br ((decide ((0 : Int) ≤ i)) && (decide (i < (Int.ofNat (List.length (v_ref1_Spots s))))))
              (.br (! (v_ref1_Digit (List.getD (v_ref1_Spots s) (Int.toNat i) (dflt T_ref1_Spot)).1))
                (.leaf false)
              (.jmp (.l7 (IntKind.i64.wrap (i + (1 : Int))))))
            (.no)))
          (.jmp (.l7 (IntKind.i64.wrap (i + (1 : Int))))))
        (.no)))
      (.no))
    (.leaf true)
def T0_ref1_Right (s : ByteArray) : JT J_ref1_Right (Bool) :=
  .br (k_ref1_Spots s)
    (.br (decide ((Int.ofNat (List.length (v_ref1_Spots s))) < (1 : Int)))
      (.leaf false)
    (.br (decide ((Int.ofNat (List.length (v_ref1_Spots s))) > (16 : Int)))
      (.leaf false)
    (.br (v_ref1_Word s)
      (.leaf false)
    (.jmp (.l7 (0 : Int))))))
  (.no)
def R_ref1_Right : Bool → AV := fun (r : Bool) => .d .bool r
def S_ref1_Right (s : ByteArray) : J_ref1_Right → Nat × St
  | .l7 i => (7, ⟨mkTm 52 [(3, .own 4 0 none), (4, .d (.int .i64) i)], [(4, 0, .row 114 T_ref1_Spot (v_ref1_Spots s) false)]⟩)
theorem en_ref1_Right (s : ByteArray) (L : Lt) : entryA Go.Proofs.Tryz.prog (clOf t_ref1_Right) tb_ref1_Right Go.Proofs.Tryz.f68 c_ref1_Right L (toForms sg_ref1_Right (s, ())) = (T0_ref1_Right s).run (fun v => some (R_ref1_Right v, tps (toForms sg_ref1_Right (s, ())))) fun j => L (S_ref1_Right s j).1 (S_ref1_Right s j).2 := by kernel_rfl
theorem lp_ref1_Right (s : ByteArray) : ∀ (L : Lt) (j : J_ref1_Right), procOf (procsF Go.Proofs.Tryz.prog (clOf t_ref1_Right) tb_ref1_Right Go.Proofs.Tryz.f68 c_ref1_Right (toForms sg_ref1_Right (s, ()))) (S_ref1_Right s j).1 L (S_ref1_Right s j).2 = (T_ref1_Right s j).run (fun v => some (R_ref1_Right v, tps (toForms sg_ref1_Right (s, ())))) fun j => L (S_ref1_Right s j).1 (S_ref1_Right s j).2
  | L, .l7 i => by kernel_rfl
end
end Go.Ev
end

section
set_option linter.unusedSectionVars false
set_option linter.unusedVariables false
set_option linter.unusedSimpArgs false
set_option linter.unusedVariables false
set_option linter.unusedSimpArgs false
open Go
namespace Go.Ev
def v_ref1_Right (s : ByteArray) : Bool := nameRight s
def k_ref1_Right (s : ByteArray) : Bool := smallText s
theorem g_ref1_Right (s : ByteArray) (hk : k_ref1_Right s = true) : Goes (T_ref1_Right s) (T0_ref1_Right s) (v_ref1_Right s) := by
  have hs : s.size < 549755813888 := of_decide_eq_true hk
  have hl : (v_ref1_Spots s).length ≤ s.size := spots_length s
  have loop : ∀ k, k ≤ (v_ref1_Spots s).length → Goes (T_ref1_Right s) (.jmp (.l7 (k : Int))) (spotsOK k ((v_ref1_Spots s).drop k)) := by
    refine down ?_ fun k hk ih => ?_
    · rw [goes_jmp]
      simp [T_ref1_Right, goes_br, goes_leaf, spotsOK]
    · rw [goes_jmp]
      dsimp only [T_ref1_Right]
      simp only [goes_br, goes_leaf, lt_len hk, nng, Bool.and_self, if_true, Int.toNat_natCast, getD_lt hk, wrap_succ (k := k) (by omega)]
      rw [drop_cons hk, spotsOK]
      generalize (v_ref1_Spots s)[k] = x at *
      unfold spotOK
      rw [show v_ref1_Letter = v_glyph_Letter from rfl, show v_ref1_Digit = v_glyph_Digit from rfl]
      cases x.2.2.2.2.2
      · cases v_glyph_Letter x.1
        · by_cases h0 : k = 0
          · subst h0; simp
          · have e1 : ((k : Int) == 0) = false := by rw [Bool.eq_false_iff]; simp; omega
            have e2 : (k == 0) = false := by rw [Bool.eq_false_iff]; simpa using h0
            cases v_glyph_Digit x.1
            · simp [e1, e2]
            · simpa [e1, e2] using ih
        · simpa using ih
      · simp
  have hv : v_ref1_Right s = (spotsOK 0 (v_ref1_Spots s) && (decide (1 ≤ (v_ref1_Spots s).length) && (decide ((v_ref1_Spots s).length ≤ 16) && !v_names_Word s))) := rfl
  rw [hv]
  unfold T0_ref1_Right
  simp only [goes_br, show k_ref1_Spots s = true from hk, if_true, v_ref1_Word, goes_leaf]
  by_cases h1 : 1 ≤ (v_ref1_Spots s).length
  · by_cases h2 : (v_ref1_Spots s).length ≤ 16
    · cases v_names_Word s
      · rw [if_neg (by simp <;> omega), if_neg (by simp <;> omega)]
        simpa [h1, h2] using loop 0 (Nat.zero_le _)
      · rw [if_neg (by simp <;> omega), if_neg (by simp <;> omega)]
        simp
    · rw [if_neg (by simp <;> omega), if_pos (by simp <;> omega)]
      simp [h2]
  · rw [if_pos (by simp <;> omega)]
    simp [h1]

end Go.Ev
end

section
set_option linter.unusedSectionVars false
set_option linter.unusedVariables false
set_option linter.unusedSimpArgs false
set_option maxRecDepth 100000
set_option linter.unusedVariables false
open Go Go.Ev
namespace Go.Ev
noncomputable section
noncomputable def e_ref1_Right : Run := entG sg_ref1_Right R_ref1_Right (fun a => k_ref1_Right a.1) (fun a => v_ref1_Right a.1)
theorem ok_ref1_Right : EntOK Go.Proofs.Tryz.prog 68 e_ref1_Right := entG_ok (tb := tb_ref1_Right) (c := c_ref1_Right) tk_ref1_Right (by kernel_rfl) (by kernel_rfl) (by kernel_rfl) (fun a => by kernel_rfl) fun ⟨s, _⟩ hk => evF_goes (c := c_ref1_Right) (K := fun v => (R_ref1_Right v, tps (toForms sg_ref1_Right (s, ())))) (S := S_ref1_Right s) (by kernel_rfl) (en_ref1_Right s) (lp_ref1_Right s) (g_ref1_Right s hk)
end
end Go.Ev
end

section
set_option linter.unusedSectionVars false
set_option linter.unusedVariables false
set_option linter.unusedSimpArgs false
set_option maxRecDepth 100000
set_option linter.unusedVariables false
open Go Go.Ev
namespace Go.Ev
noncomputable section
/-! ### paling/palingref1.Count -/
def sg_ref1_Count : Sig := [(true, (.sl T_api_Ins))]
noncomputable def t_ref1_Count : Tbl := []
theorem tk_ref1_Count : ∀ p ∈ t_ref1_Count, EntOK Go.Proofs.Tryz.prog p.1 p.2 := tbl_nil
noncomputable def c_ref1_Count : Code := Go.Proofs.Tryz.f88.body.getD .skip
def tb_ref1_Count : Tb := [(4, ⟨[1, 3, 4], []⟩)]
inductive J_ref1_Count where
  | l4 (n : Int) (i : Int)
def T_ref1_Count (t : List (El T_api_Ins)) : J_ref1_Count → JT J_ref1_Count (Int)
  | .l4 n i =>
    .br (decide (i < (Int.ofNat (List.length t))))
      (.br ((decide ((0 : Int) ≤ i)) && (decide (i < (Int.ofNat (List.length t)))))
        (.br ((List.getD t (Int.toNat i) (dflt T_api_Ins)).1 != (12 : Int))
          (.jmp (.l4 (IntKind.i64.wrap (n + (1 : Int))) (IntKind.i64.wrap (i + (1 : Int)))))
        (.jmp (.l4 n (IntKind.i64.wrap (i + (1 : Int))))))
      (.no))
    (.leaf n)
def T0_ref1_Count (t : List (El T_api_Ins)) : JT J_ref1_Count (Int) :=
  .jmp (.l4 (0 : Int) (0 : Int))
def R_ref1_Count : Int → AV := fun (r : Int) => .d (.int .i64) r
def S_ref1_Count (t : List (El T_api_Ins)) : J_ref1_Count → Nat × St
  | .l4 n i => (4, ⟨mkTm 22 [(1, .pt 2 0 0), (3, .d (.int .i64) n), (4, .d (.int .i64) i)], [(2, 0, .box 48 [.d (.sl T_api_Ins) t] none)]⟩)
theorem en_ref1_Count (t : List (El T_api_Ins)) (L : Lt) : entryA Go.Proofs.Tryz.prog (clOf t_ref1_Count) tb_ref1_Count Go.Proofs.Tryz.f88 c_ref1_Count L (toForms sg_ref1_Count (t, ())) = (T0_ref1_Count t).run (fun v => some (R_ref1_Count v, tps (toForms sg_ref1_Count (t, ())))) fun j => L (S_ref1_Count t j).1 (S_ref1_Count t j).2 := by kernel_rfl
theorem lp_ref1_Count (t : List (El T_api_Ins)) : ∀ (L : Lt) (j : J_ref1_Count), procOf (procsF Go.Proofs.Tryz.prog (clOf t_ref1_Count) tb_ref1_Count Go.Proofs.Tryz.f88 c_ref1_Count (toForms sg_ref1_Count (t, ()))) (S_ref1_Count t j).1 L (S_ref1_Count t j).2 = (T_ref1_Count t j).run (fun v => some (R_ref1_Count v, tps (toForms sg_ref1_Count (t, ())))) fun j => L (S_ref1_Count t j).1 (S_ref1_Count t j).2
  | L, .l4 n i => by kernel_rfl
end
end Go.Ev
end

section
set_option linter.unusedSectionVars false
set_option linter.unusedVariables false
set_option linter.unusedSimpArgs false
set_option linter.unusedVariables false
set_option linter.unusedSimpArgs false
open Go
namespace Go.Ev
def v_ref1_Count (t : List (El T_api_Ins)) : Int := (countM t : Int)
def k_ref1_Count (t : List (El T_api_Ins)) : Bool := decide (t.length < 1099511627776)
theorem g_ref1_Count (t : List (El T_api_Ins)) (hk : k_ref1_Count t = true) : Goes (T_ref1_Count t) (T0_ref1_Count t) (v_ref1_Count t) := by
  have hn : t.length < 1099511627776 := of_decide_eq_true hk
  have loop : ∀ k, k ≤ t.length → ∀ n : Nat, n ≤ k → Goes (T_ref1_Count t) (.jmp (.l4 (n : Int) (k : Int))) ((n + countM (t.drop k) : Nat) : Int) := by
    refine down ?_ fun k hk ih => ?_
    · intro n hnk
      rw [goes_jmp]
      simp only [T_ref1_Count, goes_br, lt_len_not (Nat.lt_irrefl _), goes_leaf, List.drop_length]
      simp [countM]
    · intro n hnk
      rw [goes_jmp]
      simp only [T_ref1_Count, goes_br, lt_len hk, nng, Bool.and_self, if_true, Int.toNat_natCast, getD_lt hk, wrap_succ (k := k) (by omega), wrap_succ (k := n) (by omega)]
      rw [drop_cons hk]
      unfold countM
      rw [List.filter_cons]
      split
      · rename_i h
        have := ih (n + 1) (by omega)
        unfold countM at this
        rw [List.length_cons, show n + ((List.filter (fun i => i.1 != (12 : Int)) (List.drop (k + 1) t)).length + 1) = n + 1 + (List.filter (fun i => i.1 != (12 : Int)) (List.drop (k + 1) t)).length by omega]
        exact this
      · exact ih n (by omega)
  have := loop 0 (Nat.zero_le _) 0 (Nat.le_refl _)
  unfold T0_ref1_Count v_ref1_Count
  simpa using this
end Go.Ev
end

section
set_option linter.unusedSectionVars false
set_option linter.unusedVariables false
set_option linter.unusedSimpArgs false
set_option maxRecDepth 100000
set_option linter.unusedVariables false
open Go Go.Ev
namespace Go.Ev
noncomputable section
noncomputable def e_ref1_Count : Run := entG sg_ref1_Count R_ref1_Count (fun a => k_ref1_Count a.1) (fun a => v_ref1_Count a.1)
theorem ok_ref1_Count : EntOK Go.Proofs.Tryz.prog 88 e_ref1_Count := entG_ok (tb := tb_ref1_Count) (c := c_ref1_Count) tk_ref1_Count (by kernel_rfl) (by kernel_rfl) (by kernel_rfl) (fun a => by kernel_rfl) fun ⟨t, _⟩ hk => evF_goes (c := c_ref1_Count) (K := fun v => (R_ref1_Count v, tps (toForms sg_ref1_Count (t, ())))) (S := S_ref1_Count t) (by kernel_rfl) (en_ref1_Count t) (lp_ref1_Count t) (g_ref1_Count t hk)
end
end Go.Ev
end

section
set_option linter.unusedSectionVars false
set_option linter.unusedVariables false
set_option linter.unusedSimpArgs false
set_option maxRecDepth 100000
set_option linter.unusedVariables false
open Go Go.Ev
namespace Go.Ev
noncomputable section
/-! ### paling/palingref1.InsRight -/
def sg_ref1_InsRight : Sig := [(true, T_api_Ins)]
noncomputable def t_ref1_InsRight : Tbl := [(78, e_ref1_row), (79, e_ref1_Jumps), (68, e_ref1_Right)]
theorem tk_ref1_InsRight : ∀ p ∈ t_ref1_InsRight, EntOK Go.Proofs.Tryz.prog p.1 p.2 := tbl_cons ok_ref1_row (tbl_cons ok_ref1_Jumps (tbl_cons ok_ref1_Right (tbl_nil)))
noncomputable def c_ref1_InsRight : Code := Go.Proofs.Tryz.f57.body.getD .skip
def tb_ref1_InsRight : Tb := [(2, ⟨[1, 26, 34, 37, 44, 47], []⟩), (5, ⟨[1, 49], []⟩)]
inductive J_ref1_InsRight where
  | l2 (h : Bool)
  | l5 (h : Bool)
def T_ref1_InsRight (i : El T_api_Ins) : J_ref1_InsRight → JT J_ref1_InsRight (Int)
  | .l2 h =>
    .br h
      (.leaf (4 : Int))
    (.br (i.1 == (11 : Int))
      (.br (decide (i.2.2.1 < (1 : Int)))
        (.jmp (.l5 true))
      (.br (decide (i.2.2.1 > (10 : Int)))
        (.jmp (.l5 true))
      (.br (i.1 != (11 : Int))
        (.jmp (.l5 (i.2.2.1 != (0 : Int))))
      (.jmp (.l5 false)))))
    (.br (i.1 != (11 : Int))
      (.jmp (.l5 (i.2.2.1 != (0 : Int))))
    (.jmp (.l5 false))))
  | .l5 h =>
    .br h
      (.leaf (4 : Int))
    (.br (v_ref1_Jumps i.1)
      (.br (k_ref1_Right i.2.2.2.2.2.1)
        (.br (! (v_ref1_Right i.2.2.2.2.2.1))
          (.leaf (3 : Int))
        (.leaf (0 : Int)))
      (.no))
    (.leaf (0 : Int)))
def T0_ref1_InsRight (i : El T_api_Ins) : JT J_ref1_InsRight (Int) :=
  .br (decide (i.1 < (1 : Int)))
    (.jmp (.l2 true))
  (.br (decide (i.1 > (14 : Int)))
    (.jmp (.l2 true))
  (.br (! (v_ref1_row i))
    (.jmp (.l2 true))
  (.br (! (v_ref1_Jumps i.1))
    (.jmp (.l2 (! (eqB i.2.2.2.2.2.1 (bs [])))))
  (.jmp (.l2 false)))))
def v_ref1_InsRight_l5 (i : El T_api_Ins) (h : Bool) : Int :=
  bif h then
    (4 : Int)
  else bif (v_ref1_Jumps i.1) then
    bif (k_ref1_Right i.2.2.2.2.2.1) then
      bif (! (v_ref1_Right i.2.2.2.2.2.1)) then
        (3 : Int)
      else (0 : Int)
    else (0 : Int)
  else (0 : Int)
def k_ref1_InsRight_l5 (i : El T_api_Ins) (h : Bool) : Bool :=
  bif h then
    true
  else bif (v_ref1_Jumps i.1) then
    bif (k_ref1_Right i.2.2.2.2.2.1) then
      bif (! (v_ref1_Right i.2.2.2.2.2.1)) then
        true
      else true
    else false
  else true
theorem g_ref1_InsRight_l5 (i : El T_api_Ins) (h : Bool) (hk : k_ref1_InsRight_l5 i h = true) : Goes (T_ref1_InsRight i) (.jmp (.l5 h)) (v_ref1_InsRight_l5 i h) :=
  Goes.jmp (Goes.brk hk (fun hk =>
    Goes.leaf) (fun hk =>
    Goes.brk hk (fun hk =>
      Goes.brk hk (fun hk =>
        Goes.brk hk (fun hk =>
          Goes.leaf) (fun hk =>
          Goes.leaf)) (fun hk =>
        Goes.nok hk)) (fun hk =>
      Goes.leaf)))
def v_ref1_InsRight_l2 (i : El T_api_Ins) (h : Bool) : Int :=
  bif h then
    (4 : Int)
  else bif (i.1 == (11 : Int)) then
    bif (decide (i.2.2.1 < (1 : Int))) then
      v_ref1_InsRight_l5 i true
    else bif (decide (i.2.2.1 > (10 : Int))) then
      v_ref1_InsRight_l5 i true
    else bif (i.1 != (11 : Int)) then
      v_ref1_InsRight_l5 i (i.2.2.1 != (0 : Int))
    else v_ref1_InsRight_l5 i false
  else bif (i.1 != (11 : Int)) then
    v_ref1_InsRight_l5 i (i.2.2.1 != (0 : Int))
  else v_ref1_InsRight_l5 i false
def k_ref1_InsRight_l2 (i : El T_api_Ins) (h : Bool) : Bool :=
  bif h then
    true
  else bif (i.1 == (11 : Int)) then
    bif (decide (i.2.2.1 < (1 : Int))) then
      k_ref1_InsRight_l5 i true
    else bif (decide (i.2.2.1 > (10 : Int))) then
      k_ref1_InsRight_l5 i true
    else bif (i.1 != (11 : Int)) then
      k_ref1_InsRight_l5 i (i.2.2.1 != (0 : Int))
    else k_ref1_InsRight_l5 i false
  else bif (i.1 != (11 : Int)) then
    k_ref1_InsRight_l5 i (i.2.2.1 != (0 : Int))
  else k_ref1_InsRight_l5 i false
theorem g_ref1_InsRight_l2 (i : El T_api_Ins) (h : Bool) (hk : k_ref1_InsRight_l2 i h = true) : Goes (T_ref1_InsRight i) (.jmp (.l2 h)) (v_ref1_InsRight_l2 i h) :=
  Goes.jmp (Goes.brk hk (fun hk =>
    Goes.leaf) (fun hk =>
    Goes.brk hk (fun hk =>
      Goes.brk hk (fun hk =>
        g_ref1_InsRight_l5 i true hk) (fun hk =>
        Goes.brk hk (fun hk =>
          g_ref1_InsRight_l5 i true hk) (fun hk =>
          Goes.brk hk (fun hk =>
            g_ref1_InsRight_l5 i (i.2.2.1 != (0 : Int)) hk) (fun hk =>
            g_ref1_InsRight_l5 i false hk)))) (fun hk =>
      Goes.brk hk (fun hk =>
        g_ref1_InsRight_l5 i (i.2.2.1 != (0 : Int)) hk) (fun hk =>
        g_ref1_InsRight_l5 i false hk))))
def u_ref1_InsRight (i : El T_api_Ins) : Int :=
  bif (decide (i.1 < (1 : Int))) then
    v_ref1_InsRight_l2 i true
  else bif (decide (i.1 > (14 : Int))) then
    v_ref1_InsRight_l2 i true
  else bif (! (v_ref1_row i)) then
    v_ref1_InsRight_l2 i true
  else bif (! (v_ref1_Jumps i.1)) then
    v_ref1_InsRight_l2 i (! (eqB i.2.2.2.2.2.1 (bs [])))
  else v_ref1_InsRight_l2 i false
def ku_ref1_InsRight (i : El T_api_Ins) : Bool :=
  bif (decide (i.1 < (1 : Int))) then
    k_ref1_InsRight_l2 i true
  else bif (decide (i.1 > (14 : Int))) then
    k_ref1_InsRight_l2 i true
  else bif (! (v_ref1_row i)) then
    k_ref1_InsRight_l2 i true
  else bif (! (v_ref1_Jumps i.1)) then
    k_ref1_InsRight_l2 i (! (eqB i.2.2.2.2.2.1 (bs [])))
  else k_ref1_InsRight_l2 i false
theorem gu_ref1_InsRight (i : El T_api_Ins) (hk : ku_ref1_InsRight i = true) : Goes (T_ref1_InsRight i) (T0_ref1_InsRight i) (u_ref1_InsRight i) :=
  Goes.brk hk (fun hk =>
    g_ref1_InsRight_l2 i true hk) (fun hk =>
    Goes.brk hk (fun hk =>
      g_ref1_InsRight_l2 i true hk) (fun hk =>
      Goes.brk hk (fun hk =>
        g_ref1_InsRight_l2 i true hk) (fun hk =>
        Goes.brk hk (fun hk =>
          g_ref1_InsRight_l2 i (! (eqB i.2.2.2.2.2.1 (bs []))) hk) (fun hk =>
          g_ref1_InsRight_l2 i false hk))))
def R_ref1_InsRight : Int → AV := fun (r : Int) => .d (.int .i64) r
def S_ref1_InsRight (i : El T_api_Ins) : J_ref1_InsRight → Nat × St
  | .l2 h => (2, ⟨mkTm 59 [(1, .pt 2 0 0), (26, .d .bool h)], [(2, 0, .box 61 [.d (.int .i64) i.1, .d .bool i.2.1, .d (.int .i64) i.2.2.1, .d (.int .i64) i.2.2.2.1.1, .d (.int .i64) i.2.2.2.1.2.1, .d (.int .i64) i.2.2.2.1.2.2.1, .d (.int .i64) i.2.2.2.1.2.2.2, .d (.int .i64) i.2.2.2.2.1.1, .d (.int .i64) i.2.2.2.2.1.2.1, .d (.int .i64) i.2.2.2.2.1.2.2.1, .d (.int .i64) i.2.2.2.2.1.2.2.2, .d .str i.2.2.2.2.2.1, .d (.sl .str) i.2.2.2.2.2.2] none)]⟩)
  | .l5 h => (5, ⟨mkTm 59 [(1, .pt 2 0 0), (49, .d .bool h)], [(2, 0, .box 61 [.d (.int .i64) i.1, .d .bool i.2.1, .d (.int .i64) i.2.2.1, .d (.int .i64) i.2.2.2.1.1, .d (.int .i64) i.2.2.2.1.2.1, .d (.int .i64) i.2.2.2.1.2.2.1, .d (.int .i64) i.2.2.2.1.2.2.2, .d (.int .i64) i.2.2.2.2.1.1, .d (.int .i64) i.2.2.2.2.1.2.1, .d (.int .i64) i.2.2.2.2.1.2.2.1, .d (.int .i64) i.2.2.2.2.1.2.2.2, .d .str i.2.2.2.2.2.1, .d (.sl .str) i.2.2.2.2.2.2] none)]⟩)
theorem en_ref1_InsRight (i : El T_api_Ins) (L : Lt) : entryA Go.Proofs.Tryz.prog (clOf t_ref1_InsRight) tb_ref1_InsRight Go.Proofs.Tryz.f57 c_ref1_InsRight L (toForms sg_ref1_InsRight (i, ())) = (T0_ref1_InsRight i).run (fun v => some (R_ref1_InsRight v, tps (toForms sg_ref1_InsRight (i, ())))) fun j => L (S_ref1_InsRight i j).1 (S_ref1_InsRight i j).2 := by kernel_rfl
theorem lp_ref1_InsRight (i : El T_api_Ins) : ∀ (L : Lt) (j : J_ref1_InsRight), procOf (procsF Go.Proofs.Tryz.prog (clOf t_ref1_InsRight) tb_ref1_InsRight Go.Proofs.Tryz.f57 c_ref1_InsRight (toForms sg_ref1_InsRight (i, ()))) (S_ref1_InsRight i j).1 L (S_ref1_InsRight i j).2 = (T_ref1_InsRight i j).run (fun v => some (R_ref1_InsRight v, tps (toForms sg_ref1_InsRight (i, ())))) fun j => L (S_ref1_InsRight i j).1 (S_ref1_InsRight i j).2
  | L, .l2 h => by kernel_rfl
  | L, .l5 h => by kernel_rfl
end
end Go.Ev
end

section
set_option linter.unusedSectionVars false
set_option linter.unusedVariables false
set_option linter.unusedSimpArgs false
set_option linter.unusedVariables false
set_option linter.unusedSimpArgs false
open Go
namespace Go.Ev
def refRB_l5 (op cond : Int) (row nm te : Bool) (h : Bool) : Int :=
  bif h then
    (4 : Int)
  else bif (bif (op == (10 : Int)) then true else (op == (11 : Int))) then
    bif true then
      bif (! nm) then
        (3 : Int)
      else (0 : Int)
    else (0 : Int)
  else (0 : Int)
def refRB_l2 (op cond : Int) (row nm te : Bool) (h : Bool) : Int :=
  bif h then
    (4 : Int)
  else bif (op == (11 : Int)) then
    bif (decide (cond < (1 : Int))) then
      refRB_l5 op cond row nm te true
    else bif (decide (cond > (10 : Int))) then
      refRB_l5 op cond row nm te true
    else bif (op != (11 : Int)) then
      refRB_l5 op cond row nm te (cond != (0 : Int))
    else refRB_l5 op cond row nm te false
  else bif (op != (11 : Int)) then
    refRB_l5 op cond row nm te (cond != (0 : Int))
  else refRB_l5 op cond row nm te false
def refRB (op cond : Int) (row nm te : Bool) : Int :=
  bif (decide (op < (1 : Int))) then
    refRB_l2 op cond row nm te true
  else bif (decide (op > (14 : Int))) then
    refRB_l2 op cond row nm te true
  else bif (! row) then
    refRB_l2 op cond row nm te true
  else bif (! (bif (op == (10 : Int)) then true else (op == (11 : Int)))) then
    refRB_l2 op cond row nm te (! te)
  else refRB_l2 op cond row nm te false
def insRB (op cond : Int) (row nm te : Bool) : Int :=
  bif (op == (10 : Int)) then
    bif (! (decide (1 ≤ op) && (decide (op ≤ 14) && (row && condOK op cond)))) then
      (4 : Int)
    else bif true then
      bif (! nm) then
        (3 : Int)
      else (0 : Int)
    else (0 : Int)
  else bif (! (decide (1 ≤ op) && (decide (op ≤ 14) && (row && condOK op cond)))) then
    (4 : Int)
  else bif (! (op == (11 : Int))) then
    bif (! te) then
      (4 : Int)
    else bif (op == (11 : Int)) then
      bif true then
        bif (! nm) then
          (3 : Int)
        else (0 : Int)
      else (0 : Int)
    else (0 : Int)
  else bif (op == (11 : Int)) then
    bif true then
      bif (! nm) then
        (3 : Int)
      else (0 : Int)
    else (0 : Int)
  else (0 : Int)

theorem rightB (op cond : Int) (row nm te : Bool) : refRB op cond row nm te = insRB op cond row nm te := by
  unfold refRB refRB_l2 refRB_l5 insRB condOK
  have beqs : ∀ (k c : Int), (k == c) = decide (k = c) := fun k c => by rw [Bool.eq_iff_iff]; simp
  have bnes : ∀ (k c : Int), (k != c) = !decide (k = c) := fun k c => by rw [Bool.eq_iff_iff]; simp
  simp only [beqs, bnes]
  by_cases h1 : op < 1
  · have e1 : decide (op = 10) = false := by simp; omega
    have e2 : decide (op = 11) = false := by simp; omega
    have e3 : decide (1 ≤ op) = false := by simp; omega
    simp [h1, e1, e2, e3]
  by_cases h2 : op > 14
  · have e1 : decide (op = 10) = false := by simp; omega
    have e2 : decide (op = 11) = false := by simp; omega
    have e3 : decide (op ≤ 14) = false := by simp; omega
    simp [h1, h2, e1, e2, e3]
  have e3 : decide (1 ≤ op) = true := by simp; omega
  have e4 : decide (op ≤ 14) = true := by simp; omega
  by_cases h10 : op = 10
  · subst h10
    by_cases hc : cond = 0 <;> cases row <;> cases nm <;> simp [hc]
  by_cases h11 : op = 11
  · subst h11
    have f1 : decide (1 ≤ cond) = !decide (cond < 1) := by by_cases h : cond < 1 <;> simp [h] <;> omega
    have f2 : decide (cond ≤ 10) = !decide (cond > 10) := by by_cases h : cond > 10 <;> simp [h] <;> omega
    rw [f1, f2]
    by_cases hc : cond < 1 <;> by_cases hd : cond > 10 <;> cases row <;> cases nm <;> simp [hc, hd]
  by_cases hc : cond = 0 <;> cases row <;> cases te <;> simp [h1, h2, h10, h11, e3, e4, hc]
def v_ref1_InsRight (i : El T_api_Ins) : Int := v_ins_Right i
def k_ref1_InsRight (i : El T_api_Ins) : Bool := smallText i.2.2.2.2.2.1
theorem g_ref1_InsRight (i : El T_api_Ins) (hk : k_ref1_InsRight i = true) : Goes (T_ref1_InsRight i) (T0_ref1_InsRight i) (v_ref1_InsRight i) := by
  have h1 : k_ref1_Right i.2.2.2.2.2.1 = true := hk
  have h2 : k_names_Right i.2.2.2.2.2.1 = true := hk
  have hku : ku_ref1_InsRight i = true := by
    unfold ku_ref1_InsRight k_ref1_InsRight_l2 k_ref1_InsRight_l5
    simp only [h1, cond_true, Bool.cond_self]
  have hr : u_ref1_InsRight i = refRB i.1 i.2.2.1 (v_ref1_row i) (nameRight i.2.2.2.2.2.1) (eqB i.2.2.2.2.2.1 (bs [])) := by
    unfold u_ref1_InsRight v_ref1_InsRight_l2 v_ref1_InsRight_l5
    simp only [h1]
    rfl
  have hp : u_ins_Right i = insRB i.1 i.2.2.1 (v_ref1_row i) (nameRight i.2.2.2.2.2.1) (eqB i.2.2.2.2.2.1 (bs [])) := by
    unfold u_ins_Right
    simp only [h2, fits_row]
    rfl
  have e : v_ref1_InsRight i = u_ref1_InsRight i := by
    rw [hr, rightB, ← hp]
    rfl
  rw [e]
  exact gu_ref1_InsRight i hku
end Go.Ev
end

section
set_option linter.unusedSectionVars false
set_option linter.unusedVariables false
set_option linter.unusedSimpArgs false
set_option maxRecDepth 100000
set_option linter.unusedVariables false
open Go Go.Ev
namespace Go.Ev
noncomputable section
noncomputable def e_ref1_InsRight : Run := entG sg_ref1_InsRight R_ref1_InsRight (fun a => k_ref1_InsRight a.1) (fun a => v_ref1_InsRight a.1)
theorem ok_ref1_InsRight : EntOK Go.Proofs.Tryz.prog 57 e_ref1_InsRight := entG_ok (tb := tb_ref1_InsRight) (c := c_ref1_InsRight) tk_ref1_InsRight (by kernel_rfl) (by kernel_rfl) (by kernel_rfl) (fun a => by kernel_rfl) fun ⟨i, _⟩ hk => evF_goes (c := c_ref1_InsRight) (K := fun v => (R_ref1_InsRight v, tps (toForms sg_ref1_InsRight (i, ())))) (S := S_ref1_InsRight i) (by kernel_rfl) (en_ref1_InsRight i) (lp_ref1_InsRight i) (g_ref1_InsRight i hk)
end
end Go.Ev
end

section
set_option linter.unusedSectionVars false
set_option linter.unusedVariables false
set_option linter.unusedSimpArgs false
set_option maxRecDepth 100000
set_option linter.unusedVariables false
open Go Go.Ev
namespace Go.Ev
noncomputable section
/-! ### paling/palingref1.operand -/
def sg_ref1_operand : Sig := [(true, T_api_Prog), (true, T_api_Opd)]
noncomputable def t_ref1_operand : Tbl := [(58, e_ref1_Memory)]
theorem tk_ref1_operand : ∀ p ∈ t_ref1_operand, EntOK Go.Proofs.Tryz.prog p.1 p.2 := tbl_cons ok_ref1_Memory (tbl_nil)
noncomputable def c_ref1_operand : Code := Go.Proofs.Tryz.f90.body.getD .skip
def tb_ref1_operand : Tb := []
def T_ref1_operand (p : El T_api_Prog) (o : El T_api_Opd) : Empty → JT Empty (Int) := fun j => nomatch j
def T0_ref1_operand (p : El T_api_Prog) (o : El T_api_Opd) : JT Empty (Int) :=
  .br (! (v_ref1_Memory o))
    (.leaf (0 : Int))
  (.br (decide (o.2.2.1 ≥ (Int.ofNat (List.length p.1))))
    (.leaf (7 : Int))
  (.br (o.1 == (3 : Int))
    (.br ((decide ((0 : Int) ≤ o.2.2.1)) && (decide (o.2.2.1 < (Int.ofNat (List.length p.1)))))
      (.br (decide (o.2.2.2 ≥ (List.getD p.1 (Int.toNat o.2.2.1) (dflt T_api_Sym)).2.1))
        (.leaf (8 : Int))
      (.leaf (0 : Int)))
    (.no))
  (.leaf (0 : Int))))
def v_ref1_operand (p : El T_api_Prog) (o : El T_api_Opd) : Int :=
  bif (! (v_ref1_Memory o)) then
    (0 : Int)
  else bif (decide (o.2.2.1 ≥ (Int.ofNat (List.length p.1)))) then
    (7 : Int)
  else bif (o.1 == (3 : Int)) then
    bif ((decide ((0 : Int) ≤ o.2.2.1)) && (decide (o.2.2.1 < (Int.ofNat (List.length p.1))))) then
      bif (decide (o.2.2.2 ≥ (List.getD p.1 (Int.toNat o.2.2.1) (dflt T_api_Sym)).2.1)) then
        (8 : Int)
      else (0 : Int)
    else (0 : Int)
  else (0 : Int)
def k_ref1_operand (p : El T_api_Prog) (o : El T_api_Opd) : Bool :=
  bif (! (v_ref1_Memory o)) then
    true
  else bif (decide (o.2.2.1 ≥ (Int.ofNat (List.length p.1)))) then
    true
  else bif (o.1 == (3 : Int)) then
    bif ((decide ((0 : Int) ≤ o.2.2.1)) && (decide (o.2.2.1 < (Int.ofNat (List.length p.1))))) then
      bif (decide (o.2.2.2 ≥ (List.getD p.1 (Int.toNat o.2.2.1) (dflt T_api_Sym)).2.1)) then
        true
      else true
    else false
  else true
theorem g_ref1_operand (p : El T_api_Prog) (o : El T_api_Opd) (hk : k_ref1_operand p o = true) : Goes (T_ref1_operand p o) (T0_ref1_operand p o) (v_ref1_operand p o) :=
  Goes.brk hk (fun hk =>
    Goes.leaf) (fun hk =>
    Goes.brk hk (fun hk =>
      Goes.leaf) (fun hk =>
      Goes.brk hk (fun hk =>
        Goes.brk hk (fun hk =>
          Goes.brk hk (fun hk =>
            Goes.leaf) (fun hk =>
            Goes.leaf)) (fun hk =>
          Goes.nok hk)) (fun hk =>
        Goes.leaf)))
def R_ref1_operand : Int → AV := fun (r : Int) => .d (.int .i64) r
def S_ref1_operand (p : El T_api_Prog) (o : El T_api_Opd) : Empty → Nat × St := fun j => nomatch j
theorem en_ref1_operand (p : El T_api_Prog) (o : El T_api_Opd) (L : Lt) : entryA Go.Proofs.Tryz.prog (clOf t_ref1_operand) tb_ref1_operand Go.Proofs.Tryz.f90 c_ref1_operand L (toForms sg_ref1_operand (p, o, ())) = (T0_ref1_operand p o).run (fun v => some (R_ref1_operand v, tps (toForms sg_ref1_operand (p, o, ())))) fun j => L (S_ref1_operand p o j).1 (S_ref1_operand p o j).2 := by kernel_rfl
theorem lp_ref1_operand (p : El T_api_Prog) (o : El T_api_Opd) : ∀ (L : Lt) (j : Empty), procOf (procsF Go.Proofs.Tryz.prog (clOf t_ref1_operand) tb_ref1_operand Go.Proofs.Tryz.f90 c_ref1_operand (toForms sg_ref1_operand (p, o, ()))) (S_ref1_operand p o j).1 L (S_ref1_operand p o j).2 = (T_ref1_operand p o j).run (fun v => some (R_ref1_operand v, tps (toForms sg_ref1_operand (p, o, ())))) fun j => L (S_ref1_operand p o j).1 (S_ref1_operand p o j).2 := fun L j => nomatch j
noncomputable def e_ref1_operand : Run := entG sg_ref1_operand R_ref1_operand (fun a => k_ref1_operand a.1 a.2.1) (fun a => v_ref1_operand a.1 a.2.1)
theorem ok_ref1_operand : EntOK Go.Proofs.Tryz.prog 90 e_ref1_operand := entG_ok (tb := tb_ref1_operand) (c := c_ref1_operand) tk_ref1_operand (by kernel_rfl) (by kernel_rfl) (by kernel_rfl) (fun a => by kernel_rfl) fun ⟨p, o, _⟩ hk => evF_goes (c := c_ref1_operand) (K := fun v => (R_ref1_operand v, tps (toForms sg_ref1_operand (p, o, ())))) (S := S_ref1_operand p o) (by kernel_rfl) (en_ref1_operand p o) (lp_ref1_operand p o) (g_ref1_operand p o hk)
end
end Go.Ev
end

section
set_option linter.unusedSectionVars false
set_option linter.unusedVariables false
set_option linter.unusedSimpArgs false
set_option maxRecDepth 100000
set_option linter.unusedVariables false
open Go Go.Ev
namespace Go.Ev
noncomputable section
/-! ### paling/palingref1.Find -/
def sg_ref1_Find : Sig := [(true, (.sl T_api_Ins)), (false, .str)]
noncomputable def t_ref1_Find : Tbl := [(89, e_ref1_index)]
theorem tk_ref1_Find : ∀ p ∈ t_ref1_Find, EntOK Go.Proofs.Tryz.prog p.1 p.2 := tbl_cons ok_ref1_index (tbl_nil)
noncomputable def c_ref1_Find : Code := Go.Proofs.Tryz.f91.body.getD .skip
def tb_ref1_Find : Tb := [(3, ⟨[1, 2, 5], []⟩)]
inductive J_ref1_Find where
  | l3 (i : Int)
def T_ref1_Find (t : List (El T_api_Ins)) (label : ByteArray) : J_ref1_Find → JT J_ref1_Find (Int)
  | .l3 i =>
    .br (decide (i < (Int.ofNat (List.length t))))
      (.br ((decide ((0 : Int) ≤ i)) && (decide (i < (Int.ofNat (List.length t)))))
        (.br (k_ref1_index (List.getD t (Int.toNat i) (dflt T_api_Ins)).2.2.2.2.2.2 label)
          (.br (decide ((v_ref1_index (List.getD t (Int.toNat i) (dflt T_api_Ins)).2.2.2.2.2.2 label) ≥ (0 : Int)))
            (.leaf i)
          (.jmp (.l3 (IntKind.i64.wrap (i + (1 : Int))))))
        (.no))
      (.no))
    (.leaf (-1 : Int))
def T0_ref1_Find (t : List (El T_api_Ins)) (label : ByteArray) : JT J_ref1_Find (Int) :=
  .jmp (.l3 (0 : Int))
def R_ref1_Find : Int → AV := fun (r : Int) => .d (.int .i64) r
def S_ref1_Find (t : List (El T_api_Ins)) (label : ByteArray) : J_ref1_Find → Nat × St
  | .l3 i => (3, ⟨mkTm 23 [(1, .d .str label), (2, .pt 3 0 0), (5, .d (.int .i64) i)], [(3, 0, .box 48 [.d (.sl T_api_Ins) t] none)]⟩)
theorem en_ref1_Find (t : List (El T_api_Ins)) (label : ByteArray) (L : Lt) : entryA Go.Proofs.Tryz.prog (clOf t_ref1_Find) tb_ref1_Find Go.Proofs.Tryz.f91 c_ref1_Find L (toForms sg_ref1_Find (t, label, ())) = (T0_ref1_Find t label).run (fun v => some (R_ref1_Find v, tps (toForms sg_ref1_Find (t, label, ())))) fun j => L (S_ref1_Find t label j).1 (S_ref1_Find t label j).2 := by kernel_rfl
theorem lp_ref1_Find (t : List (El T_api_Ins)) (label : ByteArray) : ∀ (L : Lt) (j : J_ref1_Find), procOf (procsF Go.Proofs.Tryz.prog (clOf t_ref1_Find) tb_ref1_Find Go.Proofs.Tryz.f91 c_ref1_Find (toForms sg_ref1_Find (t, label, ()))) (S_ref1_Find t label j).1 L (S_ref1_Find t label j).2 = (T_ref1_Find t label j).run (fun v => some (R_ref1_Find v, tps (toForms sg_ref1_Find (t, label, ())))) fun j => L (S_ref1_Find t label j).1 (S_ref1_Find t label j).2
  | L, .l3 i => by kernel_rfl
end
end Go.Ev
end

section
set_option linter.unusedSectionVars false
set_option linter.unusedVariables false
set_option linter.unusedSimpArgs false
set_option linter.unusedVariables false
set_option linter.unusedSimpArgs false
open Go
namespace Go.Ev
def v_ref1_Find (t : List (El T_api_Ins)) (label : ByteArray) : Int := findI label t 0
def k_ref1_Find (t : List (El T_api_Ins)) (label : ByteArray) : Bool := decide (t.length < 1099511627776) && t.all fun i => decide (i.2.2.2.2.2.2.length < 1099511627776)
theorem g_ref1_Find (t : List (El T_api_Ins)) (label : ByteArray) (hk : k_ref1_Find t label = true) : Goes (T_ref1_Find t label) (T0_ref1_Find t label) (v_ref1_Find t label) := by
  unfold k_ref1_Find at hk
  simp only [Bool.and_eq_true, decide_eq_true_eq, List.all_eq_true] at hk
  obtain ⟨hn, hl⟩ := hk
  have loop : ∀ k, k ≤ t.length → Goes (T_ref1_Find t label) (.jmp (.l3 (k : Int))) (findI label (t.drop k) k) := by
    refine down ?_ fun k hk ih => ?_
    · rw [goes_jmp]
      simp only [T_ref1_Find, goes_br, lt_len_not (Nat.lt_irrefl _), goes_leaf, List.drop_length]
      simp [findI]
    · have hli := hl t[k] (List.getElem_mem hk)
      have hki : k_ref1_index t[k].2.2.2.2.2.2 label = true := decide_eq_true (by omega)
      rw [goes_jmp]
      simp only [T_ref1_Find, goes_br, lt_len hk, nng, Bool.and_self, if_true, Int.toNat_natCast, getD_lt hk, wrap_succ (k := k) (by omega), hki]
      rw [drop_cons hk]
      unfold findI
      have hi : decide (v_ref1_index t[k].2.2.2.2.2.2 label ≥ 0) = t[k].2.2.2.2.2.2.contains label := by
        rw [← findFrom_contains (k := 0)]
        unfold v_ref1_index
        cases h : findFrom label t[k].2.2.2.2.2.2 0 with
        | none => rfl
        | some n => simp
      rw [hi]
      split
      · exact .leaf
      · exact ih
  unfold T0_ref1_Find v_ref1_Find
  simpa using loop 0 (Nat.zero_le _)
end Go.Ev
end

section
set_option linter.unusedSectionVars false
set_option linter.unusedVariables false
set_option linter.unusedSimpArgs false
set_option maxRecDepth 100000
set_option linter.unusedVariables false
open Go Go.Ev
namespace Go.Ev
noncomputable section
noncomputable def e_ref1_Find : Run := entG sg_ref1_Find R_ref1_Find (fun a => k_ref1_Find a.1 a.2.1) (fun a => v_ref1_Find a.1 a.2.1)
theorem ok_ref1_Find : EntOK Go.Proofs.Tryz.prog 91 e_ref1_Find := entG_ok (tb := tb_ref1_Find) (c := c_ref1_Find) tk_ref1_Find (by kernel_rfl) (by kernel_rfl) (by kernel_rfl) (fun a => by kernel_rfl) fun ⟨t, label, _⟩ hk => evF_goes (c := c_ref1_Find) (K := fun v => (R_ref1_Find v, tps (toForms sg_ref1_Find (t, label, ())))) (S := S_ref1_Find t label) (by kernel_rfl) (en_ref1_Find t label) (lp_ref1_Find t label) (g_ref1_Find t label hk)
end
end Go.Ev
end

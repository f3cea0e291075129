/- Part of the proof of: the law TouchMade holds: the accesses of a program that may be are what the document says -/
import Derived.Test.YtlppmbooakcmaaaDoorCon1
section
set_option linter.unusedSectionVars false
set_option linter.unusedVariables false
set_option linter.unusedSimpArgs false
/- The programs that the book makes may be. -/
set_option maxRecDepth 100000
set_option linter.unusedVariables false
set_option linter.unusedSimpArgs false
namespace Go.Ev
open Go
theorem setL_right (i : El T_api_Ins) (ls : List ByteArray) : v_ins_Right (setL i ls) = v_ins_Right i := rfl
theorem setL_to (i : El T_api_Ins) (ls : List ByteArray) : (setL i ls).2.2.2.2.2.1 = i.2.2.2.2.2.1 := rfl
theorem place_book {th : List (List (El T_api_Ins))} {k r s n : Int} (h : k = 3 ∨ k = 4 → placeOK k s n = true) : placeC (symsB, th) (k, (r, (s, n))) = 0 := by
  show placeN 3 _ k s n = 0
  unfold placeN
  by_cases hk : k = 3 ∨ k = 4
  · rw [if_pos hk]
    have := h hk
    unfold placeOK at this
    simp only [Bool.and_eq_true, decide_eq_true_eq, Bool.or_eq_true, beq_iff_eq] at this
    obtain ⟨h0, h3, hn⟩ := this
    rw [if_neg (by omega)]
    have hs : s = 0 ∨ s = 1 ∨ s = 2 := by omega
    rcases hs with rfl | rfl | rfl
    · rw [if_neg]
      rintro ⟨h1, h2⟩
      have h2 : (1 : Int) ≤ n := h2
      rcases hn with hn | hn
      · omega
      · have hn : n < (1 : Int) := hn
        omega
    · rw [if_neg]
      rintro ⟨h1, h2⟩
      have h2 : (2 : Int) ≤ n := h2
      rcases hn with hn | hn
      · omega
      · have hn : n < (2 : Int) := hn
        omega
    · rw [if_neg]
      rintro ⟨h1, h2⟩
      have h2 : (1 : Int) ≤ n := h2
      rcases hn with hn | hn
      · omega
      · have hn : n < (1 : Int) := hn
        omega
  · rw [if_neg hk]
theorem insC_book {th : List (List (El T_api_Ins))} {many : Int} {i : El T_api_Ins} (h : BookOK many i) (ls : List ByteArray) : insC (symsB, th) (setL i ls) = 0 := by
  have hA : placeC (symsB, th) i.2.2.2.1 = 0 := place_book (k := i.2.2.2.1.1) (r := i.2.2.2.1.2.1) (s := i.2.2.2.1.2.2.1) (n := i.2.2.2.1.2.2.2) h.placeA
  have hB : placeC (symsB, th) i.2.2.2.2.1 = 0 := place_book (k := i.2.2.2.2.1.1) (r := i.2.2.2.2.1.2.1) (s := i.2.2.2.2.1.2.2.1) (n := i.2.2.2.2.1.2.2.2) h.placeB
  unfold insC
  rw [setL_right, h.right]
  show (if (0 : Int) ≠ 0 then _ else if placeC (symsB, th) i.2.2.2.1 ≠ 0 then _ else placeC (symsB, th) i.2.2.2.2.1) = 0
  rw [hA, hB]
  rfl
theorem scanI_lab {p : El T_api_Prog} {K : List ByteArray → Int} : ∀ (x : List (El T_api_Ins)) (k : Nat) (seen : List ByteArray),
    (∀ (j : Nat) (i : El T_api_Ins), x[j]? = some i → (i.2.2.2.2.2.2 = [] ∨ i.2.2.2.2.2.2 = [v_book_label ((k + j : Nat) : Int)]) ∧ insC p i = 0) → (∀ l ∈ seen, ∃ k', k' < k ∧ l = v_book_label (k' : Int)) → k + x.length ≤ 100 → scanI p K seen x = K (seen ++ labels x)
  | [], k, seen, _, _, _ => by simp [scanI, labels]
  | i :: r, k, seen, h, hs, hk => by
    obtain ⟨hl, hi⟩ := h 0 i rfl
    rw [List.length_cons] at hk
    have hr := fun seen' hs' => scanI_lab (K := K) r (k + 1) seen' (fun j y hy => by
      have := h (j + 1) y (by simpa using hy)
      rwa [show k + (j + 1) = k + 1 + j by omega] at this) hs' (by omega)
    unfold scanI
    rcases hl with hl | hl
    · rw [hl]
      unfold scanL
      rw [hi]
      simp only [ne_eq, not_true_eq_false, if_false]
      rw [hr seen fun l hl => by obtain ⟨k', h1, h2⟩ := hs l hl; exact ⟨k', by omega, h2⟩]
      unfold labels
      rw [List.flatMap_cons, hl, List.nil_append]
    · rw [hl, Nat.add_zero]
      unfold scanL
      rw [if_neg (by rw [(label_right (k := (k : Int)) (by omega) (by omega)).1]; decide)]
      have hns : seen.contains (v_book_label (k : Int)) = false := by
        rw [Bool.eq_false_iff]
        intro hc
        rw [List.contains_iff_mem] at hc
        obtain ⟨k', h1, h2⟩ := hs _ hc
        have := label_inj (by omega) (by omega) h2
        omega
      rw [if_neg (by rw [hns]; decide)]
      unfold scanL
      rw [hi]
      simp only [ne_eq, not_true_eq_false, if_false]
      rw [hr _ fun l hl => by
        rcases List.mem_append.1 hl with hl | hl
        · obtain ⟨k', h1, h2⟩ := hs l hl; exact ⟨k', by omega, h2⟩
        · rw [List.mem_singleton] at hl; exact ⟨k, by omega, hl⟩]
      unfold labels
      rw [List.flatMap_cons, hl, Nat.add_zero, List.append_assoc]
theorem jumpC_lab {seen : List ByteArray} : ∀ {x : List (El T_api_Ins)}, (∀ i ∈ x, ((i.1 == (10 : Int)) || (i.1 == (11 : Int))) = true → seen.contains i.2.2.2.2.2.1 = true) → jumpC seen x = 0
  | [], _ => rfl
  | i :: r, h => by
    unfold jumpC
    have ih := jumpC_lab fun j hj => h j (List.mem_cons_of_mem _ hj)
    by_cases hj : ((i.1 == (10 : Int)) || (i.1 == (11 : Int))) = true
    · rw [if_pos hj, if_pos (h i (List.mem_cons_self ..) hj)]; exact ih
    · rw [if_neg hj]; exact ih
/-- What stands in a thread of the book. -/
theorem threadB_get {a : List (El T_book_Act)} {n : Nat} (hn : n ≤ 90) (ha : n ≤ a.length) {k : Nat} {i : El T_api_Ins} (h : (threadB a n)[k]? = some i) :
    (k < n ∧ ∃ x, (baseT a n)[k]? = some x ∧ BookOK ((n + 1 : Nat) : Int) x ∧ i = setL x (if sAt (baseT a n) n k then [v_book_label (k : Int)] else [])) ∨ (k = n ∧ i = setL (bare 14) (if sAt (baseT a n) n k then [v_book_label (k : Int)] else [])) := by
  have hl := baseT_len a n ha
  obtain ⟨hk, he⟩ := List.getElem?_eq_some_iff.1 h
  unfold threadB at hk he
  rw [withL_get hk] at he
  rw [withL_len, hl] at hk
  by_cases hkn : k < n
  · obtain ⟨x, h1, h2⟩ := baseT_book hn hkn ha
    obtain ⟨h3, h4⟩ := List.getElem?_eq_some_iff.1 h1
    rw [h4] at he
    exact .inl ⟨hkn, _, h1, h2, he.symm⟩
  · have hkn : k = n := by omega
    subst hkn
    have : (baseT a k)[k]'(by omega) = bare 14 := by
      unfold baseT
      rw [List.getElem_append_right (by simp; omega)]
      simp
    rw [this] at he
    exact .inr ⟨rfl, he.symm⟩
theorem bare14_book (many : Int) (ls : List ByteArray) {th : List (List (El T_api_Ins))} : insC (symsB, th) (setL (bare 14) ls) = 0 := by
  unfold insC
  rw [setL_right, bare_right (.inr (.inr rfl))]
  rfl
theorem labels_get {x : List (El T_api_Ins)} {k : Nat} {i : El T_api_Ins} {l : ByteArray} (h : x[k]? = some i) (hl : l ∈ i.2.2.2.2.2.2) : (labels x).contains l = true := by
  rw [List.contains_iff_mem]
  unfold labels
  exact List.mem_flatMap.2 ⟨i, List.mem_of_getElem? h, hl⟩
theorem threadC_book {a : List (El T_book_Act)} {n : Nat} (hn : n ≤ 90) (ha : n ≤ a.length) {th : List (List (El T_api_Ins))} : threadC (symsB, th) (threadB a n) = 0 := by
  have hlen : (threadB a n).length = n + 1 := by unfold threadB; rw [withL_len, baseT_len a n ha]
  unfold threadC
  have hc := countM_le (threadB a n)
  rw [if_neg (by omega), scanI_lab (threadB a n) 0 [] (fun j i h => by
    rw [Nat.zero_add]
    rcases threadB_get hn ha h with ⟨_, x, _, hx, rfl⟩ | ⟨_, rfl⟩
    · refine ⟨?_, insC_book hx _⟩
      show (if _ then [v_book_label (j : Int)] else []) = [] ∨ (if _ then [v_book_label (j : Int)] else []) = [v_book_label (j : Int)]
      split
      · exact .inr rfl
      · exact .inl rfl
    · refine ⟨?_, bare14_book 0 _⟩
      show (if _ then [v_book_label (j : Int)] else []) = [] ∨ (if _ then [v_book_label (j : Int)] else []) = [v_book_label (j : Int)]
      split
      · exact .inr rfl
      · exact .inl rfl) (fun l hl => by cases hl) (by omega)]
  rw [List.nil_append, endC_eq (by omega)]
  have hlast : (threadB a n)[(threadB a n).length - 1]? = some ((threadB a n)[(threadB a n).length - 1]'(by omega)) := List.getElem?_eq_getElem (by omega)
  have h14 : (((threadB a n)[(threadB a n).length - 1]'(by omega)).1 == (10 : Int) || ((threadB a n)[(threadB a n).length - 1]'(by omega)).1 == (14 : Int)) = true := by
    rcases threadB_get hn ha hlast with ⟨h1, _⟩ | ⟨_, h2⟩
    · omega
    · rw [h2]; rfl
  rw [if_pos h14]
  refine jumpC_lab fun i hi hj => ?_
  obtain ⟨k, hk⟩ := List.getElem?_of_mem hi
  rcases threadB_get hn ha hk with ⟨hkn, x, hx, hb, rfl⟩ | ⟨_, rfl⟩
  · rw [setL_to]
    rcases hb.to with ⟨h1, h2, _⟩ | ⟨_, m, m0, m1, e⟩
    · exfalso
      have hj : ((x.1 == (10 : Int)) || (x.1 == (11 : Int))) = true := hj
      simp only [Bool.or_eq_true, beq_iff_eq] at hj
      rcases hj with hj | hj
      · exact h1 hj
      · exact h2 hj
    · rw [e]
      obtain ⟨q, rfl⟩ : ∃ q : Nat, m = (q : Int) := ⟨m.toNat, by omega⟩
      have hqn : q < n + 1 := by omega
      have hq : (threadB a n)[q]? = some ((threadB a n)[q]'(by omega)) := List.getElem?_eq_getElem (by omega)
      have hs : sAt (baseT a n) n q = true := by
        unfold sAt
        rw [List.any_eq_true]
        exact ⟨x, List.mem_of_getElem? (i := k) (by rw [List.getElem?_take, if_pos hkn]; exact hx), decide_eq_true e⟩
      refine labels_get hq ?_
      rcases threadB_get hn ha hq with ⟨_, y, _, _, h2⟩ | ⟨_, h2⟩
      · rw [h2, hs]; exact List.mem_singleton.2 rfl
      · rw [h2, hs]; exact List.mem_singleton.2 rfl
  · cases hj
theorem small_book {a : List (El T_book_Act)} {n : Nat} (hn : n ≤ 90) (ha : n ≤ a.length) : smallThread (threadB a n) = true := by
  have hlen : (threadB a n).length = n + 1 := by unfold threadB; rw [withL_len, baseT_len a n ha]
  have hlab : ∀ i ∈ threadB a n, smallText i.2.2.2.2.2.1 = true ∧ i.2.2.2.2.2.2.length ≤ 1 ∧ ∀ l ∈ i.2.2.2.2.2.2, smallText l = true := fun i hi => by
    obtain ⟨k, hk⟩ := List.getElem?_of_mem hi
    have hkl := (List.getElem?_eq_some_iff.1 hk).1
    have hls : ∀ b : Bool, (if b = true then [v_book_label (k : Int)] else []).length ≤ 1 ∧ ∀ l ∈ (if b = true then [v_book_label (k : Int)] else []), smallText l = true := fun b => by
      cases b with
      | false => exact ⟨by simp, fun l hl => by simp at hl⟩
      | true => exact ⟨by simp, fun l hl => by
          rw [if_pos rfl, List.mem_singleton] at hl
          rw [hl]; exact (label_right (by omega) (by omega)).2⟩
    rcases threadB_get hn ha hk with ⟨hkn, x, hx, hb, rfl⟩ | ⟨_, rfl⟩
    · exact ⟨hb.small (by omega), hls _⟩
    · exact ⟨(by decide : smallText (bs []) = true), hls _⟩
  have := labels_le (t := threadB a n) (n := 1) fun i hi => (hlab i hi).2.1
  unfold smallThread
  simp only [Bool.and_eq_true, decide_eq_true_eq, List.all_eq_true]
  exact ⟨by omega, by omega, fun i hi => ⟨(hlab i hi).1, (hlab i hi).2.2⟩⟩
theorem symsC_book (K : Int) : symsC K [] symsB = K := by kernel_rfl
theorem thsC_zero {p : El T_api_Prog} : ∀ {th : List (List (El T_api_Ins))}, (∀ t ∈ th, threadC p t = 0) → thsC p th = 0
  | [], _ => rfl
  | t :: r, h => by
    unfold thsC
    rw [h t (List.mem_cons_self ..)]
    simp only [ne_eq, not_true_eq_false, if_false]
    exact thsC_zero fun x hx => h x (List.mem_cons_of_mem _ hx)
theorem book_valid (l : List (List (El T_book_Act))) {threads many : Int} (h0 : 0 ≤ threads) (h1 : threads ≤ 64) (m0 : 0 ≤ many) (m1 : many ≤ 90) : checkC (v_book_Prog l threads many) = 0 ∧ smallProg (v_book_Prog l threads many) = true ∧ k_book_Prog l threads many = true := by
  refine ⟨?_, ?_, ?_⟩
  · unfold checkC v_book_Prog
    show (if 64 < symsB.length ∨ 64 < ((l.take threads.toNat).map fun a => threadB a (min a.length many.toNat)).length then (10 : Int) else symsC (thsC _ ((l.take threads.toNat).map fun a => threadB a (min a.length many.toNat))) [] symsB) = 0
    rw [if_neg, symsC_book]
    · exact thsC_zero fun t ht => by
        obtain ⟨a, _, rfl⟩ := List.mem_map.1 ht
        exact threadC_book (by omega) (by omega)
    · rw [List.length_map, List.length_take]
      have : symsB.length = 3 := rfl
      omega
  · unfold smallProg v_book_Prog
    simp only [Bool.and_eq_true, List.all_eq_true]
    refine ⟨?_, fun t ht => ?_⟩
    · have : symsB.all (fun s => smallText s.1) = true := by decide +kernel
      rw [List.all_eq_true] at this
      exact this
    · obtain ⟨a, _, rfl⟩ := List.mem_map.1 ht
      exact small_book (by omega) (by omega)
  · unfold k_book_Prog
    simp only [Bool.and_eq_true, decide_eq_true_eq]
    omega
end Go.Ev
end

section
set_option linter.unusedSectionVars false
set_option linter.unusedVariables false
set_option linter.unusedSimpArgs false
/- The book's programs are small, all in all. -/
set_option linter.unusedVariables false
namespace Go.Ev
open Go
theorem book_all (l : List (List (El T_book_Act))) {threads many : Int} (h0 : 0 ≤ threads) (h1 : threads ≤ 64) (m0 : 0 ≤ many) (m1 : many ≤ 90) : smallAll (v_book_Prog l threads many) = true ∧ (v_book_Prog l threads many).2.length ≤ threads.toNat := by
  have hs := (book_valid l h0 h1 m0 m1).2.1
  have hl : (v_book_Prog l threads many).2.length ≤ threads.toNat := by
    show ((l.take threads.toNat).map fun a => threadB a (min a.length many.toNat)).length ≤ _
    rw [List.length_map, List.length_take]; omega
  have ht := total_le (l := (v_book_Prog l threads many).2) (n := 91) fun t hm => by
    obtain ⟨a, _, rfl⟩ := List.mem_map.1 (show t ∈ (l.take threads.toNat).map fun a => threadB a (min a.length many.toNat) from hm)
    show (threadB a _).length ≤ 91
    unfold threadB
    rw [withL_len, baseT_len a _ (by omega)]
    omega
  refine ⟨?_, hl⟩
  unfold smallAll
  simp only [Bool.and_eq_true, decide_eq_true_eq]
  exact ⟨hs, by omega, by omega⟩
end Go.Ev
end

section
set_option linter.unusedSectionVars false
set_option linter.unusedVariables false
set_option linter.unusedSimpArgs false
set_option linter.unusedVariables false
set_option linter.unusedSimpArgs false
open Go
namespace Go.Ev
def v_law22_TouchMade (l : List (List (El T_book_Act))) : Bool := true
def k_law22_TouchMade (l : List (List (El T_book_Act))) : Bool := true
theorem g_law22_TouchMade (l : List (List (El T_book_Act))) (hk : k_law22_TouchMade l = true) : Goes (T_law22_TouchMade l) (T0_law22_TouchMade l) (v_law22_TouchMade l) := by
  obtain ⟨hall, hlen⟩ := book_all l (threads := 3) (many := 9) (by omega) (by omega) (by omega) (by omega)
  have hkp := (book_valid l (threads := 3) (many := 9) (by omega) (by omega) (by omega) (by omega)).2.2
  have hl3 : (v_book_Prog l 3 9).2.length ≤ 3 := hlen
  have loop : ∀ k, k ≤ (v_book_Prog l 3 9).2.length + 2 → Goes (T_law22_TouchMade l) (.jmp (.l4 ((k : Int) - 1))) true := by
    refine down ?_ fun k hk ih => ?_
    · have h := touchAll hall 0
      rw [goes_jmp]
      simp only [T_law22_TouchMade, goes_br, h.ko, h.ka, h.ks, h.vs, k_alive22, v_alive22, if_true]
      rw [if_neg (by simp; omega)]
      exact .leaf
    · have h := touchAll hall ((k : Int) - 1)
      rw [goes_jmp]
      have hw : IntKind.i64.wrap ((k : Int) - 1 + 1) = ((k + 1 : Nat) : Int) - 1 := by rw [wrap_i64 (by omega) (by omega)]; omega
      simp only [T_law22_TouchMade, goes_br, h.kS, h.kS', h.kSs, h.vSs, h.kL, h.kL', h.kLs, h.vLs, Bool.not_true, if_true, hw]
      rw [if_pos (by simp; omega), if_neg (by decide), if_neg (by decide)]
      exact ih
  unfold T0_law22_TouchMade
  simp only [goes_br, hkp, if_true]
  exact loop 0 (Nat.zero_le _)
end Go.Ev
end

section
set_option linter.unusedSectionVars false
set_option linter.unusedVariables false
set_option linter.unusedSimpArgs false
set_option maxRecDepth 100000
set_option linter.unusedVariables false
open Go Go.Ev
namespace Go.Ev
noncomputable def e_law22_TouchMade : Run := entG sg_law22_TouchMade R_law22_TouchMade (fun a => k_law22_TouchMade a.1) (fun a => v_law22_TouchMade a.1)
theorem ok_law22_TouchMade : EntOK Go.Proofs.Tryd.prog 4 e_law22_TouchMade := entG_ok (tb := tb_law22_TouchMade) (c := c_law22_TouchMade) tk_law22_TouchMade (by kernel_rfl) (by kernel_rfl) (by kernel_rfl) (fun a => by kernel_rfl) fun ⟨l, _⟩ hk => evF_goes (c := c_law22_TouchMade) (K := fun v => (R_law22_TouchMade v, tps (toForms sg_law22_TouchMade (l, ())))) (S := S_law22_TouchMade l) (by kernel_rfl) (en_law22_TouchMade l) (lp_law22_TouchMade l) (g_law22_TouchMade l hk)
theorem co_law22_TouchMade (l : List (List (El T_book_Act))) (hk : k_law22_TouchMade l = true) : CallOK Go.Proofs.Tryd.prog 4 (toForms sg_law22_TouchMade (l, ())) (R_law22_TouchMade (v_law22_TouchMade l), tps (toForms sg_law22_TouchMade (l, ()))) := by
  obtain ⟨h1, h2⟩ := clOf_ok tk_law22_TouchMade
  obtain ⟨n, hn⟩ := evF_goes (c := c_law22_TouchMade) (K := fun v => (R_law22_TouchMade v, tps (toForms sg_law22_TouchMade (l, ())))) (S := S_law22_TouchMade l) (by kernel_rfl) (en_law22_TouchMade l) (lp_law22_TouchMade l) (g_law22_TouchMade l hk)
  exact evF_sound (f := 4) (c := c_law22_TouchMade) h1 h2 (by kernel_rfl) (by kernel_rfl) (by kernel_rfl) hn
end Go.Ev
end

section
set_option linter.unusedSectionVars false
set_option linter.unusedVariables false
set_option linter.unusedSimpArgs false
set_option maxRecDepth 100000
set_option linter.unusedVariables false
namespace Go.Ev
open Go
theorem call_law22_TouchMade (a : Args sg_law22_TouchMade) (ha : smallArgs sg_law22_TouchMade a) : CallOK Go.Proofs.Tryd.prog 4 (toForms sg_law22_TouchMade a) (.d .bool true, tps (toForms sg_law22_TouchMade a)) := by
  obtain ⟨l, _⟩ := a
  exact co_law22_TouchMade l rfl
end Go.Ev
end

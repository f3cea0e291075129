/- Part of the proof of: For every program, what is locked is neither among the stores nor among the loads of its thread, and all else that writes, or reads, is among them: the law answers true for every input. -/
import Derived.Test.YtlppmbooakcmaaaDoorCon1
section
set_option linter.unusedSectionVars false
set_option linter.unusedVariables false
set_option linter.unusedSimpArgs false
set_option maxRecDepth 100000
set_option linter.unusedVariables false
open Go Go.Ev
namespace Go.Ev
/-! ### paling/palingref3.Loads -/
def sg_ref3_Loads : Sig := [(true, T_api_Prog), (false, (.int .i64))]
noncomputable def t_ref3_Loads : Tbl := [(42, e_ref3_side)]
theorem tk_ref3_Loads : ∀ p ∈ t_ref3_Loads, EntOK Go.Proofs.Tryd.prog p.1 p.2 := tbl_cons ok_ref3_side (tbl_nil)
noncomputable def c_ref3_Loads : Code := Go.Proofs.Tryd.f20.body.getD .skip
def tb_ref3_Loads : Tb := []
def T_ref3_Loads (p : El T_api_Prog) (t : Int) : Empty → JT Empty (List Int) := fun j => nomatch j
def T0_ref3_Loads (p : El T_api_Prog) (t : Int) : JT Empty (List Int) :=
  .br (k_ref3_side p t false)
    (.leaf (v_ref3_side p t false))
  (.no)
def v_ref3_Loads (p : El T_api_Prog) (t : Int) : List Int :=
  bif (k_ref3_side p t false) then
    (v_ref3_side p t false)
  else []
def k_ref3_Loads (p : El T_api_Prog) (t : Int) : Bool :=
  bif (k_ref3_side p t false) then
    true
  else false
theorem g_ref3_Loads (p : El T_api_Prog) (t : Int) (hk : k_ref3_Loads p t = true) : Goes (T_ref3_Loads p t) (T0_ref3_Loads p t) (v_ref3_Loads p t) :=
  Goes.brk hk (fun hk =>
    Goes.leaf) (fun hk =>
    Goes.nok hk)
def R_ref3_Loads : List Int → AV := fun (r : List Int) => .rw 3 (.int .i64) r
def S_ref3_Loads (p : El T_api_Prog) (t : Int) : Empty → Nat × St := fun j => nomatch j
theorem en_ref3_Loads (p : El T_api_Prog) (t : Int) (L : Lt) : entryA Go.Proofs.Tryd.prog (clOf t_ref3_Loads) tb_ref3_Loads Go.Proofs.Tryd.f20 c_ref3_Loads L (toForms sg_ref3_Loads (p, t, ())) = (T0_ref3_Loads p t).run (fun v => some (R_ref3_Loads v, tps (toForms sg_ref3_Loads (p, t, ())))) fun j => L (S_ref3_Loads p t j).1 (S_ref3_Loads p t j).2 := by kernel_rfl
theorem lp_ref3_Loads (p : El T_api_Prog) (t : Int) : ∀ (L : Lt) (j : Empty), procOf (procsF Go.Proofs.Tryd.prog (clOf t_ref3_Loads) tb_ref3_Loads Go.Proofs.Tryd.f20 c_ref3_Loads (toForms sg_ref3_Loads (p, t, ()))) (S_ref3_Loads p t j).1 L (S_ref3_Loads p t j).2 = (T_ref3_Loads p t j).run (fun v => some (R_ref3_Loads v, tps (toForms sg_ref3_Loads (p, t, ())))) fun j => L (S_ref3_Loads p t j).1 (S_ref3_Loads p t j).2 := fun L j => nomatch j
noncomputable def e_ref3_Loads : Run := entG sg_ref3_Loads R_ref3_Loads (fun a => k_ref3_Loads a.1 a.2.1) (fun a => v_ref3_Loads a.1 a.2.1)
theorem ok_ref3_Loads : EntOK Go.Proofs.Tryd.prog 20 e_ref3_Loads := entG_ok (tb := tb_ref3_Loads) (c := c_ref3_Loads) tk_ref3_Loads (by kernel_rfl) (by kernel_rfl) (by kernel_rfl) (fun a => by kernel_rfl) fun ⟨p, t, _⟩ hk => evF_goes (c := c_ref3_Loads) (K := fun v => (R_ref3_Loads v, tps (toForms sg_ref3_Loads (p, t, ())))) (S := S_ref3_Loads p t) (by kernel_rfl) (en_ref3_Loads p t) (lp_ref3_Loads p t) (g_ref3_Loads p t hk)
end Go.Ev
end

section
set_option linter.unusedSectionVars false
set_option linter.unusedVariables false
set_option linter.unusedSimpArgs false
/- Both texts tell the same accesses. -/
set_option maxRecDepth 100000
set_option linter.unusedVariables false
set_option linter.unusedSimpArgs false
namespace Go.Ev
open Go
theorem k_alive22 : k_law22_alive = true := by decide +kernel
theorem v_alive22 : v_law22_alive = true := by decide +kernel
theorem side_len {p : El T_api_Prog} (h : smallAll p = true) (t : Int) (w : Bool) : (sideC p t w).length < 2147483648 := by
  have := ofC_len h
  unfold sideC
  rw [List.length_map]
  exact Nat.lt_of_le_of_lt (List.length_filter_le _ _) this
structure TouchAll (p : El T_api_Prog) (t : Int) : Prop where
  ko : k_touch_Of p = true
  ka : k_ref3_Accesses p = true
  ks : k_book_SameAccesses (v_touch_Of p) (v_ref3_Accesses p) = true
  vs : v_book_SameAccesses (v_touch_Of p) (v_ref3_Accesses p) = true
  kS : k_touch_Stores p t = true
  kS' : k_ref3_Stores p t = true
  kSs : k_book_SameInts (v_touch_Stores p t) (v_ref3_Stores p t) = true
  vSs : v_book_SameInts (v_touch_Stores p t) (v_ref3_Stores p t) = true
  kL : k_touch_Loads p t = true
  kL' : k_ref3_Loads p t = true
  kLs : k_book_SameInts (v_touch_Loads p t) (v_ref3_Loads p t) = true
  vLs : v_book_SameInts (v_touch_Loads p t) (v_ref3_Loads p t) = true
theorem stores_is {p : El T_api_Prog} (h : smallAll p = true) (t : Int) : v_touch_Stores p t = sideC p t true ∧ v_ref3_Stores p t = sideC p t true ∧ v_touch_Loads p t = sideC p t false ∧ v_ref3_Loads p t = sideC p t false ∧ k_touch_Stores p t = true ∧ k_ref3_Stores p t = true ∧ k_touch_Loads p t = true ∧ k_ref3_Loads p t = true := by
  have h1 : ∀ w, k_touch_some p t w = true := fun _ => h
  have h2 : ∀ w, k_ref3_side p t w = true := fun _ => h
  unfold v_touch_Stores v_ref3_Stores v_touch_Loads v_ref3_Loads k_touch_Stores k_ref3_Stores k_touch_Loads k_ref3_Loads
  simp only [h1, h2, cond_true]
  exact ⟨rfl, rfl, rfl, rfl, trivial, trivial, trivial, trivial⟩
theorem touchAll {p : El T_api_Prog} (h : smallAll p = true) (t : Int) : TouchAll p t := by
  obtain ⟨s1, s2, s3, s4, q1, q2, q3, q4⟩ := stores_is h t
  refine ⟨h, h, ?_, ?_, q1, q2, ?_, ?_, q3, q4, ?_, ?_⟩
  · have := ofC_len h
    exact decide_eq_true (show (ofC p).length < _ by omega)
  · exact decide_eq_true rfl
  · rw [s1, s2]; have := side_len h t true; exact decide_eq_true (by omega)
  · rw [s1, s2]; exact decide_eq_true rfl
  · rw [s3, s4]; have := side_len h t false; exact decide_eq_true (by omega)
  · rw [s3, s4]; exact decide_eq_true rfl
theorem total_le {l : List (List (El T_api_Ins))} {n : Nat} (h : ∀ t ∈ l, List.length t ≤ n) : total l ≤ n * l.length := by
  unfold total
  induction l with
  | nil => simp
  | cons t l ih =>
    rw [List.map_cons, List.sum_cons, List.length_cons, Nat.mul_add, Nat.mul_one]
    have h1 := h t (List.mem_cons_self ..)
    have h2 := ih fun x hx => h x (List.mem_cons_of_mem _ hx)
    omega
theorem great_all {p : El T_api_Prog} (h : v_book_Great p = false) : smallAll p = true := by
  have hp := great_prog h
  unfold v_book_Great at h
  simp only [Bool.or_eq_false_iff, decide_eq_false_iff_not, List.any_eq_false, Bool.not_eq_true] at h
  have ht := total_le (l := p.2) (n := 12) fun t hm => by
    have := h.2.2.2 t hm
    unfold v_book_GreatThread at this
    simp only [Bool.or_eq_false_iff, decide_eq_false_iff_not] at this
    omega
  unfold smallAll
  simp only [Bool.and_eq_true, decide_eq_true_eq]
  exact ⟨hp, by omega, by omega⟩
end Go.Ev
end

section
set_option linter.unusedSectionVars false
set_option linter.unusedVariables false
set_option linter.unusedSimpArgs false
/- The programs that the book makes may be. -/
set_option maxRecDepth 100000
set_option linter.unusedVariables false
set_option linter.unusedSimpArgs false
namespace Go.Ev
open Go
theorem setL_right (i : El T_api_Ins) (ls : List ByteArray) : v_ins_Right (setL i ls) = v_ins_Right i := rfl
theorem setL_to (i : El T_api_Ins) (ls : List ByteArray) : (setL i ls).2.2.2.2.2.1 = i.2.2.2.2.2.1 := rfl
theorem place_book {th : List (List (El T_api_Ins))} {k r s n : Int} (h : k = 3 ∨ k = 4 → placeOK k s n = true) : placeC (symsB, th) (k, (r, (s, n))) = 0 := by
  show placeN 3 _ k s n = 0
  unfold placeN
  by_cases hk : k = 3 ∨ k = 4
  · rw [if_pos hk]
    have := h hk
    unfold placeOK at this
    simp only [Bool.and_eq_true, decide_eq_true_eq, Bool.or_eq_true, beq_iff_eq] at this
    obtain ⟨h0, h3, hn⟩ := this
    rw [if_neg (by omega)]
    have hs : s = 0 ∨ s = 1 ∨ s = 2 := by omega
    rcases hs with rfl | rfl | rfl
    · rw [if_neg]
      rintro ⟨h1, h2⟩
      have h2 : (1 : Int) ≤ n := h2
      rcases hn with hn | hn
      · omega
      · have hn : n < (1 : Int) := hn
        omega
    · rw [if_neg]
      rintro ⟨h1, h2⟩
      have h2 : (2 : Int) ≤ n := h2
      rcases hn with hn | hn
      · omega
      · have hn : n < (2 : Int) := hn
        omega
    · rw [if_neg]
      rintro ⟨h1, h2⟩
      have h2 : (1 : Int) ≤ n := h2
      rcases hn with hn | hn
      · omega
      · have hn : n < (1 : Int) := hn
        omega
  · rw [if_neg hk]
theorem insC_book {th : List (List (El T_api_Ins))} {many : Int} {i : El T_api_Ins} (h : BookOK many i) (ls : List ByteArray) : insC (symsB, th) (setL i ls) = 0 := by
  have hA : placeC (symsB, th) i.2.2.2.1 = 0 := place_book (k := i.2.2.2.1.1) (r := i.2.2.2.1.2.1) (s := i.2.2.2.1.2.2.1) (n := i.2.2.2.1.2.2.2) h.placeA
  have hB : placeC (symsB, th) i.2.2.2.2.1 = 0 := place_book (k := i.2.2.2.2.1.1) (r := i.2.2.2.2.1.2.1) (s := i.2.2.2.2.1.2.2.1) (n := i.2.2.2.2.1.2.2.2) h.placeB
  unfold insC
  rw [setL_right, h.right]
  show (if (0 : Int) ≠ 0 then _ else if placeC (symsB, th) i.2.2.2.1 ≠ 0 then _ else placeC (symsB, th) i.2.2.2.2.1) = 0
  rw [hA, hB]
  rfl
theorem scanI_lab {p : El T_api_Prog} {K : List ByteArray → Int} : ∀ (x : List (El T_api_Ins)) (k : Nat) (seen : List ByteArray),
    (∀ (j : Nat) (i : El T_api_Ins), x[j]? = some i → (i.2.2.2.2.2.2 = [] ∨ i.2.2.2.2.2.2 = [v_book_label ((k + j : Nat) : Int)]) ∧ insC p i = 0) → (∀ l ∈ seen, ∃ k', k' < k ∧ l = v_book_label (k' : Int)) → k + x.length ≤ 100 → scanI p K seen x = K (seen ++ labels x)
  | [], k, seen, _, _, _ => by simp [scanI, labels]
  | i :: r, k, seen, h, hs, hk => by
    obtain ⟨hl, hi⟩ := h 0 i rfl
    rw [List.length_cons] at hk
    have hr := fun seen' hs' => scanI_lab (K := K) r (k + 1) seen' (fun j y hy => by
      have := h (j + 1) y (by simpa using hy)
      rwa [show k + (j + 1) = k + 1 + j by omega] at this) hs' (by omega)
    unfold scanI
    rcases hl with hl | hl
    · rw [hl]
      unfold scanL
      rw [hi]
      simp only [ne_eq, not_true_eq_false, if_false]
      rw [hr seen fun l hl => by obtain ⟨k', h1, h2⟩ := hs l hl; exact ⟨k', by omega, h2⟩]
      unfold labels
      rw [List.flatMap_cons, hl, List.nil_append]
    · rw [hl, Nat.add_zero]
      unfold scanL
      rw [if_neg (by rw [(label_right (k := (k : Int)) (by omega) (by omega)).1]; decide)]
      have hns : seen.contains (v_book_label (k : Int)) = false := by
        rw [Bool.eq_false_iff]
        intro hc
        rw [List.contains_iff_mem] at hc
        obtain ⟨k', h1, h2⟩ := hs _ hc
        have := label_inj (by omega) (by omega) h2
        omega
      rw [if_neg (by rw [hns]; decide)]
      unfold scanL
      rw [hi]
      simp only [ne_eq, not_true_eq_false, if_false]
      rw [hr _ fun l hl => by
        rcases List.mem_append.1 hl with hl | hl
        · obtain ⟨k', h1, h2⟩ := hs l hl; exact ⟨k', by omega, h2⟩
        · rw [List.mem_singleton] at hl; exact ⟨k, by omega, hl⟩]
      unfold labels
      rw [List.flatMap_cons, hl, Nat.add_zero, List.append_assoc]
theorem jumpC_lab {seen : List ByteArray} : ∀ {x : List (El T_api_Ins)}, (∀ i ∈ x, ((i.1 == (10 : Int)) || (i.1 == (11 : Int))) = true → seen.contains i.2.2.2.2.2.1 = true) → jumpC seen x = 0
  | [], _ => rfl
  | i :: r, h => by
    unfold jumpC
    have ih := jumpC_lab fun j hj => h j (List.mem_cons_of_mem _ hj)
    by_cases hj : ((i.1 == (10 : Int)) || (i.1 == (11 : Int))) = true
    · rw [if_pos hj, if_pos (h i (List.mem_cons_self ..) hj)]; exact ih
    · rw [if_neg hj]; exact ih
/-- What stands in a thread of the book. -/
theorem threadB_get {a : List (El T_book_Act)} {n : Nat} (hn : n ≤ 90) (ha : n ≤ a.length) {k : Nat} {i : El T_api_Ins} (h : (threadB a n)[k]? = some i) :
    (k < n ∧ ∃ x, (baseT a n)[k]? = some x ∧ BookOK ((n + 1 : Nat) : Int) x ∧ i = setL x (if sAt (baseT a n) n k then [v_book_label (k : Int)] else [])) ∨ (k = n ∧ i = setL (bare 14) (if sAt (baseT a n) n k then [v_book_label (k : Int)] else [])) := by
  have hl := baseT_len a n ha
  obtain ⟨hk, he⟩ := List.getElem?_eq_some_iff.1 h
  unfold threadB at hk he
  rw [withL_get hk] at he
  rw [withL_len, hl] at hk
  by_cases hkn : k < n
  · obtain ⟨x, h1, h2⟩ := baseT_book hn hkn ha
    obtain ⟨h3, h4⟩ := List.getElem?_eq_some_iff.1 h1
    rw [h4] at he
    exact .inl ⟨hkn, _, h1, h2, he.symm⟩
  · have hkn : k = n := by omega
    subst hkn
    have : (baseT a k)[k]'(by omega) = bare 14 := by
      unfold baseT
      rw [List.getElem_append_right (by simp; omega)]
      simp
    rw [this] at he
    exact .inr ⟨rfl, he.symm⟩
theorem bare14_book (many : Int) (ls : List ByteArray) {th : List (List (El T_api_Ins))} : insC (symsB, th) (setL (bare 14) ls) = 0 := by
  unfold insC
  rw [setL_right, bare_right (.inr (.inr rfl))]
  rfl
theorem labels_get {x : List (El T_api_Ins)} {k : Nat} {i : El T_api_Ins} {l : ByteArray} (h : x[k]? = some i) (hl : l ∈ i.2.2.2.2.2.2) : (labels x).contains l = true := by
  rw [List.contains_iff_mem]
  unfold labels
  exact List.mem_flatMap.2 ⟨i, List.mem_of_getElem? h, hl⟩
theorem threadC_book {a : List (El T_book_Act)} {n : Nat} (hn : n ≤ 90) (ha : n ≤ a.length) {th : List (List (El T_api_Ins))} : threadC (symsB, th) (threadB a n) = 0 := by
  have hlen : (threadB a n).length = n + 1 := by unfold threadB; rw [withL_len, baseT_len a n ha]
  unfold threadC
  have hc := countM_le (threadB a n)
  rw [if_neg (by omega), scanI_lab (threadB a n) 0 [] (fun j i h => by
    rw [Nat.zero_add]
    rcases threadB_get hn ha h with ⟨_, x, _, hx, rfl⟩ | ⟨_, rfl⟩
    · refine ⟨?_, insC_book hx _⟩
      show (if _ then [v_book_label (j : Int)] else []) = [] ∨ (if _ then [v_book_label (j : Int)] else []) = [v_book_label (j : Int)]
      split
      · exact .inr rfl
      · exact .inl rfl
    · refine ⟨?_, bare14_book 0 _⟩
      show (if _ then [v_book_label (j : Int)] else []) = [] ∨ (if _ then [v_book_label (j : Int)] else []) = [v_book_label (j : Int)]
      split
      · exact .inr rfl
      · exact .inl rfl) (fun l hl => by cases hl) (by omega)]
  rw [List.nil_append, endC_eq (by omega)]
  have hlast : (threadB a n)[(threadB a n).length - 1]? = some ((threadB a n)[(threadB a n).length - 1]'(by omega)) := List.getElem?_eq_getElem (by omega)
  have h14 : (((threadB a n)[(threadB a n).length - 1]'(by omega)).1 == (10 : Int) || ((threadB a n)[(threadB a n).length - 1]'(by omega)).1 == (14 : Int)) = true := by
    rcases threadB_get hn ha hlast with ⟨h1, _⟩ | ⟨_, h2⟩
    · omega
    · rw [h2]; rfl
  rw [if_pos h14]
  refine jumpC_lab fun i hi hj => ?_
  obtain ⟨k, hk⟩ := List.getElem?_of_mem hi
  rcases threadB_get hn ha hk with ⟨hkn, x, hx, hb, rfl⟩ | ⟨_, rfl⟩
  · rw [setL_to]
    rcases hb.to with ⟨h1, h2, _⟩ | ⟨_, m, m0, m1, e⟩
    · exfalso
      have hj : ((x.1 == (10 : Int)) || (x.1 == (11 : Int))) = true := hj
      simp only [Bool.or_eq_true, beq_iff_eq] at hj
      rcases hj with hj | hj
      · exact h1 hj
      · exact h2 hj
    · rw [e]
      obtain ⟨q, rfl⟩ : ∃ q : Nat, m = (q : Int) := ⟨m.toNat, by omega⟩
      have hqn : q < n + 1 := by omega
      have hq : (threadB a n)[q]? = some ((threadB a n)[q]'(by omega)) := List.getElem?_eq_getElem (by omega)
      have hs : sAt (baseT a n) n q = true := by
        unfold sAt
        rw [List.any_eq_true]
        exact ⟨x, List.mem_of_getElem? (i := k) (by rw [List.getElem?_take, if_pos hkn]; exact hx), decide_eq_true e⟩
      refine labels_get hq ?_
      rcases threadB_get hn ha hq with ⟨_, y, _, _, h2⟩ | ⟨_, h2⟩
      · rw [h2, hs]; exact List.mem_singleton.2 rfl
      · rw [h2, hs]; exact List.mem_singleton.2 rfl
  · cases hj
theorem small_book {a : List (El T_book_Act)} {n : Nat} (hn : n ≤ 90) (ha : n ≤ a.length) : smallThread (threadB a n) = true := by
  have hlen : (threadB a n).length = n + 1 := by unfold threadB; rw [withL_len, baseT_len a n ha]
  have hlab : ∀ i ∈ threadB a n, smallText i.2.2.2.2.2.1 = true ∧ i.2.2.2.2.2.2.length ≤ 1 ∧ ∀ l ∈ i.2.2.2.2.2.2, smallText l = true := fun i hi => by
    obtain ⟨k, hk⟩ := List.getElem?_of_mem hi
    have hkl := (List.getElem?_eq_some_iff.1 hk).1
    have hls : ∀ b : Bool, (if b = true then [v_book_label (k : Int)] else []).length ≤ 1 ∧ ∀ l ∈ (if b = true then [v_book_label (k : Int)] else []), smallText l = true := fun b => by
      cases b with
      | false => exact ⟨by simp, fun l hl => by simp at hl⟩
      | true => exact ⟨by simp, fun l hl => by
          rw [if_pos rfl, List.mem_singleton] at hl
          rw [hl]; exact (label_right (by omega) (by omega)).2⟩
    rcases threadB_get hn ha hk with ⟨hkn, x, hx, hb, rfl⟩ | ⟨_, rfl⟩
    · exact ⟨hb.small (by omega), hls _⟩
    · exact ⟨(by decide : smallText (bs []) = true), hls _⟩
  have := labels_le (t := threadB a n) (n := 1) fun i hi => (hlab i hi).2.1
  unfold smallThread
  simp only [Bool.and_eq_true, decide_eq_true_eq, List.all_eq_true]
  exact ⟨by omega, by omega, fun i hi => ⟨(hlab i hi).1, (hlab i hi).2.2⟩⟩
theorem symsC_book (K : Int) : symsC K [] symsB = K := by kernel_rfl
theorem thsC_zero {p : El T_api_Prog} : ∀ {th : List (List (El T_api_Ins))}, (∀ t ∈ th, threadC p t = 0) → thsC p th = 0
  | [], _ => rfl
  | t :: r, h => by
    unfold thsC
    rw [h t (List.mem_cons_self ..)]
    simp only [ne_eq, not_true_eq_false, if_false]
    exact thsC_zero fun x hx => h x (List.mem_cons_of_mem _ hx)
theorem book_valid (l : List (List (El T_book_Act))) {threads many : Int} (h0 : 0 ≤ threads) (h1 : threads ≤ 64) (m0 : 0 ≤ many) (m1 : many ≤ 90) : checkC (v_book_Prog l threads many) = 0 ∧ smallProg (v_book_Prog l threads many) = true ∧ k_book_Prog l threads many = true := by
  refine ⟨?_, ?_, ?_⟩
  · unfold checkC v_book_Prog
    show (if 64 < symsB.length ∨ 64 < ((l.take threads.toNat).map fun a => threadB a (min a.length many.toNat)).length then (10 : Int) else symsC (thsC _ ((l.take threads.toNat).map fun a => threadB a (min a.length many.toNat))) [] symsB) = 0
    rw [if_neg, symsC_book]
    · exact thsC_zero fun t ht => by
        obtain ⟨a, _, rfl⟩ := List.mem_map.1 ht
        exact threadC_book (by omega) (by omega)
    · rw [List.length_map, List.length_take]
      have : symsB.length = 3 := rfl
      omega
  · unfold smallProg v_book_Prog
    simp only [Bool.and_eq_true, List.all_eq_true]
    refine ⟨?_, fun t ht => ?_⟩
    · have : symsB.all (fun s => smallText s.1) = true := by decide +kernel
      rw [List.all_eq_true] at this
      exact this
    · obtain ⟨a, _, rfl⟩ := List.mem_map.1 ht
      exact small_book (by omega) (by omega)
  · unfold k_book_Prog
    simp only [Bool.and_eq_true, decide_eq_true_eq]
    omega
end Go.Ev
end

section
set_option linter.unusedSectionVars false
set_option linter.unusedVariables false
set_option linter.unusedSimpArgs false
/- The book's programs are small, all in all. -/
set_option linter.unusedVariables false
namespace Go.Ev
open Go
theorem book_all (l : List (List (El T_book_Act))) {threads many : Int} (h0 : 0 ≤ threads) (h1 : threads ≤ 64) (m0 : 0 ≤ many) (m1 : many ≤ 90) : smallAll (v_book_Prog l threads many) = true ∧ (v_book_Prog l threads many).2.length ≤ threads.toNat := by
  have hs := (book_valid l h0 h1 m0 m1).2.1
  have hl : (v_book_Prog l threads many).2.length ≤ threads.toNat := by
    show ((l.take threads.toNat).map fun a => threadB a (min a.length many.toNat)).length ≤ _
    rw [List.length_map, List.length_take]; omega
  have ht := total_le (l := (v_book_Prog l threads many).2) (n := 91) fun t hm => by
    obtain ⟨a, _, rfl⟩ := List.mem_map.1 (show t ∈ (l.take threads.toNat).map fun a => threadB a (min a.length many.toNat) from hm)
    show (threadB a _).length ≤ 91
    unfold threadB
    rw [withL_len, baseT_len a _ (by omega)]
    omega
  refine ⟨?_, hl⟩
  unfold smallAll
  simp only [Bool.and_eq_true, decide_eq_true_eq]
  exact ⟨hs, by omega, by omega⟩
end Go.Ev
end

section
set_option linter.unusedSectionVars false
set_option linter.unusedVariables false
set_option linter.unusedSimpArgs false
/- Which instructions are among the stores, and the loads. -/
set_option linter.unusedVariables false
set_option linter.unusedSimpArgs false
namespace Go.Ev
open Go
theorem accT_mem {t : Nat} {a : El T_api_Access} : ∀ {l : List (El T_api_Ins)} {k : Nat}, a ∈ accT t k l ↔ ∃ (j : Nat) (i : El T_api_Ins), l[j]? = some i ∧ a ∈ accI t (k + j) i
  | [], k => by simp [accT]
  | i :: r, k => by
    unfold accT
    rw [List.mem_append, accT_mem (l := r)]
    constructor
    · rintro (h | ⟨j, i', h1, h2⟩)
      · exact ⟨0, i, rfl, h⟩
      · exact ⟨j + 1, i', by simpa using h1, by rw [show k + (j + 1) = k + 1 + j by omega]; exact h2⟩
    · rintro ⟨j, i', h1, h2⟩
      cases j with
      | zero => left; simp at h1; subst h1; exact h2
      | succ j => right; exact ⟨j, i', by simpa using h1, by rw [show k + 1 + j = k + (j + 1) by omega]; exact h2⟩
theorem accI_mem {t k : Nat} {i : El T_api_Ins} {a : El T_api_Access} : a ∈ accI t k i ↔ ((v_ins_Reads i).2 = true ∧ a = ((t : Int), ((k : Int), ((0 : Int), ((v_ins_Reads i).1.2.2.1, (false, v_ins_Locked i)))))) ∨ ((v_ins_Writes i).2 = true ∧ a = ((t : Int), ((k : Int), ((if (v_ins_Reads i).2 then (1 : Int) else 0), ((v_ins_Writes i).1.2.2.1, (true, v_ins_Locked i)))))) := by
  unfold accI
  rw [List.mem_append]
  cases (v_ins_Reads i).2 <;> cases (v_ins_Writes i).2 <;> simp
/-- In a thread's list. -/
theorem side_in {sy : List (El T_api_Sym)} {x : List (El T_api_Ins)} (hc : checkC (sy, [x]) = 0) {k : Nat} {i : El T_api_Ins} (hi : x[k]? = some i) (w : Bool) :
    (sideC (sy, [x]) 0 w).contains (k : Int) = ((bif w then (v_ins_Writes i).2 else (v_ins_Reads i).2) && ! v_ins_Locked i) := by
  have hof : ofC (sy, [x]) = accT 0 0 x := by
    unfold ofC
    rw [if_pos hc]
    show accP 0 [x] = _
    unfold accP accP
    rw [List.append_nil]
  rw [Bool.eq_iff_iff, List.contains_iff_mem]
  unfold sideC
  rw [hof, List.mem_map]
  constructor
  · rintro ⟨a, ha, he⟩
    rw [List.mem_filter, accT_mem] at ha
    obtain ⟨⟨j, i', h1, h2⟩, h3⟩ := ha
    rw [Nat.zero_add, accI_mem] at h2
    rcases h2 with ⟨hr, rfl⟩ | ⟨hw, rfl⟩
    · have hjk : j = k := by have he : (j : Int) = (k : Int) := he; omega
      subst hjk
      rw [hi] at h1; cases h1
      simp at h3
      obtain ⟨rfl, hl⟩ := h3
      simp [hr, hl]
    · have hjk : j = k := by have he : (j : Int) = (k : Int) := he; omega
      subst hjk
      rw [hi] at h1; cases h1
      simp at h3
      obtain ⟨rfl, hl⟩ := h3
      simp [hw, hl]
  · intro h
    rw [Bool.and_eq_true, Bool.not_eq_true'] at h
    obtain ⟨h1, h2⟩ := h
    cases w with
    | true =>
      refine ⟨_, List.mem_filter.2 ⟨accT_mem.2 ⟨k, i, hi, accI_mem.2 (.inr ⟨h1, rfl⟩)⟩, ?_⟩, ?_⟩
      · simp [h2]
      · show ((0 + k : Nat) : Int) = k; omega
    | false =>
      refine ⟨_, List.mem_filter.2 ⟨accT_mem.2 ⟨k, i, hi, accI_mem.2 (.inl ⟨h1, rfl⟩)⟩, ?_⟩, ?_⟩
      · simp [h2]
      · show ((0 + k : Nat) : Int) = k; omega
end Go.Ev
end

section
set_option linter.unusedSectionVars false
set_option linter.unusedVariables false
set_option linter.unusedSimpArgs false
set_option linter.unusedVariables false
set_option linter.unusedSimpArgs false
open Go
namespace Go.Ev
def v_law22_TouchLocked (l : List (El T_book_Act)) : Bool := true
def k_law22_TouchLocked (l : List (El T_book_Act)) : Bool := true
theorem g_law22_TouchLocked (l : List (El T_book_Act)) (hk : k_law22_TouchLocked l = true) : Goes (T_law22_TouchLocked l) (T0_law22_TouchLocked l) (v_law22_TouchLocked l) := by
  obtain ⟨hall, _⟩ := book_all [l] (threads := 1) (many := 10) (by omega) (by omega) (by omega) (by omega)
  obtain ⟨hc, hsm, hkp⟩ := book_valid [l] (threads := 1) (many := 10) (by omega) (by omega) (by omega) (by omega)
  have hp : v_book_Prog [l] 1 10 = (symsB, [threadB l (min l.length 10)]) := rfl
  unfold T0_law22_TouchLocked v_law22_TouchLocked
  obtain ⟨s1, s2, s3, s4, q1, q2, q3, q4⟩ := stores_is hall 0
  simp only [goes_br, hkp, q1, q3, if_true]
  have l1 := side_len hall 0 true
  have l2 := side_len hall 0 false
  have hS := smallT ((smallA hall).thr (threadB l (min l.length 10)) (by rw [hp]; exact List.mem_singleton.2 rfl))
  have hlen : (threadB l (min l.length 10)).length < 1099511627776 := hS.len
  have hg : List.getD (v_book_Prog [l] 1 10).2 0 (dflt (.sl T_api_Ins)) = threadB l (min l.length 10) := by rw [hp]; rfl
  have loop : ∀ k, k ≤ (threadB l (min l.length 10)).length → Goes (T_law22_TouchLocked l) (.jmp (.l5 (k : Int))) true := by
    refine down ?_ fun k hk ih => ?_
    · rw [goes_jmp]
      simp only [T_law22_TouchLocked, goes_br, k_alive22, v_alive22]
      rw [if_pos (by rw [hp]; rfl), if_neg (by rw [hp]; exact fun e => absurd (of_decide_eq_true e) (Int.lt_irrefl _))]
      exact .leaf
    · obtain ⟨i, hi⟩ : ∃ i, (threadB l (min l.length 10))[k]? = some i := ⟨_, List.getElem?_eq_getElem hk⟩
      have hgi : List.getD (threadB l (min l.length 10)) k (dflt T_api_Ins) = i := by rw [List.getD_eq_getElem?_getD, hi]; rfl
      have hto := hS.to i (List.mem_of_getElem? hi)
      obtain ⟨a1, a2, a3⟩ := k_refR hto
      have i1 : v_ref3_In (v_touch_Stores (v_book_Prog [l] 1 10) 0) (k : Int) = ((v_ins_Writes i).2 && ! v_ins_Locked i) := by
        rw [s1]; rw [hp] at hc ⊢; exact side_in hc hi true
      have i2 : v_ref3_In (v_touch_Loads (v_book_Prog [l] 1 10) 0) (k : Int) = ((v_ins_Reads i).2 && ! v_ins_Locked i) := by
        rw [s3]; rw [hp] at hc ⊢; exact side_in hc hi false
      have k1 : k_ref3_In (v_touch_Stores (v_book_Prog [l] 1 10) 0) (k : Int) = true := by rw [s1]; exact decide_eq_true (by omega)
      have k2 : k_ref3_In (v_touch_Loads (v_book_Prog [l] 1 10) 0) (k : Int) = true := by rw [s3]; exact decide_eq_true (by omega)
      have hz : decide ((0 : Int) < Int.ofNat (v_book_Prog [l] 1 10).2.length) = true := by rw [hp]; rfl
      rw [goes_jmp]
      simp only [T_law22_TouchLocked, goes_br, hz, hg, lt_len hk, nng, Bool.and_self, if_true, Int.toNat_natCast, hgi, a1, a2, a3, i1, i2, k1, k2, reads_eq hto, writes_eq hto, locked_eq hto, wrap_succ (k := k) (by omega)]
      cases (v_ins_Writes i).2 <;> cases (v_ins_Reads i).2 <;> cases v_ins_Locked i <;> simpa using ih
  exact loop 0 (Nat.zero_le _)
end Go.Ev
end

section
set_option linter.unusedSectionVars false
set_option linter.unusedVariables false
set_option linter.unusedSimpArgs false
set_option maxRecDepth 100000
set_option linter.unusedVariables false
open Go Go.Ev
namespace Go.Ev
noncomputable def e_law22_TouchLocked : Run := entG sg_law22_TouchLocked R_law22_TouchLocked (fun a => k_law22_TouchLocked a.1) (fun a => v_law22_TouchLocked a.1)
theorem ok_law22_TouchLocked : EntOK Go.Proofs.Tryd.prog 6 e_law22_TouchLocked := entG_ok (tb := tb_law22_TouchLocked) (c := c_law22_TouchLocked) tk_law22_TouchLocked (by kernel_rfl) (by kernel_rfl) (by kernel_rfl) (fun a => by kernel_rfl) fun ⟨l, _⟩ hk => evF_goes (c := c_law22_TouchLocked) (K := fun v => (R_law22_TouchLocked v, tps (toForms sg_law22_TouchLocked (l, ())))) (S := S_law22_TouchLocked l) (by kernel_rfl) (en_law22_TouchLocked l) (lp_law22_TouchLocked l) (g_law22_TouchLocked l hk)
theorem co_law22_TouchLocked (l : List (El T_book_Act)) (hk : k_law22_TouchLocked l = true) : CallOK Go.Proofs.Tryd.prog 6 (toForms sg_law22_TouchLocked (l, ())) (R_law22_TouchLocked (v_law22_TouchLocked l), tps (toForms sg_law22_TouchLocked (l, ()))) := by
  obtain ⟨h1, h2⟩ := clOf_ok tk_law22_TouchLocked
  obtain ⟨n, hn⟩ := evF_goes (c := c_law22_TouchLocked) (K := fun v => (R_law22_TouchLocked v, tps (toForms sg_law22_TouchLocked (l, ())))) (S := S_law22_TouchLocked l) (by kernel_rfl) (en_law22_TouchLocked l) (lp_law22_TouchLocked l) (g_law22_TouchLocked l hk)
  exact evF_sound (f := 6) (c := c_law22_TouchLocked) h1 h2 (by kernel_rfl) (by kernel_rfl) (by kernel_rfl) hn
end Go.Ev
end

section
set_option linter.unusedSectionVars false
set_option linter.unusedVariables false
set_option linter.unusedSimpArgs false
set_option maxRecDepth 100000
set_option linter.unusedVariables false
namespace Go.Ev
open Go
theorem call_law22_TouchLocked (a : Args sg_law22_TouchLocked) (ha : smallArgs sg_law22_TouchLocked a) : CallOK Go.Proofs.Tryd.prog 6 (toForms sg_law22_TouchLocked a) (.d .bool true, tps (toForms sg_law22_TouchLocked a)) := by
  obtain ⟨l, _⟩ := a
  exact co_law22_TouchLocked l rfl
end Go.Ev
end

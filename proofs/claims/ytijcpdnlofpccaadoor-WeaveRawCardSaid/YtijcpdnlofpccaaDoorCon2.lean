/- Part of the proof of: A program that may not be is neither laid into nor taken from: the law answers true for every input. -/
import Derived.Test.YtijcpdnlofpccaaDoorCon1
section
set_option linter.unusedSectionVars false
set_option linter.unusedVariables false
set_option linter.unusedSimpArgs false
set_option linter.unusedVariables false
set_option linter.unusedSimpArgs false
open Go
namespace Go.Ev
def v_ref1_thread (p : El T_api_Prog) (t : List (El T_api_Ins)) : Int := threadC p t
def k_ref1_thread (p : El T_api_Prog) (t : List (El T_api_Ins)) : Bool := smallThread t
theorem operand_eq' (len : Nat) (size : Int → Int) (k s n : Int) (h : (k = 3 ∨ k = 4) → 0 ≤ s) :
  (bif (! (decide (k = 3) || decide (k = 4))) then
    (0 : Int)
  else bif (decide (s ≥ (Int.ofNat len))) then
    (7 : Int)
  else bif (k == (3 : Int)) then
    bif ((decide ((0 : Int) ≤ s)) && (decide (s < (Int.ofNat len)))) then
      bif (decide (n ≥ size s)) then
        (8 : Int)
      else (0 : Int)
    else (0 : Int)
  else (0 : Int)) = placeN len size k s n ∧
  (bif (! (decide (k = 3) || decide (k = 4))) then
    true
  else bif (decide (s ≥ (Int.ofNat len))) then
    true
  else bif (k == (3 : Int)) then
    bif ((decide ((0 : Int) ≤ s)) && (decide (s < (Int.ofNat len)))) then
      bif (decide (n ≥ size s)) then
        true
      else true
    else false
  else true) = true := by
  unfold placeN
  by_cases h3 : k = 3
  · have h0 := h (.inl h3)
    subst h3
    by_cases hl : (len : Int) ≤ s
    · simp [hl]
    have h2 : s < (len : Int) := by omega
    have h1 : ¬ s < 0 := by omega
    by_cases hn : size s ≤ n
    · simp [hl, hn, h0, h1, h2]
    · simp [hl, hn, h0, h1, h2]
  by_cases h4 : k = 4
  · have h0 := h (.inr h4)
    subst h4
    have h1 : ¬ s < 0 := by omega
    by_cases hl : (len : Int) ≤ s
    · simp [hl]
    simp [hl, h1]
  simp [h3, h4]
theorem operand_eq (p : El T_api_Prog) (o : El T_api_Opd) (h : ∀ k s : Int, o.1 = k → o.2.2.1 = s → (k = 3 ∨ k = 4) → 0 ≤ s) : v_ref1_operand p o = placeC p o ∧ k_ref1_operand p o = true := by
  have := operand_eq' p.1.length (fun s => (List.getD p.1 s.toNat (dflt T_api_Sym)).2.1) o.1 o.2.2.1 o.2.2.2 (h _ _ rfl rfl)
  unfold v_ref1_operand k_ref1_operand
  rw [refMemory_eq]
  exact this
theorem right_sym' {k r s n : Int} (h : v_opnd_Right (k, r, s, n) = true) (hk : k = 3 ∨ k = 4) : 0 ≤ s := by
  unfold v_opnd_Right at h
  rcases hk with rfl | rfl
  · by_cases hs : 0 ≤ s
    · exact hs
    · simp [hs] at h
  · by_cases hs : 0 ≤ s
    · exact hs
    · simp [hs] at h
theorem opds_ok {i : El T_api_Ins} (hr : v_ins_Right i = 0) : (∀ k s : Int, i.2.2.2.1.1 = k → i.2.2.2.1.2.2.1 = s → (k = 3 ∨ k = 4) → 0 ≤ s) ∧ ∀ k s : Int, i.2.2.2.2.1.1 = k → i.2.2.2.2.1.2.2.1 = s → (k = 3 ∨ k = 4) → 0 ≤ s := by
  obtain ⟨h1, h14, hrow⟩ := right0_row hr
  rcases nine i.1 with ⟨h9, _⟩ | ⟨h9, _⟩
  · obtain ⟨a, b⟩ := row_low hrow h1 h9
    exact ⟨fun k s hk hs h => hs ▸ right_sym' (k := i.2.2.2.1.1) (r := i.2.2.2.1.2.1) (s := i.2.2.2.1.2.2.1) (n := i.2.2.2.1.2.2.2) a (hk ▸ h), fun k s hk hs h => hs ▸ right_sym' (k := i.2.2.2.2.1.1) (r := i.2.2.2.2.1.2.1) (s := i.2.2.2.2.1.2.2.1) (n := i.2.2.2.2.1.2.2.2) b (hk ▸ h)⟩
  · obtain ⟨a, b⟩ := row_high hrow h9
    refine ⟨fun k s hk hs h => ?_, fun k s hk hs h => ?_⟩
    · have : k = 0 := hk ▸ a
      omega
    · have : k = 0 := hk ▸ b
      omega
theorem g_ref1_thread (p : El T_api_Prog) (t : List (El T_api_Ins)) (hk : k_ref1_thread p t = true) : Goes (T_ref1_thread p t) (T0_ref1_thread p t) (v_ref1_thread p t) := by
  have hS := smallT hk
  have hn := hS.len
  have hkf : ∀ l, k_ref1_Find t l = true := fun l => by
    unfold k_ref1_Find
    simp only [Bool.and_eq_true, decide_eq_true_eq, List.all_eq_true]
    exact ⟨hn, fun i hi => Nat.lt_of_le_of_lt (labels_mem hi) hS.labs⟩
  have jmps : ∀ k, k ≤ t.length → Goes (T_ref1_thread p t) (.jmp (.l44 (k : Int))) (jumpC (labels t) (t.drop k)) := by
    refine down ?_ fun k hk ih => ?_
    · rw [goes_jmp]
      simp only [T_ref1_thread, goes_br, lt_len_not (Nat.lt_irrefl _), goes_leaf, List.drop_length]
      simp [jumpC]
    · rw [goes_jmp]
      simp only [T_ref1_thread, goes_br, lt_len hk, nng, Bool.and_self, if_true, Int.toNat_natCast, getD_lt hk, wrap_succ (k := k) (by omega), hkf, jumps_eq]
      have hfi : decide (v_ref1_Find t t[k].2.2.2.2.2.1 < 0) = ! (labels t).contains t[k].2.2.2.2.2.1 := findI_neg
      rw [hfi, drop_cons hk]
      unfold jumpC
      by_cases h1 : ((t[k].1 == (10 : Int)) || (t[k].1 == (11 : Int))) = true
      · rw [if_pos h1, if_pos h1]
        by_cases h2 : (labels t).contains t[k].2.2.2.2.2.1 = true
        · rw [if_pos h2, if_neg (by rw [h2]; decide)]; exact ih
        · rw [if_neg h2, if_pos (by rw [Bool.eq_false_iff.2 h2]; rfl)]; exact .leaf
      · rw [if_neg h1, if_neg h1]; exact ih
  have main : ∀ k, k ≤ t.length → Goes (T_ref1_thread p t) (.jmp (.l7 (k : Int) (labels (t.take k)))) (scanI p (fun seen => endC t (jumpC seen t)) (labels (t.take k)) (t.drop k)) := by
    refine down ?_ fun k hk ih => ?_
    · have hj := jmps 0 (Nat.zero_le _)
      rw [List.drop_zero] at hj
      rw [goes_jmp, List.drop_length, List.take_length]
      unfold scanI
      simp only [T_ref1_thread, goes_br, lt_len_not (Nat.lt_irrefl _)]
      rw [if_neg (by decide)]
      by_cases h0 : t.length = 0
      · have : t = [] := List.eq_nil_of_length_eq_zero h0
        rw [this]; simp [goes_leaf, endC]
      · have hp : 0 < t.length := by omega
        rw [if_neg (by simp; exact fun e => h0 (by rw [e]; rfl)), endC_eq hp]
        rw [show Int.ofNat t.length = (t.length : Int) from rfl, wrap_pred (k := t.length) (by omega) hp]
        have hb : (decide (0 ≤ ((t.length - 1 : Nat) : Int)) && decide (((t.length - 1 : Nat) : Int) < (t.length : Int))) = true := by simp; omega
        simp only [hb, if_true, Int.toNat_natCast, getD_lt (show t.length - 1 < t.length by omega)]
        unfold bne
        cases h10 : (t[t.length - 1].1 == (10 : Int)) with
        | true => simpa using hj
        | false =>
          cases h14 : (t[t.length - 1].1 == (14 : Int)) with
          | true => simpa using hj
          | false => simp [goes_leaf]
    · have hmem : t[k] ∈ t := List.getElem_mem hk
      have hto := hS.to _ hmem
      have hlab := hS.lab _ hmem
      have hlen := Nat.lt_of_le_of_lt (labels_mem hmem) hS.labs
      have htk : labels (t.take (k + 1)) = labels (t.take k) ++ t[k].2.2.2.2.2.2 := by
        unfold labels
        rw [List.take_add_one, List.getElem?_eq_getElem hk, List.flatMap_append]
        simp
      have hall : labels t = labels (t.take (k + 1)) ++ labels (t.drop (k + 1)) := by
        unfold labels
        rw [← List.flatMap_append, List.take_append_drop]
      have hlt : (labels (t.take (k + 1))).length < 1099511627776 := by
        have := hS.labs
        rw [hall, List.length_append] at this
        omega
      rw [goes_jmp]
      simp only [T_ref1_thread, goes_br, lt_len hk, nng, Bool.and_self, if_true, Int.toNat_natCast, getD_lt hk]
      rw [drop_cons hk]
      unfold scanI
      rw [htk] at ih hlt
      generalize t[k] = i at hto hlab hlen htk ih hlt
      obtain ⟨op, lock, cond, ⟨ak, ar, ay, an⟩, ⟨bk, br, bz, bn⟩, to, ls⟩ := i
      dsimp only at hto hlab hlen htk ih hlt ⊢
      have inner : ∀ j, j ≤ ls.length → Goes (T_ref1_thread p t) (.jmp (.l14 op lock cond ak ar ay an bk br bz bn to ls (j : Int) (labels (t.take k) ++ ls.take j) (k : Int))) (scanL (labels (t.take k) ++ ls.take j) (fun seen => if insC p (op, (lock, (cond, ((ak, (ar, (ay, an))), ((bk, (br, (bz, bn))), (to, ls)))))) ≠ 0 then insC p (op, (lock, (cond, ((ak, (ar, (ay, an))), ((bk, (br, (bz, bn))), (to, ls)))))) else scanI p (fun seen => endC t (jumpC seen t)) seen (t.drop (k + 1))) (ls.drop j)) := by
        refine down ?_ fun j hj ihj => ?_
        · rw [goes_jmp, List.drop_length, List.take_length]
          unfold scanL
          have hkr : k_ref1_InsRight (op, (lock, (cond, ((ak, (ar, (ay, an))), ((bk, (br, (bz, bn))), (to, ls)))))) = true := hto
          simp only [T_ref1_thread, goes_br, lt_len_not (Nat.lt_irrefl _), hkr, if_true, wrap_succ (k := k) (by omega)]
          rw [if_neg (by decide)]
          unfold insC v_ref1_InsRight
          dsimp only
          by_cases hr : v_ins_Right (op, (lock, (cond, ((ak, (ar, (ay, an))), ((bk, (br, (bz, bn))), (to, ls)))))) = 0
          · obtain ⟨oa, ob⟩ := opds_ok hr
            obtain ⟨a1, a2⟩ := operand_eq p (ak, (ar, (ay, an))) oa
            obtain ⟨b1, b2⟩ := operand_eq p (bk, (br, (bz, bn))) ob
            by_cases ha : placeC p (ak, (ar, (ay, an))) = 0
            · by_cases hb : placeC p (bk, (br, (bz, bn))) = 0
              · simp [hr, ha, hb, a1, a2, b1, b2]; exact ih
              · simp [hr, ha, hb, a1, a2, b1, b2, goes_leaf]
            · simp [hr, ha, a1, a2, goes_leaf]
          · simp [hr, goes_leaf]
        · have hl := hlab ls[j] (List.getElem_mem hj)
          have hkn : k_ref1_Right ls[j] = true := hl
          have hsl : (labels (t.take k) ++ ls.take j).length < 1099511627776 := by
            rw [List.length_append] at hlt ⊢
            rw [List.length_take]
            omega
          have hki : k_ref1_index (labels (t.take k) ++ ls.take j) ls[j] = true := decide_eq_true (by omega)
          have hap : Nat.ble (((labels (t.take k) ++ ls.take j).length + 1) * 16) limit = true := by apply Nat.ble_eq_true_of_le; unfold limit; omega
          have htj : labels (t.take k) ++ ls.take (j + 1) = (labels (t.take k) ++ ls.take j) ++ [ls[j]] := by
            rw [List.take_add_one, List.getElem?_eq_getElem hj, List.append_assoc]; rfl
          rw [htj] at ihj
          rw [goes_jmp]
          simp only [T_ref1_thread, goes_br, lt_len hj, nng, Bool.and_self, if_true, Int.toNat_natCast, getD_lt hj, wrap_succ (k := j) (by omega), hkn, hki, hap, index_contains]
          rw [drop_cons hj]
          unfold scanL
          by_cases h1 : nameRight ls[j] = false
          · rw [if_pos h1, if_pos (by show (! nameRight ls[j]) = true; rw [h1]; rfl)]; exact .leaf
          · rw [if_neg h1, if_neg (by show ¬ (! nameRight ls[j]) = true; simpa using h1)]
            by_cases h2 : (labels (t.take k) ++ ls.take j).contains ls[j] = true
            · rw [if_pos h2, if_pos h2]; exact .leaf
            · rw [if_neg h2, if_neg h2]; exact ihj
      have := inner 0 (Nat.zero_le _)
      rw [List.drop_zero, List.take_zero, List.append_nil] at this
      exact this
  unfold T0_ref1_thread v_ref1_thread
  have hkc : k_ref1_Count t = true := decide_eq_true hn
  simp only [goes_br, hkc, if_true]
  unfold threadC v_ref1_Count
  by_cases h : 4096 < countM t
  · rw [if_pos (by simp; omega), if_pos h]; exact .leaf
  · rw [if_neg (by simp; omega), if_neg h]
    exact main 0 (Nat.zero_le _)
end Go.Ev
end

section
set_option linter.unusedSectionVars false
set_option linter.unusedVariables false
set_option linter.unusedSimpArgs false
set_option maxRecDepth 100000
set_option linter.unusedVariables false
open Go Go.Ev
namespace Go.Ev
noncomputable def e_ref1_thread : Run := entG sg_ref1_thread R_ref1_thread (fun a => k_ref1_thread a.1 a.2.1) (fun a => v_ref1_thread a.1 a.2.1)
theorem ok_ref1_thread : EntOK Go.Proofs.Tryd.prog 53 e_ref1_thread := entG_ok (tb := tb_ref1_thread) (c := c_ref1_thread) tk_ref1_thread (by kernel_rfl) (by kernel_rfl) (by kernel_rfl) (fun a => by kernel_rfl) fun ⟨p, t, _⟩ hk => evF_goes (c := c_ref1_thread) (K := fun v => (R_ref1_thread v, tps (toForms sg_ref1_thread (p, t, ())))) (S := S_ref1_thread p t) (by kernel_rfl) (en_ref1_thread p t) (lp_ref1_thread p t) (g_ref1_thread p t hk)
end Go.Ev
end

section
set_option linter.unusedSectionVars false
set_option linter.unusedVariables false
set_option linter.unusedSimpArgs false
set_option maxRecDepth 100000
set_option linter.unusedVariables false
open Go Go.Ev
namespace Go.Ev
/-! ### paling/palingref1.Check -/
def sg_ref1_Check : Sig := [(true, T_api_Prog)]
noncomputable def t_ref1_Check : Tbl := [(52, e_ref1_Right), (53, e_ref1_thread)]
theorem tk_ref1_Check : ∀ p ∈ t_ref1_Check, EntOK Go.Proofs.Tryd.prog p.1 p.2 := tbl_cons ok_ref1_Right (tbl_cons ok_ref1_thread (tbl_nil))
noncomputable def c_ref1_Check : Code := Go.Proofs.Tryd.f35.body.getD .skip
def tb_ref1_Check : Tb := [(6, ⟨[1, 3], []⟩), (16, ⟨[1, 3, 4, 5], []⟩), (26, ⟨[1, 6], []⟩)]
inductive J_ref1_Check where
  | l6 (i : Int)
  | l16 (x : ByteArray) (x1 : Int) (x2 : List Int) (i : Int) (k : Int)
  | l26 (i : Int)
def T_ref1_Check (p : El T_api_Prog) : J_ref1_Check → JT J_ref1_Check (Int)
  | .l6 i =>
    .br (decide (i < (Int.ofNat (List.length p.1))))
      (.br ((decide ((0 : Int) ≤ i)) && (decide (i < (Int.ofNat (List.length p.1)))))
        (.br (k_ref1_Right (List.getD p.1 (Int.toNat i) (dflt T_api_Sym)).1)
          (.br (! (v_ref1_Right (List.getD p.1 (Int.toNat i) (dflt T_api_Sym)).1))
            (.leaf (3 : Int))
          (.jmp (.l16 (List.getD p.1 (Int.toNat i) (dflt T_api_Sym)).1 (List.getD p.1 (Int.toNat i) (dflt T_api_Sym)).2.1 (List.getD p.1 (Int.toNat i) (dflt T_api_Sym)).2.2 i (0 : Int))))
        (.no))
      (.no))
    (.jmp (.l26 (0 : Int)))
  | .l16 x x1 x2 i k =>
    .br (decide (k < i))
      (.br ((decide ((0 : Int) ≤ k)) && (decide (k < (Int.ofNat (List.length p.1)))))
        (.br (eqB (List.getD p.1 (Int.toNat k) (dflt T_api_Sym)).1 x)
          (.leaf (6 : Int))
        (.jmp (.l16 x x1 x2 i (IntKind.i64.wrap (k + (1 : Int))))))
      (.no))
    (.br (decide (x1 < (1 : Int)))
      (.leaf (5 : Int))
    (.br (decide (x1 > (64 : Int)))
      (.leaf (5 : Int))
    (.br (decide ((Int.ofNat (List.length x2)) > x1))
      (.leaf (5 : Int))
    (.jmp (.l6 (IntKind.i64.wrap (i + (1 : Int))))))))
  | .l26 i =>
    .br (decide (i < (Int.ofNat (List.length p.2))))
      (.br ((decide ((0 : Int) ≤ i)) && (decide (i < (Int.ofNat (List.length p.2)))))
        (.br (k_ref1_thread p (List.getD p.2 (Int.toNat i) (dflt (.sl T_api_Ins))))
          (.br ((v_ref1_thread p (List.getD p.2 (Int.toNat i) (dflt (.sl T_api_Ins)))) != (0 : Int))
            (.leaf (v_ref1_thread p (List.getD p.2 (Int.toNat i) (dflt (.sl T_api_Ins)))))
          (.jmp (.l26 (IntKind.i64.wrap (i + (1 : Int))))))
        (.no))
      (.no))
    (.leaf (0 : Int))
def T0_ref1_Check (p : El T_api_Prog) : JT J_ref1_Check (Int) :=
  .br (decide ((Int.ofNat (List.length p.1)) > (64 : Int)))
    (.leaf (10 : Int))
  (.br (decide ((Int.ofNat (List.length p.2)) > (64 : Int)))
    (.leaf (10 : Int))
  (.jmp (.l6 (0 : Int))))
def R_ref1_Check : Int → AV := fun (r : Int) => .d (.int .i64) r
def S_ref1_Check (p : El T_api_Prog) : J_ref1_Check → Nat × St
  | .l6 i => (6, ⟨mkTm 81 [(1, .pt 2 0 0), (3, .d (.int .i64) i)], [(2, 0, .box 27 [.d (.sl T_api_Sym) p.1, .d (.sl (.sl T_api_Ins)) p.2] none)]⟩)
  | .l16 x x1 x2 i k => (16, ⟨mkTm 81 [(1, .pt 2 0 0), (3, .d (.int .i64) i), (4, .pt 5 0 0), (5, .d (.int .i64) k)], [(2, 0, .box 27 [.d (.sl T_api_Sym) p.1, .d (.sl (.sl T_api_Ins)) p.2] none), (5, 0, .box 70 [.d .str x, .d (.int .i64) x1, .d (.sl (.int .i64)) x2] none)]⟩)
  | .l26 i => (26, ⟨mkTm 81 [(1, .pt 2 0 0), (6, .d (.int .i64) i)], [(2, 0, .box 27 [.d (.sl T_api_Sym) p.1, .d (.sl (.sl T_api_Ins)) p.2] none)]⟩)
theorem en_ref1_Check (p : El T_api_Prog) (L : Lt) : entryA Go.Proofs.Tryd.prog (clOf t_ref1_Check) tb_ref1_Check Go.Proofs.Tryd.f35 c_ref1_Check L (toForms sg_ref1_Check (p, ())) = (T0_ref1_Check p).run (fun v => some (R_ref1_Check v, tps (toForms sg_ref1_Check (p, ())))) fun j => L (S_ref1_Check p j).1 (S_ref1_Check p j).2 := by kernel_rfl
theorem lp_ref1_Check (p : El T_api_Prog) : ∀ (L : Lt) (j : J_ref1_Check), procOf (procsF Go.Proofs.Tryd.prog (clOf t_ref1_Check) tb_ref1_Check Go.Proofs.Tryd.f35 c_ref1_Check (toForms sg_ref1_Check (p, ()))) (S_ref1_Check p j).1 L (S_ref1_Check p j).2 = (T_ref1_Check p j).run (fun v => some (R_ref1_Check v, tps (toForms sg_ref1_Check (p, ())))) fun j => L (S_ref1_Check p j).1 (S_ref1_Check p j).2
  | L, .l6 i => by kernel_rfl
  | L, .l16 x x1 x2 i k => by kernel_rfl
  | L, .l26 i => by kernel_rfl
end Go.Ev
end

section
set_option linter.unusedSectionVars false
set_option linter.unusedVariables false
set_option linter.unusedSimpArgs false
set_option linter.unusedVariables false
set_option linter.unusedSimpArgs false
open Go
namespace Go.Ev
def v_ref1_Check (p : El T_api_Prog) : Int := checkC p
def k_ref1_Check (p : El T_api_Prog) : Bool := smallProg p
theorem g_ref1_Check (p : El T_api_Prog) (hk : k_ref1_Check p = true) : Goes (T_ref1_Check p) (T0_ref1_Check p) (v_ref1_Check p) := by
  have hth : ∀ t ∈ p.2, smallThread t = true := by
    unfold k_ref1_Check smallProg at hk
    simp only [Bool.and_eq_true, List.all_eq_true] at hk
    exact hk.2
  have hsy : ∀ s ∈ p.1, smallText s.1 = true := by
    unfold k_ref1_Check smallProg at hk
    simp only [Bool.and_eq_true, List.all_eq_true] at hk
    exact hk.1
  obtain ⟨sy, th⟩ := p
  dsimp only at hth hsy
  have ths : th.length ≤ 64 → ∀ k, k ≤ th.length → Goes (T_ref1_Check (sy, th)) (.jmp (.l26 (k : Int))) (thsC (sy, th) (th.drop k)) := by
    intro hn
    refine down ?_ fun k hk ih => ?_
    · rw [goes_jmp]
      simp only [T_ref1_Check, goes_br, lt_len_not (Nat.lt_irrefl _), goes_leaf, List.drop_length]
      simp [thsC]
    · have hkt : k_ref1_thread (sy, th) th[k] = true := hth _ (List.getElem_mem hk)
      rw [goes_jmp]
      simp only [T_ref1_Check, goes_br, lt_len hk, nng, Bool.and_self, if_true, Int.toNat_natCast, getD_lt hk, wrap_succ (k := k) (by omega), hkt]
      rw [drop_cons hk]
      unfold thsC
      show (if (threadC (sy, th) th[k] != 0) = true then _ else _)
      by_cases h : threadC (sy, th) th[k] = 0
      · rw [if_neg (by simp [h]), if_neg (by simp [h])]; exact ih
      · rw [if_pos (by simp [h]), if_pos h]; exact .leaf

  have main : sy.length ≤ 64 → th.length ≤ 64 → ∀ k, k ≤ sy.length → Goes (T_ref1_Check (sy, th)) (.jmp (.l6 (k : Int))) (symsC (thsC (sy, th) th) ((sy.take k).map fun s => s.1) (sy.drop k)) := by
    intro hn hm
    refine down ?_ fun k hk ih => ?_
    · rw [goes_jmp, List.drop_length]
      unfold symsC
      simp only [T_ref1_Check, goes_br, lt_len_not (Nat.lt_irrefl _)]
      rw [if_neg (by decide)]
      simpa using ths hm 0 (Nat.zero_le _)
    · have hkn : k_ref1_Right sy[k].1 = true := hsy _ (List.getElem_mem hk)
      have htk : (sy.take (k + 1)).map (fun s => s.1) = (sy.take k).map (fun s => s.1) ++ [sy[k].1] := by
        rw [List.take_add_one, List.getElem?_eq_getElem hk, List.map_append]; rfl
      rw [htk] at ih
      rw [goes_jmp]
      simp only [T_ref1_Check, goes_br, lt_len hk, nng, Bool.and_self, if_true, Int.toNat_natCast, getD_lt hk, hkn]
      rw [drop_cons hk]
      unfold symsC
      generalize sy[k] = s at ih hkn
      obtain ⟨nm, size, init⟩ := s
      dsimp only at ih hkn ⊢
      change Int at size
      by_cases h1 : nameRight nm = false
      · rw [if_pos h1, if_pos (by show (! nameRight nm) = true; rw [h1]; rfl)]; exact .leaf
      rw [if_neg h1, if_neg (by show ¬ (! nameRight nm) = true; simpa using h1)]
      have inner : ∀ j, j ≤ k → Goes (T_ref1_Check (sy, th)) (.jmp (.l16 nm size init (k : Int) (j : Int))) (if (((sy.take k).drop j).map (fun s => s.1)).contains nm = true then 6 else if size < (1 : Int) ∨ (64 : Int) < size ∨ size < (List.length init : Int) then 5 else symsC (thsC (sy, th) th) ((sy.take k).map (fun s => s.1) ++ [nm]) (sy.drop (k + 1))) := by
        refine down ?_ fun j hj ihj => ?_
        · rw [goes_jmp]
          have : (sy.take k).drop k = [] := List.drop_eq_nil_of_le (by rw [List.length_take]; omega)
          rw [this]
          simp only [T_ref1_Check, goes_br, wrap_succ (k := k) (by omega)]
          rw [if_neg (by simp)]
          simp only [List.map_nil, List.contains_nil, Bool.false_eq_true, if_false]
          by_cases h3 : size < 1
          · rw [if_pos (decide_eq_true h3), if_pos (.inl h3)]; exact .leaf
          rw [if_neg (by simpa using h3)]
          by_cases h4 : 64 < size
          · rw [if_pos (decide_eq_true h4), if_pos (.inr (.inl h4))]; exact .leaf
          rw [if_neg (by simpa using h4)]
          by_cases h5 : size < (List.length init : Int)
          · rw [if_pos (show decide (Int.ofNat (List.length init) > size) = true from decide_eq_true h5), if_pos (.inr (.inr h5))]; exact .leaf
          rw [if_neg (show ¬ decide (Int.ofNat (List.length init) > size) = true by simpa using h5), if_neg (by rintro (h | h | h) <;> contradiction)]
          exact ih
        · have hjs : j < sy.length := by omega
          have hjt : j < (sy.take k).length := by rw [List.length_take]; omega
          rw [goes_jmp, drop_cons hjt, List.map_cons, List.contains_cons, List.getElem_take]
          simp only [T_ref1_Check, goes_br, lt_len hjs, nng, Bool.and_self, if_true, Int.toNat_natCast, getD_lt hjs, wrap_succ (k := j) (by omega), eqB_iff]
          rw [if_pos (by simp; omega)]
          by_cases h2 : sy[j].1 = nm
          · rw [if_pos h2, if_pos (by rw [h2]; simp)]; exact .leaf
          · rw [if_neg h2, beq_false_of_ne (Ne.symm h2), Bool.false_or]; exact ihj
      simpa using inner 0 (Nat.zero_le _)
  unfold T0_ref1_Check v_ref1_Check checkC
  simp only [goes_br]
  by_cases h : 64 < sy.length
  · rw [if_pos (by simp; omega), if_pos (.inl h)]; exact .leaf
  rw [if_neg (by simp; omega)]
  by_cases h2 : 64 < th.length
  · rw [if_pos (by simp; omega), if_pos (.inr h2)]; exact .leaf
  rw [if_neg (by simp; omega), if_neg (by rintro (h | h) <;> contradiction)]
  exact main (by omega) (by omega) 0 (Nat.zero_le _)
end Go.Ev
end

section
set_option linter.unusedSectionVars false
set_option linter.unusedVariables false
set_option linter.unusedSimpArgs false
set_option maxRecDepth 100000
set_option linter.unusedVariables false
open Go Go.Ev
namespace Go.Ev
noncomputable def e_ref1_Check : Run := entG sg_ref1_Check R_ref1_Check (fun a => k_ref1_Check a.1) (fun a => v_ref1_Check a.1)
theorem ok_ref1_Check : EntOK Go.Proofs.Tryd.prog 35 e_ref1_Check := entG_ok (tb := tb_ref1_Check) (c := c_ref1_Check) tk_ref1_Check (by kernel_rfl) (by kernel_rfl) (by kernel_rfl) (fun a => by kernel_rfl) fun ⟨p, _⟩ hk => evF_goes (c := c_ref1_Check) (K := fun v => (R_ref1_Check v, tps (toForms sg_ref1_Check (p, ())))) (S := S_ref1_Check p) (by kernel_rfl) (en_ref1_Check p) (lp_ref1_Check p) (g_ref1_Check p hk)
end Go.Ev
end

section
set_option linter.unusedSectionVars false
set_option linter.unusedVariables false
set_option linter.unusedSimpArgs false
set_option maxRecDepth 100000
set_option linter.unusedVariables false
open Go Go.Ev
namespace Go.Ev
/-! ### paling/palingref1.CopyIns -/
def sg_ref1_CopyIns : Sig := [(true, T_api_Ins)]
noncomputable def t_ref1_CopyIns : Tbl := []
theorem tk_ref1_CopyIns : ∀ p ∈ t_ref1_CopyIns, EntOK Go.Proofs.Tryd.prog p.1 p.2 := tbl_nil
noncomputable def c_ref1_CopyIns : Code := Go.Proofs.Tryd.f45.body.getD .skip
def tb_ref1_CopyIns : Tb := []
def T_ref1_CopyIns (x : El T_api_Ins) : Empty → JT Empty (El T_api_Ins) := fun j => nomatch j
def T0_ref1_CopyIns (x : El T_api_Ins) : JT Empty (El T_api_Ins) :=
  .br (Nat.ble ((List.length x.2.2.2.2.2.2) * 16) limit)
    (.leaf x)
  (.no)
def u_ref1_CopyIns (x : El T_api_Ins) : El T_api_Ins :=
  bif (Nat.ble ((List.length x.2.2.2.2.2.2) * 16) limit) then
    x
  else ((0 : Int), (false, ((0 : Int), (((0 : Int), ((0 : Int), ((0 : Int), (0 : Int)))), (((0 : Int), ((0 : Int), ((0 : Int), (0 : Int)))), ((bs []), []))))))
def ku_ref1_CopyIns (x : El T_api_Ins) : Bool :=
  bif (Nat.ble ((List.length x.2.2.2.2.2.2) * 16) limit) then
    true
  else false
theorem gu_ref1_CopyIns (x : El T_api_Ins) (hk : ku_ref1_CopyIns x = true) : Goes (T_ref1_CopyIns x) (T0_ref1_CopyIns x) (u_ref1_CopyIns x) :=
  Goes.brk hk (fun hk =>
    Goes.leaf) (fun hk =>
    Goes.nok hk)
def R_ref1_CopyIns : El T_api_Ins → AV := fun (r : El T_api_Ins) => .ag [.d (.int .i64) r.1, .d .bool r.2.1, .d (.int .i64) r.2.2.1, .d (.int .i64) r.2.2.2.1.1, .d (.int .i64) r.2.2.2.1.2.1, .d (.int .i64) r.2.2.2.1.2.2.1, .d (.int .i64) r.2.2.2.1.2.2.2, .d (.int .i64) r.2.2.2.2.1.1, .d (.int .i64) r.2.2.2.2.1.2.1, .d (.int .i64) r.2.2.2.2.1.2.2.1, .d (.int .i64) r.2.2.2.2.1.2.2.2, .d .str r.2.2.2.2.2.1, .rw 9 .str r.2.2.2.2.2.2]
def S_ref1_CopyIns (x : El T_api_Ins) : Empty → Nat × St := fun j => nomatch j
theorem en_ref1_CopyIns (x : El T_api_Ins) (L : Lt) : entryA Go.Proofs.Tryd.prog (clOf t_ref1_CopyIns) tb_ref1_CopyIns Go.Proofs.Tryd.f45 c_ref1_CopyIns L (toForms sg_ref1_CopyIns (x, ())) = (T0_ref1_CopyIns x).run (fun v => some (R_ref1_CopyIns v, tps (toForms sg_ref1_CopyIns (x, ())))) fun j => L (S_ref1_CopyIns x j).1 (S_ref1_CopyIns x j).2 := by kernel_rfl
theorem lp_ref1_CopyIns (x : El T_api_Ins) : ∀ (L : Lt) (j : Empty), procOf (procsF Go.Proofs.Tryd.prog (clOf t_ref1_CopyIns) tb_ref1_CopyIns Go.Proofs.Tryd.f45 c_ref1_CopyIns (toForms sg_ref1_CopyIns (x, ()))) (S_ref1_CopyIns x j).1 L (S_ref1_CopyIns x j).2 = (T_ref1_CopyIns x j).run (fun v => some (R_ref1_CopyIns v, tps (toForms sg_ref1_CopyIns (x, ())))) fun j => L (S_ref1_CopyIns x j).1 (S_ref1_CopyIns x j).2 := fun L j => nomatch j
end Go.Ev
end

section
set_option linter.unusedSectionVars false
set_option linter.unusedVariables false
set_option linter.unusedSimpArgs false
set_option linter.unusedVariables false
set_option linter.unusedSimpArgs false
open Go
namespace Go.Ev

def v_ref1_CopyIns (x : El T_api_Ins) : El T_api_Ins := x
def k_ref1_CopyIns (x : El T_api_Ins) : Bool := decide (x.2.2.2.2.2.2.length < 549755813888)
theorem g_ref1_CopyIns (x : El T_api_Ins) (hk : k_ref1_CopyIns x = true) : Goes (T_ref1_CopyIns x) (T0_ref1_CopyIns x) (v_ref1_CopyIns x) := by
  have hn : x.2.2.2.2.2.2.length < 549755813888 := of_decide_eq_true hk
  have h : Nat.ble (x.2.2.2.2.2.2.length * 16) limit = true := by
    apply Nat.ble_eq_true_of_le; unfold limit; omega
  have := gu_ref1_CopyIns x (by unfold ku_ref1_CopyIns; rw [h]; rfl)
  unfold u_ref1_CopyIns at this
  rw [h] at this
  exact this

end Go.Ev
end

section
set_option linter.unusedSectionVars false
set_option linter.unusedVariables false
set_option linter.unusedSimpArgs false
set_option maxRecDepth 100000
set_option linter.unusedVariables false
open Go Go.Ev
namespace Go.Ev
noncomputable def e_ref1_CopyIns : Run := entG sg_ref1_CopyIns R_ref1_CopyIns (fun a => k_ref1_CopyIns a.1) (fun a => v_ref1_CopyIns a.1)
theorem ok_ref1_CopyIns : EntOK Go.Proofs.Tryd.prog 45 e_ref1_CopyIns := entG_ok (tb := tb_ref1_CopyIns) (c := c_ref1_CopyIns) tk_ref1_CopyIns (by kernel_rfl) (by kernel_rfl) (by kernel_rfl) (fun a => by kernel_rfl) fun ⟨x, _⟩ hk => evF_goes (c := c_ref1_CopyIns) (K := fun v => (R_ref1_CopyIns v, tps (toForms sg_ref1_CopyIns (x, ())))) (S := S_ref1_CopyIns x) (by kernel_rfl) (en_ref1_CopyIns x) (lp_ref1_CopyIns x) (g_ref1_CopyIns x hk)
end Go.Ev
end

section
set_option linter.unusedSectionVars false
set_option linter.unusedVariables false
set_option linter.unusedSimpArgs false
set_option maxRecDepth 100000
set_option linter.unusedVariables false
open Go Go.Ev
namespace Go.Ev
/-! ### paling/palingref1.CopyProg -/
def sg_ref1_CopyProg : Sig := [(true, T_api_Prog)]
noncomputable def t_ref1_CopyProg : Tbl := [(45, e_ref1_CopyIns)]
theorem tk_ref1_CopyProg : ∀ p ∈ t_ref1_CopyProg, EntOK Go.Proofs.Tryd.prog p.1 p.2 := tbl_cons ok_ref1_CopyIns (tbl_nil)
noncomputable def c_ref1_CopyProg : Code := Go.Proofs.Tryd.f43.body.getD .skip
def tb_ref1_CopyProg : Tb := [(4, ⟨[1, 2, 3, 4], [(4097, 48)]⟩), (12, ⟨[1, 2, 3, 6], [(4098, 50)]⟩), (19, ⟨[1, 2, 3, 6, 7, 8], [(8193, 112)]⟩)]
inductive J_ref1_CopyProg where
  | l4 (i : Int) (q : List (El T_api_Sym))
  | l12 (q : List (El T_api_Sym)) (i : Int) (q1 : List (List (El T_api_Ins)))
  | l19 (q : List (El T_api_Sym)) (k : Int) (t : List (El T_api_Ins)) (i : Int) (q1 : List (List (El T_api_Ins)))
def T_ref1_CopyProg (p : El T_api_Prog) : J_ref1_CopyProg → JT J_ref1_CopyProg (El T_api_Prog)
  | .l4 i q =>
    .br (decide (i < (Int.ofNat (List.length p.1))))
      (.br ((decide ((0 : Int) ≤ i)) && (decide (i < (Int.ofNat (List.length p.1)))))
        (.br (Nat.ble ((List.length (List.getD p.1 (Int.toNat i) (dflt T_api_Sym)).2.2) * 8) limit)
          (.br (Nat.ble (((List.length q) + 1) * 48) limit)
            (.jmp (.l4 (IntKind.i64.wrap (i + (1 : Int))) (q ++ [(List.getD p.1 (Int.toNat i) (dflt T_api_Sym))])))
          (.no))
        (.no))
      (.no))
    (.jmp (.l12 q (0 : Int) []))
  | .l12 q i q1 =>
    .br (decide (i < (Int.ofNat (List.length p.2))))
      (.jmp (.l19 q (0 : Int) [] i q1))
    (.leaf (q, q1))
  | .l19 q k t i q1 =>
    .br ((decide ((0 : Int) ≤ i)) && (decide (i < (Int.ofNat (List.length p.2)))))
      (.br (decide (k < (Int.ofNat (List.length (List.getD p.2 (Int.toNat i) (dflt (.sl T_api_Ins)))))))
        (.br ((decide ((0 : Int) ≤ i)) && (decide (i < (Int.ofNat (List.length p.2)))))
          (.br ((decide ((0 : Int) ≤ k)) && (decide (k < (Int.ofNat (List.length (List.getD p.2 (Int.toNat i) (dflt (.sl T_api_Ins))))))))
            (.br (k_ref1_CopyIns (List.getD (List.getD p.2 (Int.toNat i) (dflt (.sl T_api_Ins))) (Int.toNat k) (dflt T_api_Ins)))
              (.br (Nat.ble (((List.length t) + 1) * 128) limit)
                (.jmp (.l19 q (IntKind.i64.wrap (k + (1 : Int))) (t ++ [(v_ref1_CopyIns (List.getD (List.getD p.2 (Int.toNat i) (dflt (.sl T_api_Ins))) (Int.toNat k) (dflt T_api_Ins)))]) i q1))
              (.no))
            (.no))
          (.no))
        (.no))
      (.br (Nat.ble (((List.length q1) + 1) * 24) limit)
        (.jmp (.l12 q (IntKind.i64.wrap (i + (1 : Int))) (q1 ++ [t])))
      (.no)))
    (.no)
def T0_ref1_CopyProg (p : El T_api_Prog) : JT J_ref1_CopyProg (El T_api_Prog) :=
  .jmp (.l4 (0 : Int) [])
def R_ref1_CopyProg : El T_api_Prog → AV := fun (r : El T_api_Prog) => .ag [.rw 70 T_api_Sym r.1, .rw 58 (.sl T_api_Ins) r.2]
def S_ref1_CopyProg (p : El T_api_Prog) : J_ref1_CopyProg → Nat × St
  | .l4 i q => (4, ⟨mkTm 71 [(1, .pt 2 0 0), (2, .pt 3 0 0), (3, .pt 4 0 0), (4, .d (.int .i64) i)], [(2, 0, .box 27 [.d (.sl T_api_Sym) p.1, .d (.sl (.sl T_api_Ins)) p.2] none), (3, 0, .box 27 [.nil, .nil] none), (4, 0, .box 27 [.own 4097 0 none, .nil] none), (4097, 0, .row 70 T_api_Sym q false)]⟩)
  | .l12 q i q1 => (12, ⟨mkTm 71 [(1, .pt 2 0 0), (2, .pt 3 0 0), (3, .pt 4 0 0), (6, .d (.int .i64) i)], [(2, 0, .box 27 [.d (.sl T_api_Sym) p.1, .d (.sl (.sl T_api_Ins)) p.2] none), (3, 0, .box 27 [.nil, .nil] none), (4, 0, .box 27 [.own 4097 0 none, .own 4098 0 none] none), (4097, 0, .row 70 T_api_Sym q false), (4098, 0, .row 58 (.sl T_api_Ins) q1 false)]⟩)
  | .l19 q k t i q1 => (19, ⟨mkTm 71 [(1, .pt 2 0 0), (2, .pt 3 0 0), (3, .pt 4 0 0), (6, .d (.int .i64) i), (7, .pt 8 0 0), (8, .d (.int .i64) k)], [(2, 0, .box 27 [.d (.sl T_api_Sym) p.1, .d (.sl (.sl T_api_Ins)) p.2] none), (3, 0, .box 27 [.nil, .nil] none), (4, 0, .box 27 [.own 4097 0 none, .own 4098 0 none] none), (8, 0, .box 58 [.own 8193 0 none] none), (4097, 0, .row 70 T_api_Sym q false), (4098, 0, .row 58 (.sl T_api_Ins) q1 false), (8193, 0, .row 63 T_api_Ins t false)]⟩)
theorem en_ref1_CopyProg (p : El T_api_Prog) (L : Lt) : entryA Go.Proofs.Tryd.prog (clOf t_ref1_CopyProg) tb_ref1_CopyProg Go.Proofs.Tryd.f43 c_ref1_CopyProg L (toForms sg_ref1_CopyProg (p, ())) = (T0_ref1_CopyProg p).run (fun v => some (R_ref1_CopyProg v, tps (toForms sg_ref1_CopyProg (p, ())))) fun j => L (S_ref1_CopyProg p j).1 (S_ref1_CopyProg p j).2 := by kernel_rfl
theorem lp_ref1_CopyProg (p : El T_api_Prog) : ∀ (L : Lt) (j : J_ref1_CopyProg), procOf (procsF Go.Proofs.Tryd.prog (clOf t_ref1_CopyProg) tb_ref1_CopyProg Go.Proofs.Tryd.f43 c_ref1_CopyProg (toForms sg_ref1_CopyProg (p, ()))) (S_ref1_CopyProg p j).1 L (S_ref1_CopyProg p j).2 = (T_ref1_CopyProg p j).run (fun v => some (R_ref1_CopyProg v, tps (toForms sg_ref1_CopyProg (p, ())))) fun j => L (S_ref1_CopyProg p j).1 (S_ref1_CopyProg p j).2
  | L, .l4 i q => by kernel_rfl
  | L, .l12 q i q1 => by kernel_rfl
  | L, .l19 q k t i q1 => by kernel_rfl
end Go.Ev
end

section
set_option linter.unusedSectionVars false
set_option linter.unusedVariables false
set_option linter.unusedSimpArgs false
set_option linter.unusedVariables false
set_option linter.unusedSimpArgs false
open Go
namespace Go.Ev
def v_ref1_CopyProg (p : El T_api_Prog) : El T_api_Prog := p
def k_ref1_CopyProg (p : El T_api_Prog) : Bool := copyB p
theorem g_ref1_CopyProg (p : El T_api_Prog) (hk : k_ref1_CopyProg p = true) : Goes (T_ref1_CopyProg p) (T0_ref1_CopyProg p) (v_ref1_CopyProg p) := by
  have hC := copyOK hk
  have h1 := hC.syms
  have h2 := hC.thr
  have l12 : ∀ k, k ≤ p.2.length → Goes (T_ref1_CopyProg p) (.jmp (.l12 p.1 (k : Int) (p.2.take k))) p := by
    refine down ?_ fun k hk ih => ?_
    · rw [goes_jmp]
      simp only [T_ref1_CopyProg, goes_br, lt_len_not (Nat.lt_irrefl _), List.take_length, if_false, Bool.false_eq_true]
      exact .leaf
    · obtain ⟨t, ht⟩ : ∃ t, p.2[k] = t := ⟨_, rfl⟩
      have hm : t ∈ p.2 := by rw [← ht]; exact List.getElem_mem hk
      have hl := hC.len t hm
      have l19 : ∀ j, j ≤ List.length t → Goes (T_ref1_CopyProg p) (.jmp (.l19 p.1 (j : Int) (List.take j t) (k : Int) (p.2.take k))) p := by
        refine down ?_ fun j hj ihj => ?_
        · have b : Nat.ble (((p.2.take k).length + 1) * 24) limit = true := bleN (by rw [List.length_take]; unfold limit; omega)
          rw [goes_jmp]
          simp only [T_ref1_CopyProg, goes_br, lt_len hk, nng, Bool.and_self, Int.toNat_natCast, getD_lt hk, ht, lt_len_not (Nat.lt_irrefl _), b, if_true, if_false, Bool.false_eq_true, wrap_succ (k := k) (by omega), List.take_length]
          rw [← ht, ← List.take_succ_eq_append_getElem hk]
          exact ih
        · have hb := hC.lab t hm _ (List.getElem_mem hj)
          have kI : k_ref1_CopyIns t[j] = true := decide_eq_true (by omega)
          have vI : v_ref1_CopyIns t[j] = t[j] := rfl
          have b2 : Nat.ble (((List.take j t).length + 1) * 128) limit = true := bleN (by rw [List.length_take]; unfold limit; omega)
          rw [goes_jmp]
          simp only [T_ref1_CopyProg, goes_br, lt_len hk, getD_lt hk, ht, lt_len hj, nng, Bool.and_self, if_true, Int.toNat_natCast, getD_lt hj, kI, vI, b2, wrap_succ (k := j) (by omega)]
          rw [← List.take_succ_eq_append_getElem hj]
          exact ihj
      rw [goes_jmp]
      simp only [T_ref1_CopyProg, goes_br, lt_len hk, if_true]
      exact l19 0 (Nat.zero_le _)
  have l4 : ∀ k, k ≤ p.1.length → Goes (T_ref1_CopyProg p) (.jmp (.l4 (k : Int) (p.1.take k))) p := by
    refine down ?_ fun k hk ih => ?_
    · rw [goes_jmp]
      simp only [T_ref1_CopyProg, goes_br, lt_len_not (Nat.lt_irrefl _), List.take_length, if_false, Bool.false_eq_true]
      exact l12 0 (Nat.zero_le _)
    · have hi := hC.init _ (List.getElem_mem hk)
      have b1 : Nat.ble (List.length (p.1[k]).2.2 * 8) limit = true := bleN (by unfold limit; omega)
      have b2 : Nat.ble (((p.1.take k).length + 1) * 48) limit = true := bleN (by rw [List.length_take]; unfold limit; omega)
      rw [goes_jmp]
      simp only [T_ref1_CopyProg, goes_br, lt_len hk, nng, Bool.and_self, if_true, Int.toNat_natCast, getD_lt hk, b1, b2, wrap_succ (k := k) (by omega)]
      rw [← List.take_succ_eq_append_getElem hk]
      exact ih
  unfold T0_ref1_CopyProg v_ref1_CopyProg
  exact l4 0 (Nat.zero_le _)
end Go.Ev
end

section
set_option linter.unusedSectionVars false
set_option linter.unusedVariables false
set_option linter.unusedSimpArgs false
set_option maxRecDepth 100000
set_option linter.unusedVariables false
open Go Go.Ev
namespace Go.Ev
noncomputable def e_ref1_CopyProg : Run := entG sg_ref1_CopyProg R_ref1_CopyProg (fun a => k_ref1_CopyProg a.1) (fun a => v_ref1_CopyProg a.1)
theorem ok_ref1_CopyProg : EntOK Go.Proofs.Tryd.prog 43 e_ref1_CopyProg := entG_ok (tb := tb_ref1_CopyProg) (c := c_ref1_CopyProg) tk_ref1_CopyProg (by kernel_rfl) (by kernel_rfl) (by kernel_rfl) (fun a => by kernel_rfl) fun ⟨p, _⟩ hk => evF_goes (c := c_ref1_CopyProg) (K := fun v => (R_ref1_CopyProg v, tps (toForms sg_ref1_CopyProg (p, ())))) (S := S_ref1_CopyProg p) (by kernel_rfl) (en_ref1_CopyProg p) (lp_ref1_CopyProg p) (g_ref1_CopyProg p hk)
end Go.Ev
end

section
set_option linter.unusedSectionVars false
set_option linter.unusedVariables false
set_option linter.unusedSimpArgs false
set_option maxRecDepth 100000
set_option linter.unusedVariables false
open Go Go.Ev
namespace Go.Ev
/-! ### paling/palingref3.Rising -/
def sg_ref3_Rising : Sig := [(false, (.sl (.int .i64)))]
noncomputable def t_ref3_Rising : Tbl := []
theorem tk_ref3_Rising : ∀ p ∈ t_ref3_Rising, EntOK Go.Proofs.Tryd.prog p.1 p.2 := tbl_nil
noncomputable def c_ref3_Rising : Code := Go.Proofs.Tryd.f44.body.getD .skip
def tb_ref3_Rising : Tb := [(3, ⟨[0, 3], []⟩)]
inductive J_ref3_Rising where
  | l3 (i : Int)
def T_ref3_Rising (l : List Int) : J_ref3_Rising → JT J_ref3_Rising (Bool)
  | .l3 i =>
    .br (decide (i < (Int.ofNat (List.length l))))
      (.br ((decide ((0 : Int) ≤ i)) && (decide (i < (Int.ofNat (List.length l)))))
        (.br (decide ((List.getD l (Int.toNat i) (dflt (.int .i64))) < (0 : Int)))
          (.leaf false)
        (.br ((decide ((0 : Int) ≤ i)) && (decide (i < (Int.ofNat (List.length l)))))
          (.br (decide ((List.getD l (Int.toNat i) (dflt (.int .i64))) ≥ (2147483648 : Int)))
            (.leaf false)
          (.br (decide (i > (0 : Int)))
            (.br ((decide ((0 : Int) ≤ (IntKind.i64.wrap (i - (1 : Int))))) && (decide ((IntKind.i64.wrap (i - (1 : Int))) < (Int.ofNat (List.length l)))))
              (.br ((decide ((0 : Int) ≤ i)) && (decide (i < (Int.ofNat (List.length l)))))
                (.br (decide ((List.getD l (Int.toNat (IntKind.i64.wrap (i - (1 : Int)))) (dflt (.int .i64))) ≥ (List.getD l (Int.toNat i) (dflt (.int .i64)))))
                  (.leaf false)
                (.jmp (.l3 (IntKind.i64.wrap (i + (1 : Int))))))
              (.no))
            (.no))
          (.jmp (.l3 (IntKind.i64.wrap (i + (1 : Int)))))))
        (.no)))
      (.no))
    (.leaf true)
def T0_ref3_Rising (l : List Int) : JT J_ref3_Rising (Bool) :=
  .jmp (.l3 (0 : Int))
def R_ref3_Rising : Bool → AV := fun (r : Bool) => .d .bool r
def S_ref3_Rising (l : List Int) : J_ref3_Rising → Nat × St
  | .l3 i => (3, ⟨mkTm 38 [(0, .d (.sl (.int .i64)) l), (3, .d (.int .i64) i)], []⟩)
theorem en_ref3_Rising (l : List Int) (L : Lt) : entryA Go.Proofs.Tryd.prog (clOf t_ref3_Rising) tb_ref3_Rising Go.Proofs.Tryd.f44 c_ref3_Rising L (toForms sg_ref3_Rising (l, ())) = (T0_ref3_Rising l).run (fun v => some (R_ref3_Rising v, tps (toForms sg_ref3_Rising (l, ())))) fun j => L (S_ref3_Rising l j).1 (S_ref3_Rising l j).2 := by kernel_rfl
theorem lp_ref3_Rising (l : List Int) : ∀ (L : Lt) (j : J_ref3_Rising), procOf (procsF Go.Proofs.Tryd.prog (clOf t_ref3_Rising) tb_ref3_Rising Go.Proofs.Tryd.f44 c_ref3_Rising (toForms sg_ref3_Rising (l, ()))) (S_ref3_Rising l j).1 L (S_ref3_Rising l j).2 = (T_ref3_Rising l j).run (fun v => some (R_ref3_Rising v, tps (toForms sg_ref3_Rising (l, ())))) fun j => L (S_ref3_Rising l j).1 (S_ref3_Rising l j).2
  | L, .l3 i => by kernel_rfl
end Go.Ev
end

section
set_option linter.unusedSectionVars false
set_option linter.unusedVariables false
set_option linter.unusedSimpArgs false
set_option linter.unusedVariables false
set_option linter.unusedSimpArgs false
open Go
namespace Go.Ev
def v_ref3_Rising (l : List Int) : Bool := rising l
def k_ref3_Rising (l : List Int) : Bool := decide (l.length < 4611686018427387904)
theorem g_ref3_Rising (l : List Int) (hk : k_ref3_Rising l = true) : Goes (T_ref3_Rising l) (T0_ref3_Rising l) (v_ref3_Rising l) := by
  have hn : l.length < 4611686018427387904 := of_decide_eq_true hk
  have loop : ∀ k, k ≤ l.length → ∀ p : Int, (0 < k → l[k - 1]? = some p) → (k = 0 → p = -1) → Goes (T_ref3_Rising l) (.jmp (.l3 (k : Int))) (risingFrom p (l.drop k)) := by
    refine down ?_ fun k hk ih => ?_
    · intro p hp hp0
      rw [goes_jmp]
      simp only [T_ref3_Rising, goes_br, lt_len_not (Nat.lt_irrefl _), List.drop_length]
      exact .leaf
    · intro p hp hp0
      rw [goes_jmp, drop_cons hk]
      have nx : Goes (T_ref3_Rising l) (.jmp (.l3 ((k + 1 : Nat) : Int))) (risingFrom l[k] (l.drop (k + 1))) := ih l[k] (fun _ => by simp) (fun h => by omega)
      obtain ⟨n, hn'⟩ : ∃ n : Int, l[k] = n := ⟨_, rfl⟩
      rw [hn'] at nx ⊢
      unfold risingFrom
      by_cases h0 : k = 0
      · subst h0
        have e0 : decide (((0 : Nat) : Int) > 0) = false := by decide
        have hp1 := hp0 rfl
        simp only [T_ref3_Rising, goes_br, lt_len hk, nng, Bool.and_self, if_true, Int.toNat_natCast, getD_lt hk, hn', wrap_succ (k := 0) (by omega), e0]
        by_cases h1 : n < 0
        · rw [if_pos (decide_eq_true h1), if_pos (by omega)]; exact .leaf
        · rw [if_neg (by simpa using h1)]
          by_cases h2 : 2147483647 < n
          · rw [if_pos (decide_eq_true (by omega)), if_pos (by omega)]; exact .leaf
          · rw [if_neg (by simp; omega), if_neg (by decide), if_neg (by omega)]; simpa using nx
      · have e0 : decide ((k : Int) > 0) = true := decide_eq_true (by omega)
        have hk1 : k - 1 < l.length := by omega
        have hpv : l[k - 1] = p := by
          have := hp (by omega)
          rw [List.getElem?_eq_getElem hk1] at this
          exact Option.some.inj this
        simp only [T_ref3_Rising, goes_br, lt_len hk, nng, Bool.and_self, if_true, Int.toNat_natCast, getD_lt hk, hn', wrap_succ (k := k) (by omega), wrap_pred (k := k) (by omega) (by omega), lt_len hk1, getD_lt hk1, hpv, e0]
        by_cases h1 : n < 0
        · rw [if_pos (decide_eq_true h1), if_pos (by omega)]; exact .leaf
        · rw [if_neg (by simpa using h1)]
          by_cases h2 : 2147483647 < n
          · rw [if_pos (decide_eq_true (by omega)), if_pos (by omega)]; exact .leaf
          · rw [if_neg (by simp; omega)]
            by_cases h3 : n ≤ p
            · rw [if_pos (decide_eq_true (by omega)), if_pos (by omega)]; exact .leaf
            · rw [if_neg (by simp; omega), if_neg (by omega)]; exact nx
  have := loop 0 (Nat.zero_le _) (-1) (fun h => by omega) (fun _ => rfl)
  unfold T0_ref3_Rising v_ref3_Rising rising
  simpa using this
end Go.Ev
end

section
set_option linter.unusedSectionVars false
set_option linter.unusedVariables false
set_option linter.unusedSimpArgs false
set_option maxRecDepth 100000
set_option linter.unusedVariables false
open Go Go.Ev
namespace Go.Ev
noncomputable def e_ref3_Rising : Run := entG sg_ref3_Rising R_ref3_Rising (fun a => k_ref3_Rising a.1) (fun a => v_ref3_Rising a.1)
theorem ok_ref3_Rising : EntOK Go.Proofs.Tryd.prog 44 e_ref3_Rising := entG_ok (tb := tb_ref3_Rising) (c := c_ref3_Rising) tk_ref3_Rising (by kernel_rfl) (by kernel_rfl) (by kernel_rfl) (fun a => by kernel_rfl) fun ⟨l, _⟩ hk => evF_goes (c := c_ref3_Rising) (K := fun v => (R_ref3_Rising v, tps (toForms sg_ref3_Rising (l, ())))) (S := S_ref3_Rising l) (by kernel_rfl) (en_ref3_Rising l) (lp_ref3_Rising l) (g_ref3_Rising l hk)
end Go.Ev
end

section
set_option linter.unusedSectionVars false
set_option linter.unusedVariables false
set_option linter.unusedSimpArgs false
set_option maxRecDepth 100000
set_option linter.unusedVariables false
open Go Go.Ev
namespace Go.Ev
/-! ### paling/palingref3.In -/
def sg_ref3_In : Sig := [(false, (.sl (.int .i64))), (false, (.int .i64))]
noncomputable def t_ref3_In : Tbl := []
theorem tk_ref3_In : ∀ p ∈ t_ref3_In, EntOK Go.Proofs.Tryd.prog p.1 p.2 := tbl_nil
noncomputable def c_ref3_In : Code := Go.Proofs.Tryd.f27.body.getD .skip
def tb_ref3_In : Tb := [(3, ⟨[0, 1, 5], []⟩)]
inductive J_ref3_In where
  | l3 (i : Int)
def T_ref3_In (l : List Int) (n : Int) : J_ref3_In → JT J_ref3_In (Bool)
  | .l3 i =>
    .br (decide (i < (Int.ofNat (List.length l))))
      (.br ((decide ((0 : Int) ≤ i)) && (decide (i < (Int.ofNat (List.length l)))))
        (.br ((List.getD l (Int.toNat i) (dflt (.int .i64))) == n)
          (.leaf true)
        (.jmp (.l3 (IntKind.i64.wrap (i + (1 : Int))))))
      (.no))
    (.leaf false)
def T0_ref3_In (l : List Int) (n : Int) : JT J_ref3_In (Bool) :=
  .jmp (.l3 (0 : Int))
def R_ref3_In : Bool → AV := fun (r : Bool) => .d .bool r
def S_ref3_In (l : List Int) (n : Int) : J_ref3_In → Nat × St
  | .l3 i => (3, ⟨mkTm 18 [(0, .d (.sl (.int .i64)) l), (1, .d (.int .i64) n), (5, .d (.int .i64) i)], []⟩)
theorem en_ref3_In (l : List Int) (n : Int) (L : Lt) : entryA Go.Proofs.Tryd.prog (clOf t_ref3_In) tb_ref3_In Go.Proofs.Tryd.f27 c_ref3_In L (toForms sg_ref3_In (l, n, ())) = (T0_ref3_In l n).run (fun v => some (R_ref3_In v, tps (toForms sg_ref3_In (l, n, ())))) fun j => L (S_ref3_In l n j).1 (S_ref3_In l n j).2 := by kernel_rfl
theorem lp_ref3_In (l : List Int) (n : Int) : ∀ (L : Lt) (j : J_ref3_In), procOf (procsF Go.Proofs.Tryd.prog (clOf t_ref3_In) tb_ref3_In Go.Proofs.Tryd.f27 c_ref3_In (toForms sg_ref3_In (l, n, ()))) (S_ref3_In l n j).1 L (S_ref3_In l n j).2 = (T_ref3_In l n j).run (fun v => some (R_ref3_In v, tps (toForms sg_ref3_In (l, n, ())))) fun j => L (S_ref3_In l n j).1 (S_ref3_In l n j).2
  | L, .l3 i => by kernel_rfl
end Go.Ev
end

section
set_option linter.unusedSectionVars false
set_option linter.unusedVariables false
set_option linter.unusedSimpArgs false
set_option linter.unusedVariables false
set_option linter.unusedSimpArgs false
open Go
namespace Go.Ev
def v_ref3_In (l : List Int) (n : Int) : Bool := l.contains n
def k_ref3_In (l : List Int) (n : Int) : Bool := decide (l.length < 4611686018427387904)
theorem g_ref3_In (l : List Int) (n : Int) (hk : k_ref3_In l n = true) : Goes (T_ref3_In l n) (T0_ref3_In l n) (v_ref3_In l n) := by
  have hn : l.length < 4611686018427387904 := of_decide_eq_true hk
  have loop : ∀ k, k ≤ l.length → Goes (T_ref3_In l n) (.jmp (.l3 (k : Int))) ((l.drop k).contains n) := by
    refine down ?_ fun k hk ih => ?_
    · rw [goes_jmp]
      simp only [T_ref3_In, goes_br, lt_len_not (Nat.lt_irrefl _), goes_leaf, List.drop_length]
      simp
    · rw [goes_jmp]
      simp only [T_ref3_In, goes_br, lt_len hk, nng, Bool.and_self, if_true, Int.toNat_natCast, getD_lt hk, wrap_succ (k := k) (by omega)]
      rw [drop_cons hk, List.contains_cons]
      cases h : (l[k] == n) with
      | true =>
        have : (n == l[k]) = true := by simp at h ⊢; exact h.symm
        rw [this]; simp [goes_leaf]
      | false =>
        have : (n == l[k]) = false := by simp at h ⊢; exact fun e => h e.symm
        rw [this]; simpa using ih
  unfold T0_ref3_In v_ref3_In
  simpa using loop 0 (Nat.zero_le _)
end Go.Ev
end

section
set_option linter.unusedSectionVars false
set_option linter.unusedVariables false
set_option linter.unusedSimpArgs false
set_option maxRecDepth 100000
set_option linter.unusedVariables false
open Go Go.Ev
namespace Go.Ev
noncomputable def e_ref3_In : Run := entG sg_ref3_In R_ref3_In (fun a => k_ref3_In a.1 a.2.1) (fun a => v_ref3_In a.1 a.2.1)
theorem ok_ref3_In : EntOK Go.Proofs.Tryd.prog 27 e_ref3_In := entG_ok (tb := tb_ref3_In) (c := c_ref3_In) tk_ref3_In (by kernel_rfl) (by kernel_rfl) (by kernel_rfl) (fun a => by kernel_rfl) fun ⟨l, n, _⟩ hk => evF_goes (c := c_ref3_In) (K := fun v => (R_ref3_In v, tps (toForms sg_ref3_In (l, n, ())))) (S := S_ref3_In l n) (by kernel_rfl) (en_ref3_In l n) (lp_ref3_In l n) (g_ref3_In l n hk)
end Go.Ev
end

section
set_option linter.unusedSectionVars false
set_option linter.unusedVariables false
set_option linter.unusedSimpArgs false
set_option maxRecDepth 100000
set_option linter.unusedVariables false
open Go Go.Ev
namespace Go.Ev
/-! ### paling/palingref3.Unweave -/
def sg_ref3_Unweave : Sig := [(true, T_api_Prog), (false, (.sl (.sl (.int .i64))))]
noncomputable def t_ref3_Unweave : Tbl := [(35, e_ref1_Check), (43, e_ref1_CopyProg), (44, e_ref3_Rising), (27, e_ref3_In)]
theorem tk_ref3_Unweave : ∀ p ∈ t_ref3_Unweave, EntOK Go.Proofs.Tryd.prog p.1 p.2 := tbl_cons ok_ref1_Check (tbl_cons ok_ref1_CopyProg (tbl_cons ok_ref3_Rising (tbl_cons ok_ref3_In (tbl_nil))))
noncomputable def c_ref3_Unweave : Code := Go.Proofs.Tryd.f34.body.getD .skip
def tb_ref3_Unweave : Tb := [(7, ⟨[1, 2, 4, 6, 7], []⟩), (17, ⟨[1, 2, 4, 6, 7, 8, 9], []⟩), (27, ⟨[1, 2, 4, 6, 7, 8, 10, 11, 12], [(12, 122), (11, 112)]⟩), (hintK, ⟨[], [(1049601, 48), (1049602, 50)]⟩)]
inductive J_ref3_Unweave where
  | l7 (t : Int) (q : List (List (El T_api_Ins)))
  | l17 (l : List (El T_api_Ins)) (k : Int) (t : Int) (q : List (List (El T_api_Ins)))
  | l27 (l : List (El T_api_Ins)) (i : Int) (labels : List ByteArray) (out : List (El T_api_Ins)) (t : Int) (q : List (List (El T_api_Ins)))
def T_ref3_Unweave (p : El T_api_Prog) (fences : List (List Int)) : J_ref3_Unweave → JT J_ref3_Unweave ((El T_api_Prog) × Bool)
  | .l7 t q =>
    .br (decide (t < (Int.ofNat (List.length fences))))
      (.br ((decide ((0 : Int) ≤ t)) && (decide (t < (Int.ofNat (List.length p.2)))))
        (.br ((decide ((0 : Int) ≤ t)) && (decide (t < (Int.ofNat (List.length fences)))))
          (.br (k_ref3_Rising (List.getD fences (Int.toNat t) (dflt (.sl (.int .i64)))))
            (.br (! (v_ref3_Rising (List.getD fences (Int.toNat t) (dflt (.sl (.int .i64))))))
              (.leaf (([], []), false))
            (.jmp (.l17 (List.getD p.2 (Int.toNat t) (dflt (.sl T_api_Ins))) (0 : Int) t q)))
          (.no))
        (.no))
      (.no))
    (.leaf (((v_ref1_CopyProg p).1, q), true))
  | .l17 l k t q =>
    .br ((decide ((0 : Int) ≤ t)) && (decide (t < (Int.ofNat (List.length fences)))))
      (.br (decide (k < (Int.ofNat (List.length (List.getD fences (Int.toNat t) (dflt (.sl (.int .i64))))))))
        (.br ((decide ((0 : Int) ≤ t)) && (decide (t < (Int.ofNat (List.length fences)))))
          (.br ((decide ((0 : Int) ≤ k)) && (decide (k < (Int.ofNat (List.length (List.getD fences (Int.toNat t) (dflt (.sl (.int .i64)))))))))
            (.br (decide ((List.getD (List.getD fences (Int.toNat t) (dflt (.sl (.int .i64)))) (Int.toNat k) (dflt (.int .i64))) ≥ (Int.ofNat (List.length l))))
              (.leaf (([], []), false))
            (.br ((decide ((0 : Int) ≤ t)) && (decide (t < (Int.ofNat (List.length fences)))))
              (.br ((decide ((0 : Int) ≤ k)) && (decide (k < (Int.ofNat (List.length (List.getD fences (Int.toNat t) (dflt (.sl (.int .i64)))))))))
                (.br ((decide ((0 : Int) ≤ (List.getD (List.getD fences (Int.toNat t) (dflt (.sl (.int .i64)))) (Int.toNat k) (dflt (.int .i64))))) && (decide ((List.getD (List.getD fences (Int.toNat t) (dflt (.sl (.int .i64)))) (Int.toNat k) (dflt (.int .i64))) < (Int.ofNat (List.length l)))))
                  (.br ((List.getD l (Int.toNat (List.getD (List.getD fences (Int.toNat t) (dflt (.sl (.int .i64)))) (Int.toNat k) (dflt (.int .i64)))) (dflt T_api_Ins)).1 != (12 : Int))
                    (.leaf (([], []), false))
                  (.jmp (.l17 l (IntKind.i64.wrap (k + (1 : Int))) t q)))
                (.no))
              (.no))
            (.no)))
          (.no))
        (.no))
      (.jmp (.l27 l (0 : Int) [] [] t q)))
    (.no)
  | .l27 l i labels out t q =>
    .br (decide (i < (Int.ofNat (List.length l))))
      (.br ((decide ((0 : Int) ≤ i)) && (decide (i < (Int.ofNat (List.length l)))))
        (.br (Nat.ble (((List.length labels) + (List.length (List.getD l (Int.toNat i) (dflt T_api_Ins)).2.2.2.2.2.2)) * 16) limit)
          (.br ((decide ((0 : Int) ≤ t)) && (decide (t < (Int.ofNat (List.length fences)))))
            (.br (k_ref3_In (List.getD fences (Int.toNat t) (dflt (.sl (.int .i64)))) i)
              (.br (v_ref3_In (List.getD fences (Int.toNat t) (dflt (.sl (.int .i64)))) i)
                (.jmp (.l27 l (IntKind.i64.wrap (i + (1 : Int))) (labels ++ (List.getD l (Int.toNat i) (dflt T_api_Ins)).2.2.2.2.2.2) out t q))
              (.br ((decide ((0 : Int) ≤ i)) && (decide (i < (Int.ofNat (List.length l)))))
                (.br (Nat.ble ((List.length (labels ++ (List.getD l (Int.toNat i) (dflt T_api_Ins)).2.2.2.2.2.2)) * 16) limit)
                  (.br (Nat.ble (((List.length out) + 1) * 128) limit)
                    (.jmp (.l27 l (IntKind.i64.wrap (i + (1 : Int))) [] (out ++ [((List.getD l (Int.toNat i) (dflt T_api_Ins)).1, ((List.getD l (Int.toNat i) (dflt T_api_Ins)).2.1, ((List.getD l (Int.toNat i) (dflt T_api_Ins)).2.2.1, ((List.getD l (Int.toNat i) (dflt T_api_Ins)).2.2.2.1, ((List.getD l (Int.toNat i) (dflt T_api_Ins)).2.2.2.2.1, ((List.getD l (Int.toNat i) (dflt T_api_Ins)).2.2.2.2.2.1, (labels ++ (List.getD l (Int.toNat i) (dflt T_api_Ins)).2.2.2.2.2.2)))))))]) t q))
                  (.no))
                (.no))
              (.no)))
            (.no))
          (.no))
        (.no))
      (.no))
    (.br ((decide ((0 : Int) ≤ t)) && (decide (t < (Int.ofNat (List.length q)))))
      (.jmp (.l7 (IntKind.i64.wrap (t + (1 : Int))) (List.set q (Int.toNat t) out)))
    (.no))
def T0_ref3_Unweave (p : El T_api_Prog) (fences : List (List Int)) : JT J_ref3_Unweave ((El T_api_Prog) × Bool) :=
  .br (k_ref1_Check p)
    (.br ((v_ref1_Check p) != (0 : Int))
      (.leaf (([], []), false))
    (.br (decide ((Int.ofNat (List.length fences)) > (Int.ofNat (List.length p.2))))
      (.leaf (([], []), false))
    (.br (k_ref1_CopyProg p)
      (.jmp (.l7 (0 : Int) (v_ref1_CopyProg p).2))
    (.no))))
  (.no)
def R_ref3_Unweave : (El T_api_Prog) × Bool → AV := fun (r : (El T_api_Prog) × Bool) => .tu [.ag [.rw 70 T_api_Sym r.1.1, .rw 58 (.sl T_api_Ins) r.1.2], .d .bool r.2]
def S_ref3_Unweave (p : El T_api_Prog) (fences : List (List Int)) : J_ref3_Unweave → Nat × St
  | .l7 t q => (7, ⟨mkTm 118 [(1, .d (.sl (.sl (.int .i64))) fences), (2, .pt 3 0 0), (4, .pt 5 0 0), (6, .pt 7 0 0), (7, .d (.int .i64) t)], [(3, 0, .box 27 [.d (.sl T_api_Sym) p.1, .d (.sl (.sl T_api_Ins)) p.2] none), (5, 0, .box 27 [.nil, .nil] none), (7, 0, .box 27 [.own 7169 0 none, .own 7170 0 none] none), (7169, 0, .row 70 T_api_Sym (v_ref1_CopyProg p).1 false), (7170, 0, .row 58 (.sl T_api_Ins) q false)]⟩)
  | .l17 l k t q => (17, ⟨mkTm 118 [(1, .d (.sl (.sl (.int .i64))) fences), (2, .pt 3 0 0), (4, .pt 5 0 0), (6, .pt 7 0 0), (7, .d (.int .i64) t), (8, .d (.sl T_api_Ins) l), (9, .d (.int .i64) k)], [(3, 0, .box 27 [.d (.sl T_api_Sym) p.1, .d (.sl (.sl T_api_Ins)) p.2] none), (5, 0, .box 27 [.nil, .nil] none), (7, 0, .box 27 [.own 7169 0 none, .own 7170 0 none] none), (7169, 0, .row 70 T_api_Sym (v_ref1_CopyProg p).1 false), (7170, 0, .row 58 (.sl T_api_Ins) q false)]⟩)
  | .l27 l i labels out t q => (27, ⟨mkTm 118 [(1, .d (.sl (.sl (.int .i64))) fences), (2, .pt 3 0 0), (4, .pt 5 0 0), (6, .pt 7 0 0), (7, .d (.int .i64) t), (8, .d (.sl T_api_Ins) l), (10, .own 11 0 none), (11, .own 12 0 none), (12, .d (.int .i64) i)], [(3, 0, .box 27 [.d (.sl T_api_Sym) p.1, .d (.sl (.sl T_api_Ins)) p.2] none), (5, 0, .box 27 [.nil, .nil] none), (7, 0, .box 27 [.own 7169 0 none, .own 7170 0 none] none), (11, 0, .row 63 T_api_Ins out false), (12, 0, .row 9 .str labels false), (7169, 0, .row 70 T_api_Sym (v_ref1_CopyProg p).1 false), (7170, 0, .row 58 (.sl T_api_Ins) q false)]⟩)
theorem en_ref3_Unweave (p : El T_api_Prog) (fences : List (List Int)) (L : Lt) : entryA Go.Proofs.Tryd.prog (clOf t_ref3_Unweave) tb_ref3_Unweave Go.Proofs.Tryd.f34 c_ref3_Unweave L (toForms sg_ref3_Unweave (p, fences, ())) = (T0_ref3_Unweave p fences).run (fun v => some (R_ref3_Unweave v, tps (toForms sg_ref3_Unweave (p, fences, ())))) fun j => L (S_ref3_Unweave p fences j).1 (S_ref3_Unweave p fences j).2 := by kernel_rfl
theorem lp_ref3_Unweave (p : El T_api_Prog) (fences : List (List Int)) : ∀ (L : Lt) (j : J_ref3_Unweave), procOf (procsF Go.Proofs.Tryd.prog (clOf t_ref3_Unweave) tb_ref3_Unweave Go.Proofs.Tryd.f34 c_ref3_Unweave (toForms sg_ref3_Unweave (p, fences, ()))) (S_ref3_Unweave p fences j).1 L (S_ref3_Unweave p fences j).2 = (T_ref3_Unweave p fences j).run (fun v => some (R_ref3_Unweave v, tps (toForms sg_ref3_Unweave (p, fences, ())))) fun j => L (S_ref3_Unweave p fences j).1 (S_ref3_Unweave p fences j).2
  | L, .l7 t q => by kernel_rfl
  | L, .l17 l k t q => by kernel_rfl
  | L, .l27 l i labels out t q => by kernel_rfl
end Go.Ev
end

section
set_option linter.unusedSectionVars false
set_option linter.unusedVariables false
set_option linter.unusedSimpArgs false
set_option linter.unusedVariables false
set_option linter.unusedSimpArgs false
open Go
namespace Go.Ev
def v_ref3_Unweave (p : El T_api_Prog) (fences : List (List Int)) : (El T_api_Prog) × Bool := outC p fences
def k_ref3_Unweave (p : El T_api_Prog) (fences : List (List Int)) : Bool := smallProg p && (copyB p && fences.all fun l => decide (List.length l < 1099511627776))
theorem g_ref3_Unweave (p : El T_api_Prog) (points : List (List Int)) (hk : k_ref3_Unweave p points = true) : Goes (T_ref3_Unweave p points) (T0_ref3_Unweave p points) (v_ref3_Unweave p points) := by
  unfold k_ref3_Unweave at hk
  simp only [Bool.and_eq_true, List.all_eq_true, decide_eq_true_eq] at hk
  obtain ⟨hsm, hcp, hpl⟩ := hk
  have hC := copyOK hcp
  have hkc : k_ref1_Check p = true := hsm
  have hkC : k_ref1_CopyProg p = true := hcp
  have hvC : v_ref1_CopyProg p = p := rfl
  have hth := hC.thr
  have hsmall : ∀ x ∈ p.2, smallThread x = true := by
    unfold smallProg at hsm
    simp only [Bool.and_eq_true, List.all_eq_true] at hsm
    exact hsm.2
  obtain ⟨R, hR⟩ : ∃ R, outP points p.2 = R := ⟨_, rfl⟩
  have hRl : R.length = p.2.length := by rw [← hR]; exact outP_len points p.2
  have hRg : ∀ t (h : t < p.2.length), R[t]'(by omega) = outT (points.getD t []) 0 [] p.2[t] := fun t h => by
    have := outP_get points p.2 t h
    rw [hR, List.getElem?_eq_getElem (by omega)] at this
    exact Option.some.inj this
  have loop : points.length ≤ p.2.length → ∀ t, t ≤ points.length → Goes (T_ref3_Unweave p points) (.jmp (.l7 (t : Int) (R.take t ++ p.2.drop t))) (if okOuts (points.drop t) (p.2.drop t) then ((p.1, R), true) else (noProg, false)) := by
    intro hpt
    refine down ?_ fun t ht ih => ?_
    · rw [goes_jmp]
      simp only [T_ref3_Unweave, goes_br, lt_len_not (Nat.lt_irrefl _), if_false, Bool.false_eq_true, hvC, List.drop_length]
      rw [if_pos (by rfl)]
      have : R.take points.length ++ p.2.drop points.length = R := by
        apply List.ext_getElem
        · rw [mix_len hRl hpt, hRl]
        · intro i h1 h2
          by_cases hi : i < points.length
          · rw [List.getElem_append_left (by rw [List.length_take]; omega), List.getElem_take]
          · rw [List.getElem_append_right (by rw [List.length_take]; omega), List.getElem_drop, hRg i (by omega), List.getD_eq_getElem?_getD, List.getElem?_eq_none (by omega), Option.getD_none, outT_nil]
            congr 1
            rw [List.length_take]
            omega
      rw [this]
      exact .leaf
    · have htp : t < p.2.length := by omega
      have hL := hpl _ (List.getElem_mem ht)
      obtain ⟨l, hl⟩ : ∃ l, points[t] = l := ⟨_, rfl⟩
      rw [hl] at hL
      have hko : k_ref3_Rising l = true := decide_eq_true (by omega)
      have hvo : v_ref3_Rising l = rising l := rfl
      have hql := mix_len (k := t) hRl (by omega)
      have hqt : t < (R.take t ++ p.2.drop t).length := by omega
      obtain ⟨x, hx⟩ : ∃ x, p.2[t] = x := ⟨_, rfl⟩
      have hxm : x ∈ p.2 := by rw [← hx]; exact List.getElem_mem htp
      have hxl := hC.len x hxm
      have hxs := (smallT (hsmall x hxm)).labs
      have hset := mix_set hRl htp
      rw [hRg t htp, getD_lt ht, hl, hx] at hset
      have hI : ∀ k, k_ref3_In l k = true := fun k => decide_eq_true (by omega)
      have inner : Goes (T_ref3_Unweave p points) (.jmp (.l27 x 0 [] [] (t : Int) (R.take t ++ p.2.drop t))) (if okOuts (points.drop (t + 1)) (p.2.drop (t + 1)) then ((p.1, R), true) else (noProg, false)) := by
        have go : ∀ k, k ≤ List.length x → ∀ (ls : List ByteArray) (out : List (El T_api_Ins)), ls.length + (labels (List.drop k x)).length ≤ (labels x).length → out.length ≤ k → out ++ outT l k ls (List.drop k x) = outT l 0 [] x →
            Goes (T_ref3_Unweave p points) (.jmp (.l27 x (k : Int) ls out (t : Int) (R.take t ++ p.2.drop t))) (if okOuts (points.drop (t + 1)) (p.2.drop (t + 1)) then ((p.1, R), true) else (noProg, false)) := by
          refine down ?_ fun k hk ihk => ?_
          · intro ls out hls ho he
            rw [goes_jmp]
            simp only [T_ref3_Unweave, goes_br, lt_len_not (Nat.lt_irrefl _), if_false, Bool.false_eq_true, lt_len hqt, nng, Bool.and_self, if_true, Int.toNat_natCast, wrap_succ (k := t) (by omega)]
            rw [List.drop_length, show outT l (List.length x) ls [] = [] from rfl, List.append_nil] at he
            rw [he, hset]
            exact ih
          · intro ls out hls ho he
            rw [drop_cons hk] at he hls
            rw [labels_cons] at hls
            have b1 : Nat.ble ((out.length + 1) * 128) limit = true := bleN (by unfold limit; omega)
            have hlab : ls.length + List.length (x[k]).2.2.2.2.2.2 < 1099511627776 := by
              have e : (labsOf x[k]).length = List.length (x[k]).2.2.2.2.2.2 := rfl
              omega
            have b2 : Nat.ble ((ls.length + List.length (x[k]).2.2.2.2.2.2) * 16) limit = true := bleN (by unfold limit; omega)
            have b3 : Nat.ble ((List.length (ls ++ (x[k]).2.2.2.2.2.2)) * 16) limit = true := bleN (by rw [List.length_append]; unfold limit; omega)
            have hl1 : (ls ++ labsOf x[k]).length + (labels (List.drop (k + 1) x)).length ≤ (labels x).length := by rw [List.length_append]; omega
            have hl2 : ([] : List ByteArray).length + (labels (List.drop (k + 1) x)).length ≤ (labels x).length := by simp; omega
            have hc : v_ref3_In l (k : Int) = l.contains (k : Int) := rfl
            rw [outT] at he
            rw [goes_jmp]
            simp only [T_ref3_Unweave, goes_br, lt_len hk, lt_len ht, getD_lt ht, hl, nng, Bool.and_self, if_true, Int.toNat_natCast, getD_lt hk, hI, hc, b1, b2, b3, wrap_succ (k := k) (by omega)]
            split
            · rename_i hm
              rw [if_pos hm] at he
              exact ihk _ _ hl1 (by omega) he
            · rename_i hm
              rw [if_neg hm] at he
              exact ihk [] _ hl2 (by rw [List.length_append, List.length_singleton]; omega) (by rw [List.append_assoc]; exact he)
        exact go 0 (Nat.zero_le _) [] [] (by simp) (by simp) rfl
      rw [okOuts_drop ht htp, hl, hx, goes_jmp]
      by_cases hr : rising l = true
      · have hge := (rising_spec.1 hr).1
        have scan : ∀ j, j ≤ List.length l → Goes (T_ref3_Unweave p points) (.jmp (.l17 x (j : Int) (t : Int) (R.take t ++ p.2.drop t))) (if ((List.drop j l).all (fenceAt x) && okOuts (points.drop (t + 1)) (p.2.drop (t + 1))) then ((p.1, R), true) else (noProg, false)) := by
          refine down ?_ fun j hj ihj => ?_
          · rw [goes_jmp]
            simp only [T_ref3_Unweave, goes_br, lt_len ht, getD_lt ht, hl, nng, Bool.and_self, if_true, Int.toNat_natCast, lt_len_not (Nat.lt_irrefl _), if_false, Bool.false_eq_true, List.drop_length, List.all_nil, Bool.true_and]
            exact inner
          · have hg := hge _ (List.getElem_mem hj)
            obtain ⟨n, hn⟩ := Int.eq_ofNat_of_zero_le hg.1
            rw [drop_cons hj, List.all_cons, hn, goes_jmp]
            by_cases hlt : n < List.length x
            · have d1 : decide ((n : Int) ≥ Int.ofNat (List.length x)) = false := decide_eq_false (by simp; omega)
              have hf : fenceAt x (n : Int) = ((show Int from (x[n]).1) == 12) := by
                unfold fenceAt
                rw [decide_eq_true (by omega), Int.toNat_natCast, getD_lt hlt]; rfl
              simp only [T_ref3_Unweave, goes_br, lt_len ht, getD_lt ht, hl, lt_len hj, nng, Bool.and_self, if_true, Int.toNat_natCast, getD_lt hj, hn, d1, lt_len hlt, getD_lt hlt, if_false, Bool.false_eq_true, wrap_succ (k := j) (by omega), hf]
              unfold bne
              cases h12 : ((x[n]).1 == (12 : Int)) with
              | true =>
                rw [if_neg (by decide), Bool.true_and]
                exact ihj
              | false =>
                rw [if_pos (by decide), Bool.false_and, Bool.false_and, if_neg (by decide)]
                exact .leaf
            · have d1 : decide ((n : Int) ≥ Int.ofNat (List.length x)) = true := decide_eq_true (by simp; omega)
              have hf : fenceAt x (n : Int) = false := by
                unfold fenceAt
                rw [decide_eq_false (by omega), Bool.false_and]
              simp only [T_ref3_Unweave, goes_br, lt_len ht, getD_lt ht, hl, lt_len hj, nng, Bool.and_self, if_true, Int.toNat_natCast, getD_lt hj, hn, d1, hf, Bool.false_and, if_false, Bool.false_eq_true]
              exact .leaf
        simp only [T_ref3_Unweave, goes_br, lt_len ht, lt_len htp, getD_lt htp, hx, nng, Bool.and_self, if_true, Int.toNat_natCast, getD_lt ht, hl, hko, hvo, hr, Bool.not_true, if_false, Bool.false_eq_true, okOut, Bool.true_and]
        exact scan 0 (Nat.zero_le _)
      · have hr' : rising l = false := by simpa using hr
        simp only [T_ref3_Unweave, goes_br, lt_len ht, lt_len htp, nng, Bool.and_self, if_true, Int.toNat_natCast, getD_lt ht, hl, hko, hvo, hr', Bool.not_false, okOut, Bool.false_and, if_false, Bool.false_eq_true]
        exact .leaf
  unfold T0_ref3_Unweave v_ref3_Unweave outC
  simp only [goes_br, hkc, if_true, v_ref1_Check]
  by_cases hc : checkC p = 0
  · rw [if_neg (by simp [hc])]
    by_cases hp : p.2.length < points.length
    · rw [if_pos (by simp; omega), if_pos (.inr (.inl hp))]
      exact .leaf
    · rw [if_neg (by simp; omega), if_pos hkC]
      have := loop (by omega) 0 (Nat.zero_le _)
      rw [List.drop_zero, List.drop_zero, List.take_zero, List.nil_append] at this
      cases hok : okOuts points p.2 with
      | true =>
        rw [hok, if_pos rfl] at this
        rw [if_neg (by simp [hc]; omega), hR]
        exact this
      | false =>
        rw [hok, if_neg (by decide)] at this
        rw [if_pos (.inr (.inr rfl))]
        exact this
  · rw [if_pos (by simpa using hc), if_pos (.inl hc)]
    exact .leaf
end Go.Ev
end

section
set_option linter.unusedSectionVars false
set_option linter.unusedVariables false
set_option linter.unusedSimpArgs false
set_option maxRecDepth 100000
set_option linter.unusedVariables false
open Go Go.Ev
namespace Go.Ev
noncomputable def e_ref3_Unweave : Run := entG sg_ref3_Unweave R_ref3_Unweave (fun a => k_ref3_Unweave a.1 a.2.1) (fun a => v_ref3_Unweave a.1 a.2.1)
theorem ok_ref3_Unweave : EntOK Go.Proofs.Tryd.prog 34 e_ref3_Unweave := entG_ok (tb := tb_ref3_Unweave) (c := c_ref3_Unweave) tk_ref3_Unweave (by kernel_rfl) (by kernel_rfl) (by kernel_rfl) (fun a => by kernel_rfl) fun ⟨p, fences, _⟩ hk => evF_goes (c := c_ref3_Unweave) (K := fun v => (R_ref3_Unweave v, tps (toForms sg_ref3_Unweave (p, fences, ())))) (S := S_ref3_Unweave p fences) (by kernel_rfl) (en_ref3_Unweave p fences) (lp_ref3_Unweave p fences) (g_ref3_Unweave p fences hk)
end Go.Ev
end

section
set_option linter.unusedSectionVars false
set_option linter.unusedVariables false
set_option linter.unusedSimpArgs false
set_option maxRecDepth 100000
set_option linter.unusedVariables false
open Go Go.Ev
namespace Go.Ev
/-! ### paling/palingref3.Weave -/
def sg_ref3_Weave : Sig := [(true, T_api_Prog), (false, (.sl (.sl (.int .i64))))]
noncomputable def t_ref3_Weave : Tbl := [(35, e_ref1_Check), (43, e_ref1_CopyProg), (44, e_ref3_Rising), (45, e_ref1_CopyIns), (27, e_ref3_In)]
theorem tk_ref3_Weave : ∀ p ∈ t_ref3_Weave, EntOK Go.Proofs.Tryd.prog p.1 p.2 := tbl_cons ok_ref1_Check (tbl_cons ok_ref1_CopyProg (tbl_cons ok_ref3_Rising (tbl_cons ok_ref1_CopyIns (tbl_cons ok_ref3_In (tbl_nil)))))
noncomputable def c_ref3_Weave : Code := Go.Proofs.Tryd.f15.body.getD .skip
def tb_ref3_Weave : Tb := [(7, ⟨[1, 2, 4, 6, 7, 66], []⟩), (18, ⟨[1, 2, 4, 6, 7, 8, 9, 10, 51], [(10, 112)]⟩), (hintK, ⟨[], [(1049601, 48), (1049602, 50)]⟩)]
inductive J_ref3_Weave where
  | l7 (t : Int) (q : List (List (El T_api_Ins)))
  | l18 (l : List (El T_api_Ins)) (h : Bool) (i : Int) (out : List (El T_api_Ins)) (t : Int) (q : List (List (El T_api_Ins)))
def T_ref3_Weave (p : El T_api_Prog) (points : List (List Int)) : J_ref3_Weave → JT J_ref3_Weave ((El T_api_Prog) × Bool)
  | .l7 t q =>
    .br (decide (t < (Int.ofNat (List.length points))))
      (.br ((decide ((0 : Int) ≤ t)) && (decide (t < (Int.ofNat (List.length p.2)))))
        (.br ((decide ((0 : Int) ≤ t)) && (decide (t < (Int.ofNat (List.length points)))))
          (.br (k_ref3_Rising (List.getD points (Int.toNat t) (dflt (.sl (.int .i64)))))
            (.br (! (v_ref3_Rising (List.getD points (Int.toNat t) (dflt (.sl (.int .i64))))))
              (.leaf (([], []), false))
            (.br ((decide ((0 : Int) ≤ t)) && (decide (t < (Int.ofNat (List.length points)))))
              (.br (decide ((Int.ofNat (List.length (List.getD points (Int.toNat t) (dflt (.sl (.int .i64)))))) > (0 : Int)))
                (.br ((decide ((0 : Int) ≤ t)) && (decide (t < (Int.ofNat (List.length points)))))
                  (.br ((decide ((0 : Int) ≤ t)) && (decide (t < (Int.ofNat (List.length points)))))
                    (.br ((decide ((0 : Int) ≤ (IntKind.i64.wrap ((Int.ofNat (List.length (List.getD points (Int.toNat t) (dflt (.sl (.int .i64)))))) - (1 : Int))))) && (decide ((IntKind.i64.wrap ((Int.ofNat (List.length (List.getD points (Int.toNat t) (dflt (.sl (.int .i64)))))) - (1 : Int))) < (Int.ofNat (List.length (List.getD points (Int.toNat t) (dflt (.sl (.int .i64)))))))))
                      (.br (decide ((List.getD (List.getD points (Int.toNat t) (dflt (.sl (.int .i64)))) (Int.toNat (IntKind.i64.wrap ((Int.ofNat (List.length (List.getD points (Int.toNat t) (dflt (.sl (.int .i64)))))) - (1 : Int)))) (dflt (.int .i64))) ≥ (Int.ofNat (List.length (List.getD p.2 (Int.toNat t) (dflt (.sl T_api_Ins)))))))
                        (.leaf (([], []), false))
                      (.jmp (.l18 (List.getD p.2 (Int.toNat t) (dflt (.sl T_api_Ins))) true (0 : Int) [] t q)))
                    (.no))
                  (.no))
                (.no))
              (.jmp (.l18 (List.getD p.2 (Int.toNat t) (dflt (.sl T_api_Ins))) false (0 : Int) [] t q)))
            (.no)))
          (.no))
        (.no))
      (.no))
    (.leaf (((v_ref1_CopyProg p).1, q), true))
  | .l18 l h i out t q =>
    .br (decide (i < (Int.ofNat (List.length l))))
      (.br ((decide ((0 : Int) ≤ i)) && (decide (i < (Int.ofNat (List.length l)))))
        (.br (k_ref1_CopyIns (List.getD l (Int.toNat i) (dflt T_api_Ins)))
          (.br ((decide ((0 : Int) ≤ t)) && (decide (t < (Int.ofNat (List.length points)))))
            (.br (k_ref3_In (List.getD points (Int.toNat t) (dflt (.sl (.int .i64)))) i)
              (.br (v_ref3_In (List.getD points (Int.toNat t) (dflt (.sl (.int .i64)))) i)
                (.br (Nat.ble (((List.length out) + 1) * 128) limit)
                  (.br (Nat.ble (((List.length (out ++ [((12 : Int), (false, ((0 : Int), (((0 : Int), ((0 : Int), ((0 : Int), (0 : Int)))), (((0 : Int), ((0 : Int), ((0 : Int), (0 : Int)))), ((bs []), (v_ref1_CopyIns (List.getD l (Int.toNat i) (dflt T_api_Ins))).2.2.2.2.2.2))))))])) + 1) * 128) limit)
                    (.jmp (.l18 l h (IntKind.i64.wrap (i + (1 : Int))) ((out ++ [((12 : Int), (false, ((0 : Int), (((0 : Int), ((0 : Int), ((0 : Int), (0 : Int)))), (((0 : Int), ((0 : Int), ((0 : Int), (0 : Int)))), ((bs []), (v_ref1_CopyIns (List.getD l (Int.toNat i) (dflt T_api_Ins))).2.2.2.2.2.2))))))]) ++ [((v_ref1_CopyIns (List.getD l (Int.toNat i) (dflt T_api_Ins))).1, ((v_ref1_CopyIns (List.getD l (Int.toNat i) (dflt T_api_Ins))).2.1, ((v_ref1_CopyIns (List.getD l (Int.toNat i) (dflt T_api_Ins))).2.2.1, ((v_ref1_CopyIns (List.getD l (Int.toNat i) (dflt T_api_Ins))).2.2.2.1, ((v_ref1_CopyIns (List.getD l (Int.toNat i) (dflt T_api_Ins))).2.2.2.2.1, ((v_ref1_CopyIns (List.getD l (Int.toNat i) (dflt T_api_Ins))).2.2.2.2.2.1, []))))))]) t q))
                  (.no))
                (.no))
              (.br (Nat.ble (((List.length out) + 1) * 128) limit)
                (.jmp (.l18 l h (IntKind.i64.wrap (i + (1 : Int))) (out ++ [(v_ref1_CopyIns (List.getD l (Int.toNat i) (dflt T_api_Ins)))]) t q))
              (.no)))
            (.no))
          (.no))
        (.no))
      (.no))
    (.br ((decide ((0 : Int) ≤ t)) && (decide (t < (Int.ofNat (List.length q)))))
      (.jmp (.l7 (IntKind.i64.wrap (t + (1 : Int))) (List.set q (Int.toNat t) out)))
    (.no))
def T0_ref3_Weave (p : El T_api_Prog) (points : List (List Int)) : JT J_ref3_Weave ((El T_api_Prog) × Bool) :=
  .br (k_ref1_Check p)
    (.br ((v_ref1_Check p) != (0 : Int))
      (.leaf (([], []), false))
    (.br (decide ((Int.ofNat (List.length points)) > (Int.ofNat (List.length p.2))))
      (.leaf (([], []), false))
    (.br (k_ref1_CopyProg p)
      (.jmp (.l7 (0 : Int) (v_ref1_CopyProg p).2))
    (.no))))
  (.no)
def R_ref3_Weave : (El T_api_Prog) × Bool → AV := fun (r : (El T_api_Prog) × Bool) => .tu [.ag [.rw 70 T_api_Sym r.1.1, .rw 58 (.sl T_api_Ins) r.1.2], .d .bool r.2]
def S_ref3_Weave (p : El T_api_Prog) (points : List (List Int)) : J_ref3_Weave → Nat × St
  | .l7 t q => (7, ⟨mkTm 105 [(1, .d (.sl (.sl (.int .i64))) points), (2, .pt 3 0 0), (4, .pt 5 0 0), (6, .pt 7 0 0), (7, .d (.int .i64) t)], [(3, 0, .box 27 [.d (.sl T_api_Sym) p.1, .d (.sl (.sl T_api_Ins)) p.2] none), (5, 0, .box 27 [.nil, .nil] none), (7, 0, .box 27 [.own 7169 0 none, .own 7170 0 none] none), (7169, 0, .row 70 T_api_Sym (v_ref1_CopyProg p).1 false), (7170, 0, .row 58 (.sl T_api_Ins) q false)]⟩)
  | .l18 l h i out t q => (18, ⟨mkTm 105 [(1, .d (.sl (.sl (.int .i64))) points), (2, .pt 3 0 0), (4, .pt 5 0 0), (6, .pt 7 0 0), (7, .d (.int .i64) t), (8, .d (.sl T_api_Ins) l), (9, .own 10 0 none), (10, .d (.int .i64) i), (51, .d .bool h)], [(3, 0, .box 27 [.d (.sl T_api_Sym) p.1, .d (.sl (.sl T_api_Ins)) p.2] none), (5, 0, .box 27 [.nil, .nil] none), (7, 0, .box 27 [.own 7169 0 none, .own 7170 0 none] none), (10, 0, .row 63 T_api_Ins out false), (7169, 0, .row 70 T_api_Sym (v_ref1_CopyProg p).1 false), (7170, 0, .row 58 (.sl T_api_Ins) q false)]⟩)
theorem en_ref3_Weave (p : El T_api_Prog) (points : List (List Int)) (L : Lt) : entryA Go.Proofs.Tryd.prog (clOf t_ref3_Weave) tb_ref3_Weave Go.Proofs.Tryd.f15 c_ref3_Weave L (toForms sg_ref3_Weave (p, points, ())) = (T0_ref3_Weave p points).run (fun v => some (R_ref3_Weave v, tps (toForms sg_ref3_Weave (p, points, ())))) fun j => L (S_ref3_Weave p points j).1 (S_ref3_Weave p points j).2 := by kernel_rfl
theorem lp_ref3_Weave (p : El T_api_Prog) (points : List (List Int)) : ∀ (L : Lt) (j : J_ref3_Weave), procOf (procsF Go.Proofs.Tryd.prog (clOf t_ref3_Weave) tb_ref3_Weave Go.Proofs.Tryd.f15 c_ref3_Weave (toForms sg_ref3_Weave (p, points, ()))) (S_ref3_Weave p points j).1 L (S_ref3_Weave p points j).2 = (T_ref3_Weave p points j).run (fun v => some (R_ref3_Weave v, tps (toForms sg_ref3_Weave (p, points, ())))) fun j => L (S_ref3_Weave p points j).1 (S_ref3_Weave p points j).2
  | L, .l7 t q => by kernel_rfl
  | L, .l18 l h i out t q => by kernel_rfl
end Go.Ev
end

section
set_option linter.unusedSectionVars false
set_option linter.unusedVariables false
set_option linter.unusedSimpArgs false
set_option linter.unusedVariables false
set_option linter.unusedSimpArgs false
open Go
namespace Go.Ev
def v_ref3_Weave (p : El T_api_Prog) (points : List (List Int)) : (El T_api_Prog) × Bool := inC p points
def k_ref3_Weave (p : El T_api_Prog) (points : List (List Int)) : Bool := smallProg p && (copyB p && points.all fun l => decide (List.length l < 1099511627776))
theorem g_ref3_Weave (p : El T_api_Prog) (points : List (List Int)) (hk : k_ref3_Weave p points = true) : Goes (T_ref3_Weave p points) (T0_ref3_Weave p points) (v_ref3_Weave p points) := by
  unfold k_ref3_Weave at hk
  simp only [Bool.and_eq_true, List.all_eq_true, decide_eq_true_eq] at hk
  obtain ⟨hsm, hcp, hpl⟩ := hk
  have hC := copyOK hcp
  have hkc : k_ref1_Check p = true := hsm
  have hkC : k_ref1_CopyProg p = true := hcp
  have hvC : v_ref1_CopyProg p = p := rfl
  have hth := hC.thr
  obtain ⟨R, hR⟩ : ∃ R, laidP points p.2 = R := ⟨_, rfl⟩
  have hRl : R.length = p.2.length := by rw [← hR]; exact laidP_len points p.2
  have hRg : ∀ t (h : t < p.2.length), R[t]'(by omega) = laidT (points.getD t []) 0 p.2[t] := fun t h => by
    have := laidP_get points p.2 t h
    rw [hR, List.getElem?_eq_getElem (by omega)] at this
    exact Option.some.inj this
  have loop : points.length ≤ p.2.length → ∀ t, t ≤ points.length → Goes (T_ref3_Weave p points) (.jmp (.l7 (t : Int) (R.take t ++ p.2.drop t))) (if okAll (points.drop t) (p.2.drop t) then ((p.1, R), true) else (noProg, false)) := by
    intro hpt
    refine down ?_ fun t ht ih => ?_
    · rw [goes_jmp]
      simp only [T_ref3_Weave, goes_br, lt_len_not (Nat.lt_irrefl _), if_false, Bool.false_eq_true, hvC, List.drop_length]
      rw [if_pos (by rfl)]
      have : R.take points.length ++ p.2.drop points.length = R := by
        apply List.ext_getElem
        · rw [mix_len hRl hpt, hRl]
        · intro i h1 h2
          by_cases hi : i < points.length
          · rw [List.getElem_append_left (by rw [List.length_take]; omega), List.getElem_take]
          · rw [List.getElem_append_right (by rw [List.length_take]; omega), List.getElem_drop, hRg i (by omega), List.getD_eq_getElem?_getD, List.getElem?_eq_none (by omega), Option.getD_none, laidT_nil]
            congr 1
            rw [List.length_take]
            omega
      rw [this]
      exact .leaf
    · have htp : t < p.2.length := by omega
      have hL := hpl _ (List.getElem_mem ht)
      obtain ⟨l, hl⟩ : ∃ l, points[t] = l := ⟨_, rfl⟩
      rw [hl] at hL
      have hko : k_ref3_Rising l = true := decide_eq_true (by omega)
      have hvo : v_ref3_Rising l = rising l := rfl
      have hql := mix_len (k := t) hRl (by omega)
      have hqt : t < (R.take t ++ p.2.drop t).length := by omega
      obtain ⟨x, hx⟩ : ∃ x, p.2[t] = x := ⟨_, rfl⟩
      have hxm : x ∈ p.2 := by rw [← hx]; exact List.getElem_mem htp
      have hxl := hC.len x hxm
      have hset := mix_set hRl htp
      rw [hRg t htp, getD_lt ht, hl, hx] at hset
      have hI : ∀ k, k_ref3_In l k = true := fun k => decide_eq_true (by omega)
      have inner : ∀ h, Goes (T_ref3_Weave p points) (.jmp (.l18 x h 0 [] (t : Int) (R.take t ++ p.2.drop t))) (if okAll (points.drop (t + 1)) (p.2.drop (t + 1)) then ((p.1, R), true) else (noProg, false)) := by
        intro h
        have go : ∀ k, k ≤ List.length x → ∀ out : List (El T_api_Ins), out.length ≤ 2 * k → out ++ laidT l k (List.drop k x) = laidT l 0 x →
            Goes (T_ref3_Weave p points) (.jmp (.l18 x h (k : Int) out (t : Int) (R.take t ++ p.2.drop t))) (if okAll (points.drop (t + 1)) (p.2.drop (t + 1)) then ((p.1, R), true) else (noProg, false)) := by
          refine down ?_ fun k hk ihk => ?_
          · intro out ho he
            rw [goes_jmp]
            simp only [T_ref3_Weave, goes_br, lt_len_not (Nat.lt_irrefl _), if_false, Bool.false_eq_true, lt_len hqt, nng, Bool.and_self, if_true, Int.toNat_natCast, wrap_succ (k := t) (by omega)]
            rw [List.drop_length, show laidT l (List.length x) [] = [] from rfl, List.append_nil] at he
            rw [he, hset]
            exact ih
          · intro out ho he
            have b1 : Nat.ble ((out.length + 1) * 128) limit = true := bleN (by unfold limit; omega)
            have b2 : ∀ y : El T_api_Ins, Nat.ble (((out ++ [y]).length + 1) * 128) limit = true := fun y => bleN (by rw [List.length_append, List.length_singleton]; unfold limit; omega)
            have hlab := hC.lab x hxm _ (List.getElem_mem hk)
            have kI : k_ref1_CopyIns x[k] = true := decide_eq_true (by omega)
            have vI : v_ref1_CopyIns x[k] = x[k] := rfl
            have hc : v_ref3_In l (k : Int) = l.contains (k : Int) := rfl
            rw [drop_cons hk] at he
            rw [laidT] at he
            rw [goes_jmp]
            simp only [T_ref3_Weave, goes_br, lt_len hk, lt_len ht, getD_lt ht, hl, nng, Bool.and_self, if_true, Int.toNat_natCast, getD_lt hk, kI, vI, hI, hc, b1, b2, wrap_succ (k := k) (by omega)]
            split
            · rename_i hm
              rw [if_pos hm] at he
              exact ihk _ (by rw [List.length_append, List.length_append, List.length_singleton, List.length_singleton]; omega) (by rw [List.append_assoc, List.append_assoc]; exact he)
            · rename_i hm
              rw [if_neg hm] at he
              exact ihk _ (by rw [List.length_append, List.length_singleton]; omega) (by rw [List.append_assoc]; exact he)
        exact go 0 (Nat.zero_le _) [] (by simp) rfl
      rw [okAll_drop ht htp, hl, hx, goes_jmp]
      by_cases hr : rising l = true
      · by_cases h0 : 0 < List.length l
        · have e0 : decide (Int.ofNat (List.length l) > (0 : Int)) = true := by simp; omega
          have e1 : IntKind.i64.wrap (Int.ofNat (List.length l) - 1) = ((List.length l - 1 : Nat) : Int) := wrap_pred (k := List.length l) (by omega) h0
          have h1 : List.length l - 1 < List.length l := by omega
          have e2 := last_ge hr h0 (List.length x)
          have e2' : decide (l[List.length l - 1] ≥ Int.ofNat (List.length x)) = ! l.all fun y => decide (y < (List.length x : Int)) := e2
          simp only [T_ref3_Weave, goes_br, lt_len ht, nng, Bool.and_self, if_true, Int.toNat_natCast, getD_lt ht, hl, hko, hvo, hr, Bool.not_true, if_false, Bool.false_eq_true, e0, e1, lt_len h1, lt_len htp, getD_lt h1, getD_lt htp, hx, e2', okPts, Bool.true_and]
          cases l.all fun y => decide (y < (List.length x : Int)) with
          | true =>
            simp only [Bool.not_true, if_false, Bool.false_eq_true, Bool.true_and]
            exact inner _
          | false =>
            simp only [Bool.not_false, if_true, if_false, Bool.false_and, Bool.false_eq_true]
            exact .leaf
        · have hnil : l = [] := List.eq_nil_of_length_eq_zero (by omega)
          subst hnil
          have e0 : decide (Int.ofNat (List.length ([] : List Int)) > (0 : Int)) = false := by decide
          simp only [T_ref3_Weave, goes_br, lt_len ht, nng, Bool.and_self, if_true, Int.toNat_natCast, getD_lt ht, hl, hko, hvo, hr, Bool.not_true, if_false, Bool.false_eq_true, e0, lt_len htp, getD_lt htp, hx, okPts, Bool.true_and, List.all_nil]
          exact inner _
      · have hr' : rising l = false := by simpa using hr
        simp only [T_ref3_Weave, goes_br, lt_len ht, lt_len htp, nng, Bool.and_self, if_true, Int.toNat_natCast, getD_lt ht, hl, hko, hvo, hr', Bool.not_false, okPts, Bool.false_and, if_false, Bool.false_eq_true]
        exact .leaf
  unfold T0_ref3_Weave v_ref3_Weave inC
  simp only [goes_br, hkc, if_true, v_ref1_Check]
  by_cases hc : checkC p = 0
  · rw [if_neg (by simp [hc])]
    by_cases hp : p.2.length < points.length
    · rw [if_pos (by simp; omega), if_pos (.inr (.inl hp))]
      exact .leaf
    · rw [if_neg (by simp; omega), if_pos hkC]
      have := loop (by omega) 0 (Nat.zero_le _)
      rw [List.drop_zero, List.drop_zero, List.take_zero, List.nil_append] at this
      cases hok : okAll points p.2 with
      | true =>
        rw [hok, if_pos rfl] at this
        rw [if_neg (by simp [hc]; omega), hR]
        exact this
      | false =>
        rw [hok, if_neg (by decide)] at this
        rw [if_pos (.inr (.inr rfl))]
        exact this
  · rw [if_pos (by simpa using hc), if_pos (.inl hc)]
    exact .leaf
end Go.Ev
end

section
set_option linter.unusedSectionVars false
set_option linter.unusedVariables false
set_option linter.unusedSimpArgs false
set_option maxRecDepth 100000
set_option linter.unusedVariables false
open Go Go.Ev
namespace Go.Ev
noncomputable def e_ref3_Weave : Run := entG sg_ref3_Weave R_ref3_Weave (fun a => k_ref3_Weave a.1 a.2.1) (fun a => v_ref3_Weave a.1 a.2.1)
theorem ok_ref3_Weave : EntOK Go.Proofs.Tryd.prog 15 e_ref3_Weave := entG_ok (tb := tb_ref3_Weave) (c := c_ref3_Weave) tk_ref3_Weave (by kernel_rfl) (by kernel_rfl) (by kernel_rfl) (fun a => by kernel_rfl) fun ⟨p, points, _⟩ hk => evF_goes (c := c_ref3_Weave) (K := fun v => (R_ref3_Weave v, tps (toForms sg_ref3_Weave (p, points, ())))) (S := S_ref3_Weave p points) (by kernel_rfl) (en_ref3_Weave p points) (lp_ref3_Weave p points) (g_ref3_Weave p points hk)
end Go.Ev
end

section
set_option linter.unusedSectionVars false
set_option linter.unusedVariables false
set_option linter.unusedSimpArgs false
set_option maxRecDepth 100000
set_option linter.unusedVariables false
open Go Go.Ev
namespace Go.Ev
/-! ### paling/palingref1.sameInit -/
def sg_ref1_sameInit : Sig := [(false, (.sl (.int .i64))), (false, (.sl (.int .i64)))]
noncomputable def t_ref1_sameInit : Tbl := []
theorem tk_ref1_sameInit : ∀ p ∈ t_ref1_sameInit, EntOK Go.Proofs.Tryd.prog p.1 p.2 := tbl_nil
noncomputable def c_ref1_sameInit : Code := Go.Proofs.Tryd.f46.body.getD .skip
def tb_ref1_sameInit : Tb := [(6, ⟨[0, 1, 5], []⟩)]
inductive J_ref1_sameInit where
  | l6 (i : Int)
def T_ref1_sameInit (a : List Int) (b : List Int) : J_ref1_sameInit → JT J_ref1_sameInit (Bool)
  | .l6 i =>
    .br (decide (i < (Int.ofNat (List.length a))))
      (.br ((decide ((0 : Int) ≤ i)) && (decide (i < (Int.ofNat (List.length a)))))
        (.br ((decide ((0 : Int) ≤ i)) && (decide (i < (Int.ofNat (List.length b)))))
          (.br ((List.getD a (Int.toNat i) (dflt (.int .i64))) != (List.getD b (Int.toNat i) (dflt (.int .i64))))
            (.leaf false)
          (.jmp (.l6 (IntKind.i64.wrap (i + (1 : Int))))))
        (.no))
      (.no))
    (.leaf true)
def T0_ref1_sameInit (a : List Int) (b : List Int) : JT J_ref1_sameInit (Bool) :=
  .br ((Int.ofNat (List.length a)) != (Int.ofNat (List.length b)))
    (.leaf false)
  (.jmp (.l6 (0 : Int)))
def R_ref1_sameInit : Bool → AV := fun (r : Bool) => .d .bool r
def S_ref1_sameInit (a : List Int) (b : List Int) : J_ref1_sameInit → Nat × St
  | .l6 i => (6, ⟨mkTm 26 [(0, .d (.sl (.int .i64)) a), (1, .d (.sl (.int .i64)) b), (5, .d (.int .i64) i)], []⟩)
theorem en_ref1_sameInit (a : List Int) (b : List Int) (L : Lt) : entryA Go.Proofs.Tryd.prog (clOf t_ref1_sameInit) tb_ref1_sameInit Go.Proofs.Tryd.f46 c_ref1_sameInit L (toForms sg_ref1_sameInit (a, b, ())) = (T0_ref1_sameInit a b).run (fun v => some (R_ref1_sameInit v, tps (toForms sg_ref1_sameInit (a, b, ())))) fun j => L (S_ref1_sameInit a b j).1 (S_ref1_sameInit a b j).2 := by kernel_rfl
theorem lp_ref1_sameInit (a : List Int) (b : List Int) : ∀ (L : Lt) (j : J_ref1_sameInit), procOf (procsF Go.Proofs.Tryd.prog (clOf t_ref1_sameInit) tb_ref1_sameInit Go.Proofs.Tryd.f46 c_ref1_sameInit (toForms sg_ref1_sameInit (a, b, ()))) (S_ref1_sameInit a b j).1 L (S_ref1_sameInit a b j).2 = (T_ref1_sameInit a b j).run (fun v => some (R_ref1_sameInit v, tps (toForms sg_ref1_sameInit (a, b, ())))) fun j => L (S_ref1_sameInit a b j).1 (S_ref1_sameInit a b j).2
  | L, .l6 i => by kernel_rfl
end Go.Ev
end

section
set_option linter.unusedSectionVars false
set_option linter.unusedVariables false
set_option linter.unusedSimpArgs false
set_option linter.unusedVariables false
set_option linter.unusedSimpArgs false
open Go
namespace Go.Ev
/-- Asked of what is the same alone. -/
def v_ref1_sameInit (a b : List Int) : Bool := true
def k_ref1_sameInit (a b : List Int) : Bool := decide (a = b) && decide (a.length < 4611686018427387904)
theorem g_ref1_sameInit (a b : List Int) (hk : k_ref1_sameInit a b = true) : Goes (T_ref1_sameInit a b) (T0_ref1_sameInit a b) (v_ref1_sameInit a b) := by
  unfold k_ref1_sameInit at hk
  simp only [Bool.and_eq_true, decide_eq_true_eq] at hk
  obtain ⟨rfl, hn⟩ := hk
  have loop : ∀ k, k ≤ a.length → Goes (T_ref1_sameInit a a) (.jmp (.l6 (k : Int))) true := by
    refine down ?_ fun k hk ih => ?_
    · rw [goes_jmp]
      simp only [T_ref1_sameInit, goes_br, lt_len_not (Nat.lt_irrefl _), if_false, Bool.false_eq_true]
      exact .leaf
    · rw [goes_jmp]
      simp only [T_ref1_sameInit, goes_br, lt_len hk, nng, Bool.and_self, if_true, Int.toNat_natCast, getD_lt hk, wrap_succ (k := k) (by omega), beq_self_eq_true, bne_self_eq_false, Bool.not_true, if_false, Bool.false_eq_true]
      exact ih
  unfold T0_ref1_sameInit v_ref1_sameInit
  rw [goes_br, if_neg (by simp)]
  exact loop 0 (Nat.zero_le _)
end Go.Ev
end

section
set_option linter.unusedSectionVars false
set_option linter.unusedVariables false
set_option linter.unusedSimpArgs false
set_option maxRecDepth 100000
set_option linter.unusedVariables false
open Go Go.Ev
namespace Go.Ev
noncomputable def e_ref1_sameInit : Run := entG sg_ref1_sameInit R_ref1_sameInit (fun a => k_ref1_sameInit a.1 a.2.1) (fun a => v_ref1_sameInit a.1 a.2.1)
theorem ok_ref1_sameInit : EntOK Go.Proofs.Tryd.prog 46 e_ref1_sameInit := entG_ok (tb := tb_ref1_sameInit) (c := c_ref1_sameInit) tk_ref1_sameInit (by kernel_rfl) (by kernel_rfl) (by kernel_rfl) (fun a => by kernel_rfl) fun ⟨a, b, _⟩ hk => evF_goes (c := c_ref1_sameInit) (K := fun v => (R_ref1_sameInit v, tps (toForms sg_ref1_sameInit (a, b, ())))) (S := S_ref1_sameInit a b) (by kernel_rfl) (en_ref1_sameInit a b) (lp_ref1_sameInit a b) (g_ref1_sameInit a b hk)
end Go.Ev
end

section
set_option linter.unusedSectionVars false
set_option linter.unusedVariables false
set_option linter.unusedSimpArgs false
set_option maxRecDepth 100000
set_option linter.unusedVariables false
open Go Go.Ev
namespace Go.Ev
/-! ### paling/palingref1.SameTexts -/
def sg_ref1_SameTexts : Sig := [(false, (.sl .str)), (false, (.sl .str))]
noncomputable def t_ref1_SameTexts : Tbl := []
theorem tk_ref1_SameTexts : ∀ p ∈ t_ref1_SameTexts, EntOK Go.Proofs.Tryd.prog p.1 p.2 := tbl_nil
noncomputable def c_ref1_SameTexts : Code := Go.Proofs.Tryd.f60.body.getD .skip
def tb_ref1_SameTexts : Tb := [(6, ⟨[0, 1, 5], []⟩)]
inductive J_ref1_SameTexts where
  | l6 (i : Int)
def T_ref1_SameTexts (a : List ByteArray) (b : List ByteArray) : J_ref1_SameTexts → JT J_ref1_SameTexts (Bool)
  | .l6 i =>
    .br (decide (i < (Int.ofNat (List.length a))))
      (.br ((decide ((0 : Int) ≤ i)) && (decide (i < (Int.ofNat (List.length a)))))
        (.br ((decide ((0 : Int) ≤ i)) && (decide (i < (Int.ofNat (List.length b)))))
          (.br (! (eqB (List.getD a (Int.toNat i) (dflt .str)) (List.getD b (Int.toNat i) (dflt .str))))
            (.leaf false)
          (.jmp (.l6 (IntKind.i64.wrap (i + (1 : Int))))))
        (.no))
      (.no))
    (.leaf true)
def T0_ref1_SameTexts (a : List ByteArray) (b : List ByteArray) : JT J_ref1_SameTexts (Bool) :=
  .br ((Int.ofNat (List.length a)) != (Int.ofNat (List.length b)))
    (.leaf false)
  (.jmp (.l6 (0 : Int)))
def R_ref1_SameTexts : Bool → AV := fun (r : Bool) => .d .bool r
def S_ref1_SameTexts (a : List ByteArray) (b : List ByteArray) : J_ref1_SameTexts → Nat × St
  | .l6 i => (6, ⟨mkTm 26 [(0, .d (.sl .str) a), (1, .d (.sl .str) b), (5, .d (.int .i64) i)], []⟩)
theorem en_ref1_SameTexts (a : List ByteArray) (b : List ByteArray) (L : Lt) : entryA Go.Proofs.Tryd.prog (clOf t_ref1_SameTexts) tb_ref1_SameTexts Go.Proofs.Tryd.f60 c_ref1_SameTexts L (toForms sg_ref1_SameTexts (a, b, ())) = (T0_ref1_SameTexts a b).run (fun v => some (R_ref1_SameTexts v, tps (toForms sg_ref1_SameTexts (a, b, ())))) fun j => L (S_ref1_SameTexts a b j).1 (S_ref1_SameTexts a b j).2 := by kernel_rfl
theorem lp_ref1_SameTexts (a : List ByteArray) (b : List ByteArray) : ∀ (L : Lt) (j : J_ref1_SameTexts), procOf (procsF Go.Proofs.Tryd.prog (clOf t_ref1_SameTexts) tb_ref1_SameTexts Go.Proofs.Tryd.f60 c_ref1_SameTexts (toForms sg_ref1_SameTexts (a, b, ()))) (S_ref1_SameTexts a b j).1 L (S_ref1_SameTexts a b j).2 = (T_ref1_SameTexts a b j).run (fun v => some (R_ref1_SameTexts v, tps (toForms sg_ref1_SameTexts (a, b, ())))) fun j => L (S_ref1_SameTexts a b j).1 (S_ref1_SameTexts a b j).2
  | L, .l6 i => by kernel_rfl
end Go.Ev
end

section
set_option linter.unusedSectionVars false
set_option linter.unusedVariables false
set_option linter.unusedSimpArgs false
set_option linter.unusedVariables false
set_option linter.unusedSimpArgs false
open Go
namespace Go.Ev

def v_ref1_SameTexts (a b : List ByteArray) : Bool := decide (a = b)
def k_ref1_SameTexts (a b : List ByteArray) : Bool := decide (a.length < 4611686018427387904)
theorem g_ref1_SameTexts (a b : List ByteArray) (hk : k_ref1_SameTexts a b = true) : Goes (T_ref1_SameTexts a b) (T0_ref1_SameTexts a b) (v_ref1_SameTexts a b) := by
  have hn : a.length < 4611686018427387904 := of_decide_eq_true hk
  have loop : a.length = b.length → ∀ k, k ≤ a.length → Goes (T_ref1_SameTexts a b) (.jmp (.l6 (k : Int))) (decide (a.drop k = b.drop k)) := by
    intro he
    refine down ?_ fun k hk ih => ?_
    · rw [goes_jmp]
      simp [T_ref1_SameTexts, goes_br, goes_leaf, he]
    · rw [goes_jmp]
      have hkb : k < b.length := he ▸ hk
      simp only [T_ref1_SameTexts, goes_br, lt_len hk, lt_len hkb, nng, Bool.and_self, if_true, Int.toNat_natCast, getD_lt hk, getD_lt hkb, wrap_succ (k := k) (by omega), eqB_eq]
      rw [drop_cons hk, drop_cons hkb]
      by_cases h : a[k] = b[k]
      · simp only [h, decide_true, Bool.not_true, List.cons.injEq, true_and]
        simpa using ih
      · simp only [h, decide_false, Bool.not_false, List.cons.injEq, false_and, if_true]
        exact .leaf
  unfold T0_ref1_SameTexts v_ref1_SameTexts
  rw [goes_br]
  by_cases h : a.length = b.length
  · have := loop h 0 (Nat.zero_le _)
    simpa [h] using this
  · have : a ≠ b := fun e => h (congrArg _ e)
    rw [if_pos (by simp; omega), decide_eq_false this]
    exact .leaf

end Go.Ev
end

section
set_option linter.unusedSectionVars false
set_option linter.unusedVariables false
set_option linter.unusedSimpArgs false
set_option maxRecDepth 100000
set_option linter.unusedVariables false
open Go Go.Ev
namespace Go.Ev
noncomputable def e_ref1_SameTexts : Run := entG sg_ref1_SameTexts R_ref1_SameTexts (fun a => k_ref1_SameTexts a.1 a.2.1) (fun a => v_ref1_SameTexts a.1 a.2.1)
theorem ok_ref1_SameTexts : EntOK Go.Proofs.Tryd.prog 60 e_ref1_SameTexts := entG_ok (tb := tb_ref1_SameTexts) (c := c_ref1_SameTexts) tk_ref1_SameTexts (by kernel_rfl) (by kernel_rfl) (by kernel_rfl) (fun a => by kernel_rfl) fun ⟨a, b, _⟩ hk => evF_goes (c := c_ref1_SameTexts) (K := fun v => (R_ref1_SameTexts v, tps (toForms sg_ref1_SameTexts (a, b, ())))) (S := S_ref1_SameTexts a b) (by kernel_rfl) (en_ref1_SameTexts a b) (lp_ref1_SameTexts a b) (g_ref1_SameTexts a b hk)
end Go.Ev
end

section
set_option linter.unusedSectionVars false
set_option linter.unusedVariables false
set_option linter.unusedSimpArgs false
set_option maxRecDepth 100000
set_option linter.unusedVariables false
open Go Go.Ev
namespace Go.Ev
/-! ### paling/palingref1.SameIns -/
def sg_ref1_SameIns : Sig := [(true, T_api_Ins), (true, T_api_Ins)]
noncomputable def t_ref1_SameIns : Tbl := [(60, e_ref1_SameTexts)]
theorem tk_ref1_SameIns : ∀ p ∈ t_ref1_SameIns, EntOK Go.Proofs.Tryd.prog p.1 p.2 := tbl_cons ok_ref1_SameTexts (tbl_nil)
noncomputable def c_ref1_SameIns : Code := Go.Proofs.Tryd.f47.body.getD .skip
def tb_ref1_SameIns : Tb := []
def T_ref1_SameIns (a : El T_api_Ins) (b : El T_api_Ins) : Empty → JT Empty (Bool) := fun j => nomatch j
def T0_ref1_SameIns (a : El T_api_Ins) (b : El T_api_Ins) : JT Empty (Bool) :=
  .br (a.1 == b.1)
    (.br (a.2.1 == b.2.1)
      (.br (a.2.2.1 == b.2.2.1)
        (.br ((a.2.2.2.1.1 == b.2.2.2.1.1) && ((a.2.2.2.1.2.1 == b.2.2.2.1.2.1) && ((a.2.2.2.1.2.2.1 == b.2.2.2.1.2.2.1) && (a.2.2.2.1.2.2.2 == b.2.2.2.1.2.2.2))))
          (.br ((a.2.2.2.2.1.1 == b.2.2.2.2.1.1) && ((a.2.2.2.2.1.2.1 == b.2.2.2.2.1.2.1) && ((a.2.2.2.2.1.2.2.1 == b.2.2.2.2.1.2.2.1) && (a.2.2.2.2.1.2.2.2 == b.2.2.2.2.1.2.2.2))))
            (.br (eqB a.2.2.2.2.2.1 b.2.2.2.2.2.1)
              (.br (k_ref1_SameTexts a.2.2.2.2.2.2 b.2.2.2.2.2.2)
                (.leaf (v_ref1_SameTexts a.2.2.2.2.2.2 b.2.2.2.2.2.2))
              (.no))
            (.leaf false))
          (.leaf false))
        (.leaf false))
      (.leaf false))
    (.leaf false))
  (.leaf false)
def u_ref1_SameIns (a : El T_api_Ins) (b : El T_api_Ins) : Bool :=
  bif (a.1 == b.1) then
    bif (a.2.1 == b.2.1) then
      bif (a.2.2.1 == b.2.2.1) then
        bif ((a.2.2.2.1.1 == b.2.2.2.1.1) && ((a.2.2.2.1.2.1 == b.2.2.2.1.2.1) && ((a.2.2.2.1.2.2.1 == b.2.2.2.1.2.2.1) && (a.2.2.2.1.2.2.2 == b.2.2.2.1.2.2.2)))) then
          bif ((a.2.2.2.2.1.1 == b.2.2.2.2.1.1) && ((a.2.2.2.2.1.2.1 == b.2.2.2.2.1.2.1) && ((a.2.2.2.2.1.2.2.1 == b.2.2.2.2.1.2.2.1) && (a.2.2.2.2.1.2.2.2 == b.2.2.2.2.1.2.2.2)))) then
            bif (eqB a.2.2.2.2.2.1 b.2.2.2.2.2.1) then
              bif (k_ref1_SameTexts a.2.2.2.2.2.2 b.2.2.2.2.2.2) then
                (v_ref1_SameTexts a.2.2.2.2.2.2 b.2.2.2.2.2.2)
              else false
            else false
          else false
        else false
      else false
    else false
  else false
def ku_ref1_SameIns (a : El T_api_Ins) (b : El T_api_Ins) : Bool :=
  bif (a.1 == b.1) then
    bif (a.2.1 == b.2.1) then
      bif (a.2.2.1 == b.2.2.1) then
        bif ((a.2.2.2.1.1 == b.2.2.2.1.1) && ((a.2.2.2.1.2.1 == b.2.2.2.1.2.1) && ((a.2.2.2.1.2.2.1 == b.2.2.2.1.2.2.1) && (a.2.2.2.1.2.2.2 == b.2.2.2.1.2.2.2)))) then
          bif ((a.2.2.2.2.1.1 == b.2.2.2.2.1.1) && ((a.2.2.2.2.1.2.1 == b.2.2.2.2.1.2.1) && ((a.2.2.2.2.1.2.2.1 == b.2.2.2.2.1.2.2.1) && (a.2.2.2.2.1.2.2.2 == b.2.2.2.2.1.2.2.2)))) then
            bif (eqB a.2.2.2.2.2.1 b.2.2.2.2.2.1) then
              bif (k_ref1_SameTexts a.2.2.2.2.2.2 b.2.2.2.2.2.2) then
                true
              else false
            else true
          else true
        else true
      else true
    else true
  else true
theorem gu_ref1_SameIns (a : El T_api_Ins) (b : El T_api_Ins) (hk : ku_ref1_SameIns a b = true) : Goes (T_ref1_SameIns a b) (T0_ref1_SameIns a b) (u_ref1_SameIns a b) :=
  Goes.brk hk (fun hk =>
    Goes.brk hk (fun hk =>
      Goes.brk hk (fun hk =>
        Goes.brk hk (fun hk =>
          Goes.brk hk (fun hk =>
            Goes.brk hk (fun hk =>
              Goes.brk hk (fun hk =>
                Goes.leaf) (fun hk =>
                Goes.nok hk)) (fun hk =>
              Goes.leaf)) (fun hk =>
            Goes.leaf)) (fun hk =>
          Goes.leaf)) (fun hk =>
        Goes.leaf)) (fun hk =>
      Goes.leaf)) (fun hk =>
    Goes.leaf)
def R_ref1_SameIns : Bool → AV := fun (r : Bool) => .d .bool r
def S_ref1_SameIns (a : El T_api_Ins) (b : El T_api_Ins) : Empty → Nat × St := fun j => nomatch j
theorem en_ref1_SameIns (a : El T_api_Ins) (b : El T_api_Ins) (L : Lt) : entryA Go.Proofs.Tryd.prog (clOf t_ref1_SameIns) tb_ref1_SameIns Go.Proofs.Tryd.f47 c_ref1_SameIns L (toForms sg_ref1_SameIns (a, b, ())) = (T0_ref1_SameIns a b).run (fun v => some (R_ref1_SameIns v, tps (toForms sg_ref1_SameIns (a, b, ())))) fun j => L (S_ref1_SameIns a b j).1 (S_ref1_SameIns a b j).2 := by kernel_rfl
theorem lp_ref1_SameIns (a : El T_api_Ins) (b : El T_api_Ins) : ∀ (L : Lt) (j : Empty), procOf (procsF Go.Proofs.Tryd.prog (clOf t_ref1_SameIns) tb_ref1_SameIns Go.Proofs.Tryd.f47 c_ref1_SameIns (toForms sg_ref1_SameIns (a, b, ()))) (S_ref1_SameIns a b j).1 L (S_ref1_SameIns a b j).2 = (T_ref1_SameIns a b j).run (fun v => some (R_ref1_SameIns v, tps (toForms sg_ref1_SameIns (a, b, ())))) fun j => L (S_ref1_SameIns a b j).1 (S_ref1_SameIns a b j).2 := fun L j => nomatch j
end Go.Ev
end

section
set_option linter.unusedSectionVars false
set_option linter.unusedVariables false
set_option linter.unusedSimpArgs false
set_option linter.unusedVariables false
set_option linter.unusedSimpArgs false
open Go
namespace Go.Ev

def v_ref1_SameIns (a b : El T_api_Ins) : Bool := same T_api_Ins a b
def k_ref1_SameIns (a b : El T_api_Ins) : Bool := decide (a.2.2.2.2.2.2.length < 4611686018427387904)
theorem g_ref1_SameIns (a b : El T_api_Ins) (hk : k_ref1_SameIns a b = true) : Goes (T_ref1_SameIns a b) (T0_ref1_SameIns a b) (v_ref1_SameIns a b) := by
  obtain ⟨a1, a2, a3, ⟨a4, a5, a6, a7⟩, ⟨a8, a9, a10, a11⟩, a12, a13⟩ := a
  obtain ⟨b1, b2, b3, ⟨b4, b5, b6, b7⟩, ⟨b8, b9, b10, b11⟩, b12, b13⟩ := b
  have hs : same T_api_Ins (a1, a2, a3, (a4, a5, a6, a7), (a8, a9, a10, a11), a12, a13) (b1, b2, b3, (b4, b5, b6, b7), (b8, b9, b10, b11), b12, b13) = (decide (a1 = b1) && (decide (a2 = b2) && (decide (a3 = b3) && (decide (a4 = b4 ∧ a5 = b5 ∧ a6 = b6 ∧ a7 = b7) && (decide (a8 = b8 ∧ a9 = b9 ∧ a10 = b10 ∧ a11 = b11) && (decide (a12 = b12) && decide (a13 = b13))))))) := by
    rw [Bool.eq_iff_iff, same_iff]
    simp only [Prod.mk.injEq, Bool.and_eq_true, decide_eq_true_eq]
  have e4 : (a4 == b4 && (a5 == b5 && (a6 == b6 && a7 == b7))) = decide (a4 = b4 ∧ a5 = b5 ∧ a6 = b6 ∧ a7 = b7) := by
    rw [Bool.eq_iff_iff]; simp
  have e8 : (a8 == b8 && (a9 == b9 && (a10 == b10 && a11 == b11))) = decide (a8 = b8 ∧ a9 = b9 ∧ a10 = b10 ∧ a11 = b11) := by
    rw [Bool.eq_iff_iff]; simp
  have hkt : k_ref1_SameTexts a13 b13 = true := hk
  unfold T0_ref1_SameIns v_ref1_SameIns
  rw [hs]
  simp only [goes_br, goes_leaf, eqB_eq, e4, e8, hkt, if_true, v_ref1_SameTexts]
  generalize decide (a4 = b4 ∧ a5 = b5 ∧ a6 = b6 ∧ a7 = b7) = p4
  generalize decide (a8 = b8 ∧ a9 = b9 ∧ a10 = b10 ∧ a11 = b11) = p8
  by_cases h1 : a1 = b1 <;> by_cases h2 : a2 = b2 <;> by_cases h3 : a3 = b3 <;> cases p4 <;> cases p8 <;> by_cases h6 : a12 = b12 <;> simp [h1, h2, h3, h6]

end Go.Ev
end

section
set_option linter.unusedSectionVars false
set_option linter.unusedVariables false
set_option linter.unusedSimpArgs false
set_option maxRecDepth 100000
set_option linter.unusedVariables false
open Go Go.Ev
namespace Go.Ev
noncomputable def e_ref1_SameIns : Run := entG sg_ref1_SameIns R_ref1_SameIns (fun a => k_ref1_SameIns a.1 a.2.1) (fun a => v_ref1_SameIns a.1 a.2.1)
theorem ok_ref1_SameIns : EntOK Go.Proofs.Tryd.prog 47 e_ref1_SameIns := entG_ok (tb := tb_ref1_SameIns) (c := c_ref1_SameIns) tk_ref1_SameIns (by kernel_rfl) (by kernel_rfl) (by kernel_rfl) (fun a => by kernel_rfl) fun ⟨a, b, _⟩ hk => evF_goes (c := c_ref1_SameIns) (K := fun v => (R_ref1_SameIns v, tps (toForms sg_ref1_SameIns (a, b, ())))) (S := S_ref1_SameIns a b) (by kernel_rfl) (en_ref1_SameIns a b) (lp_ref1_SameIns a b) (g_ref1_SameIns a b hk)
end Go.Ev
end

section
set_option linter.unusedSectionVars false
set_option linter.unusedVariables false
set_option linter.unusedSimpArgs false
set_option maxRecDepth 100000
set_option linter.unusedVariables false
open Go Go.Ev
namespace Go.Ev
/-! ### paling/palingref1.SameProg -/
def sg_ref1_SameProg : Sig := [(true, T_api_Prog), (true, T_api_Prog)]
noncomputable def t_ref1_SameProg : Tbl := [(46, e_ref1_sameInit), (47, e_ref1_SameIns)]
theorem tk_ref1_SameProg : ∀ p ∈ t_ref1_SameProg, EntOK Go.Proofs.Tryd.prog p.1 p.2 := tbl_cons ok_ref1_sameInit (tbl_cons ok_ref1_SameIns (tbl_nil))
noncomputable def c_ref1_SameProg : Code := Go.Proofs.Tryd.f16.body.getD .skip
def tb_ref1_SameProg : Tb := [(6, ⟨[2, 3, 5], []⟩), (14, ⟨[2, 3, 6], []⟩), (23, ⟨[2, 3, 6, 7, 8, 9], []⟩)]
inductive J_ref1_SameProg where
  | l6 (i : Int)
  | l14 (i : Int)
  | l23 (a : List (El T_api_Ins)) (b : List (El T_api_Ins)) (k : Int) (i : Int)
def T_ref1_SameProg (p : El T_api_Prog) (q : El T_api_Prog) : J_ref1_SameProg → JT J_ref1_SameProg (Bool)
  | .l6 i =>
    .br (decide (i < (Int.ofNat (List.length p.1))))
      (.br ((decide ((0 : Int) ≤ i)) && (decide (i < (Int.ofNat (List.length p.1)))))
        (.br ((decide ((0 : Int) ≤ i)) && (decide (i < (Int.ofNat (List.length q.1)))))
          (.br (! (eqB (List.getD p.1 (Int.toNat i) (dflt T_api_Sym)).1 (List.getD q.1 (Int.toNat i) (dflt T_api_Sym)).1))
            (.leaf false)
          (.br ((decide ((0 : Int) ≤ i)) && (decide (i < (Int.ofNat (List.length p.1)))))
            (.br ((decide ((0 : Int) ≤ i)) && (decide (i < (Int.ofNat (List.length q.1)))))
              (.br ((List.getD p.1 (Int.toNat i) (dflt T_api_Sym)).2.1 != (List.getD q.1 (Int.toNat i) (dflt T_api_Sym)).2.1)
                (.leaf false)
              (.br ((decide ((0 : Int) ≤ i)) && (decide (i < (Int.ofNat (List.length p.1)))))
                (.br ((decide ((0 : Int) ≤ i)) && (decide (i < (Int.ofNat (List.length q.1)))))
                  (.br (k_ref1_sameInit (List.getD p.1 (Int.toNat i) (dflt T_api_Sym)).2.2 (List.getD q.1 (Int.toNat i) (dflt T_api_Sym)).2.2)
                    (.br (! (v_ref1_sameInit (List.getD p.1 (Int.toNat i) (dflt T_api_Sym)).2.2 (List.getD q.1 (Int.toNat i) (dflt T_api_Sym)).2.2))
                      (.leaf false)
                    (.jmp (.l6 (IntKind.i64.wrap (i + (1 : Int))))))
                  (.no))
                (.no))
              (.no)))
            (.no))
          (.no)))
        (.no))
      (.no))
    (.jmp (.l14 (0 : Int)))
  | .l14 i =>
    .br (decide (i < (Int.ofNat (List.length p.2))))
      (.br ((decide ((0 : Int) ≤ i)) && (decide (i < (Int.ofNat (List.length p.2)))))
        (.br ((decide ((0 : Int) ≤ i)) && (decide (i < (Int.ofNat (List.length q.2)))))
          (.br ((Int.ofNat (List.length (List.getD p.2 (Int.toNat i) (dflt (.sl T_api_Ins))))) != (Int.ofNat (List.length (List.getD q.2 (Int.toNat i) (dflt (.sl T_api_Ins))))))
            (.leaf false)
          (.jmp (.l23 (List.getD p.2 (Int.toNat i) (dflt (.sl T_api_Ins))) (List.getD q.2 (Int.toNat i) (dflt (.sl T_api_Ins))) (0 : Int) i)))
        (.no))
      (.no))
    (.leaf true)
  | .l23 a b k i =>
    .br (decide (k < (Int.ofNat (List.length a))))
      (.br ((decide ((0 : Int) ≤ k)) && (decide (k < (Int.ofNat (List.length a)))))
        (.br ((decide ((0 : Int) ≤ k)) && (decide (k < (Int.ofNat (List.length b)))))
          (.br (k_ref1_SameIns (List.getD a (Int.toNat k) (dflt T_api_Ins)) (List.getD b (Int.toNat k) (dflt T_api_Ins)))
            (.br (! (v_ref1_SameIns (List.getD a (Int.toNat k) (dflt T_api_Ins)) (List.getD b (Int.toNat k) (dflt T_api_Ins))))
              (.leaf false)
            (.jmp (.l23 a b (IntKind.i64.wrap (k + (1 : Int))) i)))
          (.no))
        (.no))
      (.no))
    (.jmp (.l14 (IntKind.i64.wrap (i + (1 : Int)))))
def T0_ref1_SameProg (p : El T_api_Prog) (q : El T_api_Prog) : JT J_ref1_SameProg (Bool) :=
  .br ((Int.ofNat (List.length p.1)) != (Int.ofNat (List.length q.1)))
    (.leaf false)
  (.br ((Int.ofNat (List.length p.2)) != (Int.ofNat (List.length q.2)))
    (.leaf false)
  (.jmp (.l6 (0 : Int))))
def R_ref1_SameProg : Bool → AV := fun (r : Bool) => .d .bool r
def S_ref1_SameProg (p : El T_api_Prog) (q : El T_api_Prog) : J_ref1_SameProg → Nat × St
  | .l6 i => (6, ⟨mkTm 117 [(2, .pt 3 0 0), (3, .pt 4 0 0), (5, .d (.int .i64) i)], [(3, 0, .box 27 [.d (.sl T_api_Sym) p.1, .d (.sl (.sl T_api_Ins)) p.2] none), (4, 0, .box 27 [.d (.sl T_api_Sym) q.1, .d (.sl (.sl T_api_Ins)) q.2] none)]⟩)
  | .l14 i => (14, ⟨mkTm 117 [(2, .pt 3 0 0), (3, .pt 4 0 0), (6, .d (.int .i64) i)], [(3, 0, .box 27 [.d (.sl T_api_Sym) p.1, .d (.sl (.sl T_api_Ins)) p.2] none), (4, 0, .box 27 [.d (.sl T_api_Sym) q.1, .d (.sl (.sl T_api_Ins)) q.2] none)]⟩)
  | .l23 a b k i => (23, ⟨mkTm 117 [(2, .pt 3 0 0), (3, .pt 4 0 0), (6, .d (.int .i64) i), (7, .d (.sl T_api_Ins) a), (8, .d (.sl T_api_Ins) b), (9, .d (.int .i64) k)], [(3, 0, .box 27 [.d (.sl T_api_Sym) p.1, .d (.sl (.sl T_api_Ins)) p.2] none), (4, 0, .box 27 [.d (.sl T_api_Sym) q.1, .d (.sl (.sl T_api_Ins)) q.2] none)]⟩)
theorem en_ref1_SameProg (p : El T_api_Prog) (q : El T_api_Prog) (L : Lt) : entryA Go.Proofs.Tryd.prog (clOf t_ref1_SameProg) tb_ref1_SameProg Go.Proofs.Tryd.f16 c_ref1_SameProg L (toForms sg_ref1_SameProg (p, q, ())) = (T0_ref1_SameProg p q).run (fun v => some (R_ref1_SameProg v, tps (toForms sg_ref1_SameProg (p, q, ())))) fun j => L (S_ref1_SameProg p q j).1 (S_ref1_SameProg p q j).2 := by kernel_rfl
theorem lp_ref1_SameProg (p : El T_api_Prog) (q : El T_api_Prog) : ∀ (L : Lt) (j : J_ref1_SameProg), procOf (procsF Go.Proofs.Tryd.prog (clOf t_ref1_SameProg) tb_ref1_SameProg Go.Proofs.Tryd.f16 c_ref1_SameProg (toForms sg_ref1_SameProg (p, q, ()))) (S_ref1_SameProg p q j).1 L (S_ref1_SameProg p q j).2 = (T_ref1_SameProg p q j).run (fun v => some (R_ref1_SameProg v, tps (toForms sg_ref1_SameProg (p, q, ())))) fun j => L (S_ref1_SameProg p q j).1 (S_ref1_SameProg p q j).2
  | L, .l6 i => by kernel_rfl
  | L, .l14 i => by kernel_rfl
  | L, .l23 a b k i => by kernel_rfl
end Go.Ev
end

section
set_option linter.unusedSectionVars false
set_option linter.unusedVariables false
set_option linter.unusedSimpArgs false
set_option linter.unusedVariables false
set_option linter.unusedSimpArgs false
open Go
namespace Go.Ev
/-- Asked of what is the same alone. -/
def v_ref1_SameProg (p q : El T_api_Prog) : Bool := true
def k_ref1_SameProg (p q : El T_api_Prog) : Bool := same T_api_Prog p q && copyB p
theorem g_ref1_SameProg (p q : El T_api_Prog) (hk : k_ref1_SameProg p q = true) : Goes (T_ref1_SameProg p q) (T0_ref1_SameProg p q) (v_ref1_SameProg p q) := by
  unfold k_ref1_SameProg at hk
  rw [Bool.and_eq_true, same_iff] at hk
  obtain ⟨rfl, hcp⟩ := hk
  have hC := copyOK hcp
  have hth := hC.thr
  have hsy := hC.syms
  have l14 : ∀ k, k ≤ p.2.length → Goes (T_ref1_SameProg p p) (.jmp (.l14 (k : Int))) true := by
    refine down ?_ fun k hk ih => ?_
    · rw [goes_jmp]
      simp only [T_ref1_SameProg, goes_br, lt_len_not (Nat.lt_irrefl _), if_false, Bool.false_eq_true]
      exact .leaf
    · obtain ⟨x, hx⟩ : ∃ x, p.2[k] = x := ⟨_, rfl⟩
      have hm : x ∈ p.2 := by rw [← hx]; exact List.getElem_mem hk
      have hl := hC.len x hm
      have l23 : ∀ j, j ≤ List.length x → Goes (T_ref1_SameProg p p) (.jmp (.l23 x x (j : Int) (k : Int))) true := by
        refine down ?_ fun j hj ihj => ?_
        · rw [goes_jmp]
          simp only [T_ref1_SameProg, goes_br, lt_len_not (Nat.lt_irrefl _), if_false, Bool.false_eq_true, wrap_succ (k := k) (by omega)]
          exact ih
        · have hb := hC.lab x hm _ (List.getElem_mem hj)
          have k1 : k_ref1_SameIns x[j] x[j] = true := decide_eq_true (by omega)
          have v1 : v_ref1_SameIns x[j] x[j] = true := same_iff.2 rfl
          rw [goes_jmp]
          simp only [T_ref1_SameProg, goes_br, lt_len hj, nng, Bool.and_self, if_true, Int.toNat_natCast, getD_lt hj, k1, v1, Bool.not_true, if_false, Bool.false_eq_true, wrap_succ (k := j) (by omega)]
          exact ihj
      rw [goes_jmp]
      simp only [T_ref1_SameProg, goes_br, lt_len hk, nng, Bool.and_self, if_true, Int.toNat_natCast, getD_lt hk, hx, bne_self_eq_false, if_false, Bool.false_eq_true]
      exact l23 0 (Nat.zero_le _)
  have l6 : ∀ k, k ≤ p.1.length → Goes (T_ref1_SameProg p p) (.jmp (.l6 (k : Int))) true := by
    refine down ?_ fun k hk ih => ?_
    · rw [goes_jmp]
      simp only [T_ref1_SameProg, goes_br, lt_len_not (Nat.lt_irrefl _), if_false, Bool.false_eq_true]
      exact l14 0 (Nat.zero_le _)
    · have hi := hC.init _ (List.getElem_mem hk)
      have e1 : eqB (p.1[k]).1 (p.1[k]).1 = true := eqB_iff.2 rfl
      have k1 : k_ref1_sameInit (p.1[k]).2.2 (p.1[k]).2.2 = true := by unfold k_ref1_sameInit; rw [decide_eq_true rfl, decide_eq_true (by omega)]; rfl
      have v1 : v_ref1_sameInit (p.1[k]).2.2 (p.1[k]).2.2 = true := rfl
      rw [goes_jmp]
      simp only [T_ref1_SameProg, goes_br, lt_len hk, nng, Bool.and_self, if_true, Int.toNat_natCast, getD_lt hk, e1, k1, v1, bne_self_eq_false, Bool.not_true, if_false, Bool.false_eq_true, wrap_succ (k := k) (by omega)]
      exact ih
  unfold T0_ref1_SameProg v_ref1_SameProg
  rw [goes_br, if_neg (by simp), goes_br, if_neg (by simp)]
  exact l6 0 (Nat.zero_le _)
end Go.Ev
end

section
set_option linter.unusedSectionVars false
set_option linter.unusedVariables false
set_option linter.unusedSimpArgs false
set_option maxRecDepth 100000
set_option linter.unusedVariables false
open Go Go.Ev
namespace Go.Ev
noncomputable def e_ref1_SameProg : Run := entG sg_ref1_SameProg R_ref1_SameProg (fun a => k_ref1_SameProg a.1 a.2.1) (fun a => v_ref1_SameProg a.1 a.2.1)
theorem ok_ref1_SameProg : EntOK Go.Proofs.Tryd.prog 16 e_ref1_SameProg := entG_ok (tb := tb_ref1_SameProg) (c := c_ref1_SameProg) tk_ref1_SameProg (by kernel_rfl) (by kernel_rfl) (by kernel_rfl) (fun a => by kernel_rfl) fun ⟨p, q, _⟩ hk => evF_goes (c := c_ref1_SameProg) (K := fun v => (R_ref1_SameProg v, tps (toForms sg_ref1_SameProg (p, q, ())))) (S := S_ref1_SameProg p q) (by kernel_rfl) (en_ref1_SameProg p q) (lp_ref1_SameProg p q) (g_ref1_SameProg p q hk)
end Go.Ev
end

section
set_option linter.unusedSectionVars false
set_option linter.unusedVariables false
set_option linter.unusedSimpArgs false
/- The book's programs, and fences laid into them. -/
set_option maxRecDepth 100000
set_option linter.unusedVariables false
set_option linter.unusedSimpArgs false
namespace Go.Ev
open Go
theorem few_book (l : List (List (El T_book_Act))) {threads many : Int} (h0 : 0 ≤ threads) (h1 : threads ≤ 64) (m0 : 0 ≤ many) (m1 : many ≤ 90) : Few (v_book_Prog l threads many) 91 := by
  have mem : ∀ t ∈ (v_book_Prog l threads many).2, ∃ a : List (El T_book_Act), t = threadB a (min a.length many.toNat) := fun t hm => by
    obtain ⟨a, _, rfl⟩ := List.mem_map.1 (show t ∈ (l.take threads.toNat).map fun a => threadB a (min a.length many.toNat) from hm)
    exact ⟨a, rfl⟩
  have len : ∀ t ∈ (v_book_Prog l threads many).2, List.length t ≤ 91 := fun t hm => by
    obtain ⟨a, rfl⟩ := mem t hm
    show (threadB a _).length ≤ 91
    unfold threadB
    rw [withL_len, baseT_len a _ (by omega)]
    omega
  refine ⟨show symsB.length ≤ 1000 by decide, show ∀ s ∈ symsB, List.length s.2.2 ≤ 1000 by decide +kernel, ?_, len, fun t hm => ?_⟩
  · show ((l.take threads.toNat).map fun a => threadB a (min a.length many.toNat)).length ≤ 1000
    rw [List.length_map, List.length_take]; omega
  · have hl := len t hm
    obtain ⟨a, rfl⟩ := mem t hm
    have := labels_le (t := threadB a (min a.length many.toNat)) (n := 1) fun i hi => by
      obtain ⟨k, hk, rfl⟩ := List.mem_iff_getElem.1 hi
      have hg := withL_get (s := sAt (baseT a (min a.length many.toNat)) (min a.length many.toNat)) (b := baseT a (min a.length many.toNat)) hk
      have hg' : (threadB a (min a.length many.toNat))[k] = _ := hg
      rw [hg']
      show (if sAt (baseT a (min a.length many.toNat)) (min a.length many.toNat) k then [v_book_label (k : Int)] else []).length ≤ 1
      split <;> simp
    omega
theorem pts_len : ∀ (ls : List (List Int)) (xs : List (List (El T_api_Ins))), (ptsC ls xs).length ≤ xs.length
  | [], _ => Nat.zero_le _
  | _ :: _, [] => Nat.zero_le _
  | l :: ls, x :: xs => by rw [ptsC, List.length_cons, List.length_cons]; have := pts_len ls xs; omega
theorem pts_ok : ∀ (ls : List (List Int)) (xs : List (List (El T_api_Ins))), (∀ x ∈ xs, List.length x ≤ 1000000) → okAll (ptsC ls xs) xs = true ∧ ∀ l ∈ ptsC ls xs, List.length l ≤ 1000000
  | [], _, _ => ⟨rfl, fun l h => by cases h⟩
  | _ :: _, [], _ => ⟨rfl, fun l h => by cases h⟩
  | l :: ls, x :: xs, h => by
    obtain ⟨i1, i2⟩ := pts_ok ls xs fun y hy => h y (by simp [hy])
    have hx := h x (by simp)
    have hm := marksC_len x.length l
    rw [ptsC, okAll, i1, Bool.and_true]
    constructor
    · unfold okPts
      rw [listFrom_isRising (by omega), Bool.true_and, List.all_eq_true]
      intro y hy
      have := listFrom_gt hy
      exact decide_eq_true (by omega)
    · intro y hy
      rcases List.mem_cons.1 hy with rfl | hy
      · have := listFrom_len (marksC x.length l) 0; omega
      · exact i2 y hy
theorem great_lists {l : List (List Int)} (h : v_book_GreatLists l = false) : l.length ≤ 10 ∧ ∀ x ∈ l, List.length x ≤ 30 := by
  unfold v_book_GreatLists at h
  simp only [Bool.or_eq_false_iff, decide_eq_false_iff_not, List.any_eq_false, decide_eq_true_eq] at h
  exact ⟨by omega, fun x hx => by have := h.2 x hx; omega⟩
structure BookLaid (p : El T_api_Prog) : Prop where
  chk : checkC p = 0
  small : smallProg p = true
  few : Few p 91
theorem book_laid (l : List (List (El T_book_Act))) {threads many : Int} (h0 : 0 ≤ threads) (h1 : threads ≤ 64) (m0 : 0 ≤ many) (m1 : many ≤ 90) : BookLaid (v_book_Prog l threads many) ∧ k_book_Prog l threads many = true :=
  ⟨⟨(book_valid l h0 h1 m0 m1).1, (book_valid l h0 h1 m0 m1).2.1, few_book l h0 h1 m0 m1⟩, (book_valid l h0 h1 m0 m1).2.2⟩
theorem k_points {p : El T_api_Prog} (h : BookLaid p) {l : List (List Int)} (hl : v_book_GreatLists l = false) (raw : Bool) : k_book_Points p l raw = true := by
  obtain ⟨h1, h2⟩ := great_lists hl
  unfold k_book_Points
  simp only [Bool.and_eq_true, decide_eq_true_eq, List.all_eq_true]
  exact ⟨few_copy h.few (by omega), by omega, fun x hx => by have := h2 x hx; omega⟩
theorem points_few {p : El T_api_Prog} (h : BookLaid p) {l : List (List Int)} (hl : v_book_GreatLists l = false) (raw : Bool) : ∀ x ∈ v_book_Points p l raw, List.length x ≤ 1000000 := by
  obtain ⟨h1, h2⟩ := great_lists hl
  unfold v_book_Points
  split
  · intro x hx; have := h2 x hx; omega
  · exact (pts_ok l p.2 fun x hx => by have := h.few.len x hx; omega).2
theorem k_lists {l : List (List Int)} (h : ∀ x ∈ l, List.length x ≤ 1000000) : (l.all fun x => decide (List.length x < 1099511627776)) = true := by
  simp only [List.all_eq_true, decide_eq_true_eq]
  intro x hx; have := h x hx; omega
theorem k_in {p : El T_api_Prog} (h : BookLaid p) {l : List (List Int)} (hl : ∀ x ∈ l, List.length x ≤ 1000000) : k_weave_In p l = true ∧ k_ref3_Weave p l = true := by
  unfold k_weave_In k_ref3_Weave
  rw [h.small, few_copy h.few (by omega), k_lists hl]
  exact ⟨rfl, rfl⟩
theorem in_copy {p : El T_api_Prog} (h : BookLaid p) (l : List (List Int)) : copyB (inC p l).1 = true := by
  unfold inC
  split
  · rfl
  · exact few_copy (few_laid h.few l) (by omega)
theorem in_same {p : El T_api_Prog} (h : BookLaid p) (l : List (List Int)) : k_ref1_SameProg (v_weave_In p l).1 (v_ref3_Weave p l).1 = true := by
  unfold k_ref1_SameProg
  rw [Bool.and_eq_true]
  exact ⟨same_iff.2 rfl, in_copy h l⟩
/-- Points that the book makes are laid in. -/
theorem in_ok {p : El T_api_Prog} (h : BookLaid p) (l : List (List Int)) : inC p (ptsC l p.2) = ((p.1, laidP (ptsC l p.2) p.2), true) := by
  have h1 := (pts_ok l p.2 fun x hx => by have := h.few.len x hx; omega).1
  have h2 := pts_len l p.2
  unfold inC
  rw [if_neg (by rw [h.chk, h1]; simp; omega)]
structure Laid2 (q : El T_api_Prog) : Prop where
  chk : checkC q = 0
  small : smallProg q = true
  few : Few q 182
theorem laid2 {p : El T_api_Prog} (h : BookLaid p) (l : List (List Int)) : Laid2 (inC p (ptsC l p.2)).1 := by
  rw [in_ok h]
  exact ⟨by rw [check_laid]; exact h.chk, small_laidP h.small h.few (by omega) _, few_laid h.few _⟩
theorem k_out {q : El T_api_Prog} (h : Laid2 q) {l : List (List Int)} (hl : ∀ x ∈ l, List.length x ≤ 1000000) : k_weave_Out q l = true ∧ k_ref3_Unweave q l = true := by
  unfold k_weave_Out k_ref3_Unweave
  rw [h.small, few_copy h.few (by omega), k_lists hl]
  exact ⟨rfl, rfl⟩
theorem out_same {q : El T_api_Prog} (h : Laid2 q) (l : List (List Int)) : k_ref1_SameProg (v_weave_Out q l).1 (v_ref3_Unweave q l).1 = true := by
  unfold k_ref1_SameProg
  rw [Bool.and_eq_true]
  refine ⟨same_iff.2 rfl, ?_⟩
  show copyB (outC q l).1 = true
  unfold outC
  split
  · rfl
  · exact few_copy (few_out h.few l) (by omega)
/-- There and back. -/
theorem round_trip {p : El T_api_Prog} (h : BookLaid p) (l : List (List Int)) : outC (inC p (ptsC l p.2)).1 ((ptsC l p.2).map fencesC) = (p, true) := by
  have h1 := (pts_ok l p.2 fun x hx => by have := h.few.len x hx; omega).1
  have h2 := pts_len l p.2
  obtain ⟨o1, o2⟩ := outs_laid (ptsC l p.2) p.2 h1 fun x hx => by have := h.few.len x hx; omega
  rw [in_ok h]
  unfold outC
  rw [if_neg, o2]
  rw [check_laid, h.chk, o1, laidP_len, List.length_map]
  simp
  omega
end Go.Ev
end

section
set_option linter.unusedSectionVars false
set_option linter.unusedVariables false
set_option linter.unusedSimpArgs false
set_option maxRecDepth 100000
set_option linter.unusedVariables false
open Go Go.Ev
namespace Go.Ev
noncomputable def e_weave_In : Run := entG sg_weave_In R_weave_In (fun a => k_weave_In a.1 a.2.1) (fun a => v_weave_In a.1 a.2.1)
theorem ok_weave_In : EntOK Go.Proofs.Tryd.prog 14 e_weave_In := entG_ok (tb := tb_weave_In) (c := c_weave_In) tk_weave_In (by kernel_rfl) (by kernel_rfl) (by kernel_rfl) (fun a => by kernel_rfl) fun ⟨p, points, _⟩ hk => evF_goes (c := c_weave_In) (K := fun v => (R_weave_In v, tps (toForms sg_weave_In (p, points, ())))) (S := S_weave_In p points) (by kernel_rfl) (en_weave_In p points) (lp_weave_In p points) (g_weave_In p points hk)
end Go.Ev
end

section
set_option linter.unusedSectionVars false
set_option linter.unusedVariables false
set_option linter.unusedSimpArgs false
set_option maxRecDepth 100000
set_option linter.unusedVariables false
open Go Go.Ev
namespace Go.Ev
/-! ### paling/weave.Fences -/
def sg_weave_Fences : Sig := [(false, (.sl (.int .i64)))]
noncomputable def t_weave_Fences : Tbl := [(40, e_weave_order)]
theorem tk_weave_Fences : ∀ p ∈ t_weave_Fences, EntOK Go.Proofs.Tryd.prog p.1 p.2 := tbl_cons ok_weave_order (tbl_nil)
noncomputable def c_weave_Fences : Code := Go.Proofs.Tryd.f21.body.getD .skip
def tb_weave_Fences : Tb := [(7, ⟨[3, 9, 10, 11], [(4, 72)]⟩), (hintK, ⟨[], [(1, 72)]⟩)]
inductive J_weave_Fences where
  | l7 (h : Int) (out : List Int)
def T_weave_Fences (points : List Int) : J_weave_Fences → JT J_weave_Fences (List Int)
  | .l7 h out =>
    .br (decide (h < (Int.ofNat (List.length points))))
      (.br ((decide ((0 : Int) ≤ h)) && (decide (h < (Int.ofNat (List.length points)))))
        (.br (Nat.ble (((List.length out) + 1) * 8) limit)
          (.jmp (.l7 (IntKind.i64.wrap (h + (1 : Int))) (out ++ [(IntKind.i64.wrap ((List.getD points (Int.toNat h) (dflt (.int .i64))) + h))])))
        (.no))
      (.no))
    (.leaf out)
def T0_weave_Fences (points : List Int) : JT J_weave_Fences (List Int) :=
  .br (k_weave_order points)
    (.br (! (v_weave_order points))
      (.leaf [])
    (.jmp (.l7 (0 : Int) [])))
  (.no)
def R_weave_Fences : List Int → AV := fun (r : List Int) => .rw 3 (.int .i64) r
def S_weave_Fences (points : List Int) : J_weave_Fences → Nat × St
  | .l7 h out => (7, ⟨mkTm 24 [(3, .own 4 0 none), (9, .d (.sl (.int .i64)) points), (10, .d (.int .i64) (Int.ofNat (List.length points))), (11, .d (.int .i64) h)], [(4, 0, .row 3 (.int .i64) out false)]⟩)
theorem en_weave_Fences (points : List Int) (L : Lt) : entryA Go.Proofs.Tryd.prog (clOf t_weave_Fences) tb_weave_Fences Go.Proofs.Tryd.f21 c_weave_Fences L (toForms sg_weave_Fences (points, ())) = (T0_weave_Fences points).run (fun v => some (R_weave_Fences v, tps (toForms sg_weave_Fences (points, ())))) fun j => L (S_weave_Fences points j).1 (S_weave_Fences points j).2 := by kernel_rfl
theorem lp_weave_Fences (points : List Int) : ∀ (L : Lt) (j : J_weave_Fences), procOf (procsF Go.Proofs.Tryd.prog (clOf t_weave_Fences) tb_weave_Fences Go.Proofs.Tryd.f21 c_weave_Fences (toForms sg_weave_Fences (points, ()))) (S_weave_Fences points j).1 L (S_weave_Fences points j).2 = (T_weave_Fences points j).run (fun v => some (R_weave_Fences v, tps (toForms sg_weave_Fences (points, ())))) fun j => L (S_weave_Fences points j).1 (S_weave_Fences points j).2
  | L, .l7 h out => by kernel_rfl
end Go.Ev
end

section
set_option linter.unusedSectionVars false
set_option linter.unusedVariables false
set_option linter.unusedSimpArgs false
set_option linter.unusedVariables false
set_option linter.unusedSimpArgs false
open Go
namespace Go.Ev
def v_weave_Fences (points : List Int) : List Int := fencesC points
def k_weave_Fences (points : List Int) : Bool := decide (points.length < 4611686018427387904)
theorem g_weave_Fences (l : List Int) (hk : k_weave_Fences l = true) : Goes (T_weave_Fences l) (T0_weave_Fences l) (v_weave_Fences l) := by
  have hn : l.length < 4611686018427387904 := of_decide_eq_true hk
  have hko : k_weave_order l = true := hk
  unfold T0_weave_Fences v_weave_Fences fencesC
  simp only [goes_br, hko, if_true, v_weave_order]
  by_cases hr : rising l = true
  · rw [if_neg (by simp [hr]), if_pos hr]
    have hlen := rising_length hr
    have hs := (rising_spec.1 hr).1
    have loop : ∀ k, k ≤ l.length → ∀ out : List Int, out.length = k → Goes (T_weave_Fences l) (.jmp (.l7 (k : Int) out)) (out ++ fencesFrom k (l.drop k)) := by
      refine down ?_ fun k hk ih => ?_
      · intro out ho
        rw [goes_jmp]
        simp only [T_weave_Fences, goes_br, lt_len_not (Nat.lt_irrefl _), List.drop_length]
        rw [show fencesFrom l.length [] = [] from rfl, List.append_nil]
        exact .leaf
      · intro out ho
        rw [goes_jmp, drop_cons hk]
        have hb := hs _ (List.getElem_mem hk)
        obtain ⟨n, hn'⟩ : ∃ n : Int, l[k] = n := ⟨_, rfl⟩
        rw [hn'] at hb ⊢
        have b1 : Nat.ble ((out.length + 1) * 8) limit = true := Nat.ble_eq_true_of_le (by unfold limit; omega)
        simp only [T_weave_Fences, goes_br, lt_len hk, nng, Bool.and_self, if_true, Int.toNat_natCast, getD_lt hk, hn', wrap_succ (k := k) (by omega), b1, wrap_i64 (n := n + k) (by omega) (by omega)]
        have := ih (out ++ [n + k]) (by rw [List.length_append, ho]; rfl)
        rw [List.append_assoc] at this
        exact this
    have := loop 0 (Nat.zero_le _) [] rfl
    simpa using this
  · have hr' : rising l = false := by simpa using hr
    rw [if_pos (by simp [hr']), if_neg hr]
    exact .leaf
end Go.Ev
end

section
set_option linter.unusedSectionVars false
set_option linter.unusedVariables false
set_option linter.unusedSimpArgs false
set_option maxRecDepth 100000
set_option linter.unusedVariables false
open Go Go.Ev
namespace Go.Ev
noncomputable def e_weave_Fences : Run := entG sg_weave_Fences R_weave_Fences (fun a => k_weave_Fences a.1) (fun a => v_weave_Fences a.1)
theorem ok_weave_Fences : EntOK Go.Proofs.Tryd.prog 21 e_weave_Fences := entG_ok (tb := tb_weave_Fences) (c := c_weave_Fences) tk_weave_Fences (by kernel_rfl) (by kernel_rfl) (by kernel_rfl) (fun a => by kernel_rfl) fun ⟨points, _⟩ hk => evF_goes (c := c_weave_Fences) (K := fun v => (R_weave_Fences v, tps (toForms sg_weave_Fences (points, ())))) (S := S_weave_Fences points) (by kernel_rfl) (en_weave_Fences points) (lp_weave_Fences points) (g_weave_Fences points hk)
end Go.Ev
end

section
set_option linter.unusedSectionVars false
set_option linter.unusedVariables false
set_option linter.unusedSimpArgs false
set_option maxRecDepth 100000
set_option linter.unusedVariables false
open Go Go.Ev
namespace Go.Ev
/-! ### paling/palingbook.SameInts -/
def sg_book_SameInts : Sig := [(false, (.sl (.int .i64))), (false, (.sl (.int .i64)))]
noncomputable def t_book_SameInts : Tbl := []
theorem tk_book_SameInts : ∀ p ∈ t_book_SameInts, EntOK Go.Proofs.Tryd.prog p.1 p.2 := tbl_nil
noncomputable def c_book_SameInts : Code := Go.Proofs.Tryd.f20.body.getD .skip
def tb_book_SameInts : Tb := [(6, ⟨[0, 1, 5], []⟩)]
inductive J_book_SameInts where
  | l6 (i : Int)
def T_book_SameInts (a : List Int) (b : List Int) : J_book_SameInts → JT J_book_SameInts (Bool)
  | .l6 i =>
    .br (decide (i < (Int.ofNat (List.length a))))
      (.br ((decide ((0 : Int) ≤ i)) && (decide (i < (Int.ofNat (List.length a)))))
        (.br ((decide ((0 : Int) ≤ i)) && (decide (i < (Int.ofNat (List.length b)))))
          (.br ((List.getD a (Int.toNat i) (dflt (.int .i64))) != (List.getD b (Int.toNat i) (dflt (.int .i64))))
            (.leaf false)
          (.jmp (.l6 (IntKind.i64.wrap (i + (1 : Int))))))
        (.no))
      (.no))
    (.leaf true)
def T0_book_SameInts (a : List Int) (b : List Int) : JT J_book_SameInts (Bool) :=
  .br ((Int.ofNat (List.length a)) != (Int.ofNat (List.length b)))
    (.leaf false)
  (.jmp (.l6 (0 : Int)))
def R_book_SameInts : Bool → AV := fun (r : Bool) => .d .bool r
def S_book_SameInts (a : List Int) (b : List Int) : J_book_SameInts → Nat × St
  | .l6 i => (6, ⟨mkTm 26 [(0, .d (.sl (.int .i64)) a), (1, .d (.sl (.int .i64)) b), (5, .d (.int .i64) i)], []⟩)
theorem en_book_SameInts (a : List Int) (b : List Int) (L : Lt) : entryA Go.Proofs.Tryd.prog (clOf t_book_SameInts) tb_book_SameInts Go.Proofs.Tryd.f20 c_book_SameInts L (toForms sg_book_SameInts (a, b, ())) = (T0_book_SameInts a b).run (fun v => some (R_book_SameInts v, tps (toForms sg_book_SameInts (a, b, ())))) fun j => L (S_book_SameInts a b j).1 (S_book_SameInts a b j).2 := by kernel_rfl
theorem lp_book_SameInts (a : List Int) (b : List Int) : ∀ (L : Lt) (j : J_book_SameInts), procOf (procsF Go.Proofs.Tryd.prog (clOf t_book_SameInts) tb_book_SameInts Go.Proofs.Tryd.f20 c_book_SameInts (toForms sg_book_SameInts (a, b, ()))) (S_book_SameInts a b j).1 L (S_book_SameInts a b j).2 = (T_book_SameInts a b j).run (fun v => some (R_book_SameInts v, tps (toForms sg_book_SameInts (a, b, ())))) fun j => L (S_book_SameInts a b j).1 (S_book_SameInts a b j).2
  | L, .l6 i => by kernel_rfl
end Go.Ev
end

section
set_option linter.unusedSectionVars false
set_option linter.unusedVariables false
set_option linter.unusedSimpArgs false
set_option linter.unusedVariables false
set_option linter.unusedSimpArgs false
open Go
namespace Go.Ev
theorem intB_eq {a b : Int} : (a == b) = decide (a = b) := by rw [Bool.eq_iff_iff]; simp

def v_book_SameInts (a b : List Int) : Bool := decide (a = b)
def k_book_SameInts (a b : List Int) : Bool := decide (a.length < 4611686018427387904)
theorem g_book_SameInts (a b : List Int) (hk : k_book_SameInts a b = true) : Goes (T_book_SameInts a b) (T0_book_SameInts a b) (v_book_SameInts a b) := by
  have hn : a.length < 4611686018427387904 := of_decide_eq_true hk
  have loop : a.length = b.length → ∀ k, k ≤ a.length → Goes (T_book_SameInts a b) (.jmp (.l6 (k : Int))) (decide (a.drop k = b.drop k)) := by
    intro he
    refine down ?_ fun k hk ih => ?_
    · rw [goes_jmp]
      simp [T_book_SameInts, goes_br, goes_leaf, he]
    · rw [goes_jmp]
      have hkb : k < b.length := he ▸ hk
      simp only [T_book_SameInts, goes_br, lt_len hk, lt_len hkb, nng, Bool.and_self, if_true, Int.toNat_natCast, getD_lt hk, getD_lt hkb, wrap_succ (k := k) (by omega)]
      rw [drop_cons hk, drop_cons hkb]
      split
      · rename_i h1
        have h2 : (! decide (a[k] = b[k])) = true := (congrArg Bool.not intB_eq).symm.trans h1
        have h3 : ¬ a[k] = b[k] := by simpa using h2
        rw [decide_eq_false (fun e => h3 (List.cons.inj e).1)]
        exact .leaf
      · rename_i h1
        have h2 : ¬ (! decide (a[k] = b[k])) = true := fun h => h1 ((congrArg Bool.not intB_eq).trans h)
        have h3 : a[k] = b[k] := by simpa using h2
        rw [show decide (a[k] :: List.drop (k + 1) a = b[k] :: List.drop (k + 1) b) = decide (List.drop (k + 1) a = List.drop (k + 1) b) from decide_eq_decide.2 ⟨fun e => (List.cons.inj e).2, fun e => by rw [h3, e]⟩]
        exact ih
  unfold T0_book_SameInts v_book_SameInts
  rw [goes_br]
  by_cases h : a.length = b.length
  · have := loop h 0 (Nat.zero_le _)
    simpa [h] using this
  · have : a ≠ b := fun e => h (congrArg _ e)
    rw [if_pos (by simp; omega), decide_eq_false this]
    exact .leaf

end Go.Ev
end

section
set_option linter.unusedSectionVars false
set_option linter.unusedVariables false
set_option linter.unusedSimpArgs false
set_option maxRecDepth 100000
set_option linter.unusedVariables false
open Go Go.Ev
namespace Go.Ev
noncomputable def e_book_SameInts : Run := entG sg_book_SameInts R_book_SameInts (fun a => k_book_SameInts a.1 a.2.1) (fun a => v_book_SameInts a.1 a.2.1)
theorem ok_book_SameInts : EntOK Go.Proofs.Tryd.prog 20 e_book_SameInts := entG_ok (tb := tb_book_SameInts) (c := c_book_SameInts) tk_book_SameInts (by kernel_rfl) (by kernel_rfl) (by kernel_rfl) (fun a => by kernel_rfl) fun ⟨a, b, _⟩ hk => evF_goes (c := c_book_SameInts) (K := fun v => (R_book_SameInts v, tps (toForms sg_book_SameInts (a, b, ())))) (S := S_book_SameInts a b) (by kernel_rfl) (en_book_SameInts a b) (lp_book_SameInts a b) (g_book_SameInts a b hk)
end Go.Ev
end

section
set_option linter.unusedSectionVars false
set_option linter.unusedVariables false
set_option linter.unusedSimpArgs false
set_option maxRecDepth 100000
set_option linter.unusedVariables false
open Go Go.Ev
namespace Go.Ev
/-! ### paling/weave.Back -/
def sg_weave_Back : Sig := [(false, (.sl (.int .i64))), (false, (.int .i64))]
noncomputable def t_weave_Back : Tbl := [(21, e_weave_Fences)]
theorem tk_weave_Back : ∀ p ∈ t_weave_Back, EntOK Go.Proofs.Tryd.prog p.1 p.2 := tbl_cons ok_weave_Fences (tbl_nil)
noncomputable def c_weave_Back : Code := Go.Proofs.Tryd.f23.body.getD .skip
def tb_weave_Back : Tb := [(7, ⟨[1, 5, 16, 17, 18], []⟩)]
inductive J_weave_Back where
  | l7 (n : Int) (h : Int)
def T_weave_Back (points : List Int) (pc : Int) : J_weave_Back → JT J_weave_Back (Int)
  | .l7 n h =>
    .br (decide (h < (Int.ofNat (List.length (v_weave_Fences points)))))
      (.br ((decide ((0 : Int) ≤ h)) && (decide (h < (Int.ofNat (List.length (v_weave_Fences points))))))
        (.br (decide ((List.getD (v_weave_Fences points) (Int.toNat h) (dflt (.int .i64))) < pc))
          (.jmp (.l7 (IntKind.i64.wrap (n + (1 : Int))) (IntKind.i64.wrap (h + (1 : Int)))))
        (.jmp (.l7 n (IntKind.i64.wrap (h + (1 : Int))))))
      (.no))
    (.leaf (IntKind.i64.wrap (pc - n)))
def T0_weave_Back (points : List Int) (pc : Int) : JT J_weave_Back (Int) :=
  .br (decide (pc < (0 : Int)))
    (.leaf pc)
  (.br (decide (pc > (2147483647 : Int)))
    (.leaf pc)
  (.br (k_weave_Fences points)
    (.jmp (.l7 (0 : Int) (0 : Int)))
  (.no)))
def R_weave_Back : Int → AV := fun (r : Int) => .d (.int .i64) r
def S_weave_Back (points : List Int) (pc : Int) : J_weave_Back → Nat × St
  | .l7 n h => (7, ⟨mkTm 31 [(1, .d (.int .i64) pc), (5, .d (.int .i64) n), (16, .own 17 0 none), (17, .d (.int .i64) (Int.ofNat (List.length (v_weave_Fences points)))), (18, .d (.int .i64) h)], [(17, 0, .row 3 (.int .i64) (v_weave_Fences points) false)]⟩)
theorem en_weave_Back (points : List Int) (pc : Int) (L : Lt) : entryA Go.Proofs.Tryd.prog (clOf t_weave_Back) tb_weave_Back Go.Proofs.Tryd.f23 c_weave_Back L (toForms sg_weave_Back (points, pc, ())) = (T0_weave_Back points pc).run (fun v => some (R_weave_Back v, tps (toForms sg_weave_Back (points, pc, ())))) fun j => L (S_weave_Back points pc j).1 (S_weave_Back points pc j).2 := by kernel_rfl
theorem lp_weave_Back (points : List Int) (pc : Int) : ∀ (L : Lt) (j : J_weave_Back), procOf (procsF Go.Proofs.Tryd.prog (clOf t_weave_Back) tb_weave_Back Go.Proofs.Tryd.f23 c_weave_Back (toForms sg_weave_Back (points, pc, ()))) (S_weave_Back points pc j).1 L (S_weave_Back points pc j).2 = (T_weave_Back points pc j).run (fun v => some (R_weave_Back v, tps (toForms sg_weave_Back (points, pc, ())))) fun j => L (S_weave_Back points pc j).1 (S_weave_Back points pc j).2
  | L, .l7 n h => by kernel_rfl
end Go.Ev
end

section
set_option linter.unusedSectionVars false
set_option linter.unusedVariables false
set_option linter.unusedSimpArgs false
set_option linter.unusedVariables false
set_option linter.unusedSimpArgs false
open Go
namespace Go.Ev
def v_weave_Back (points : List Int) (pc : Int) : Int := backC points pc
def k_weave_Back (points : List Int) (pc : Int) : Bool := decide (points.length < 4611686018427387904)
theorem g_weave_Back (l : List Int) (pc : Int) (hk : k_weave_Back l pc = true) : Goes (T_weave_Back l pc) (T0_weave_Back l pc) (v_weave_Back l pc) := by
  have hn : l.length < 4611686018427387904 := of_decide_eq_true hk
  have hkf : k_weave_Fences l = true := hk
  have hfl := fencesC_len l
  obtain ⟨fs, hfs⟩ : ∃ fs, fencesC l = fs := ⟨_, rfl⟩
  rw [hfs] at hfl
  have hvf : v_weave_Fences l = fs := hfs
  have loop : 0 ≤ pc → pc ≤ 2147483647 → ∀ k, k ≤ fs.length → ∀ n : Nat, n ≤ k → Goes (T_weave_Back l pc) (.jmp (.l7 (n : Int) (k : Int))) (pc - ((n + below (fs.drop k) pc : Nat) : Int)) := by
    intro h0 h1
    refine down ?_ fun k hk ih => ?_
    · intro n hnk
      rw [goes_jmp]
      simp only [T_weave_Back, goes_br, hvf, lt_len_not (Nat.lt_irrefl _), List.drop_length, if_false, Bool.false_eq_true]
      rw [show below [] pc = 0 from rfl, Nat.add_zero, wrap_i64 (by omega) (by omega)]
      exact .leaf
    · intro n hnk
      rw [goes_jmp, drop_cons hk]
      simp only [T_weave_Back, goes_br, hvf, lt_len hk, nng, Bool.and_self, if_true, Int.toNat_natCast, getD_lt hk, wrap_succ (k := k) (by omega), wrap_succ (k := n) (by omega)]
      have e : below (fs[k] :: List.drop (k + 1) fs) pc = (if decide (fs[k] < pc) = true then 1 else 0) + below (List.drop (k + 1) fs) pc := by
        unfold below
        rw [List.countP_cons, Nat.add_comm]
      split
      · rename_i h
        rw [e, if_pos h, ← Nat.add_assoc]
        exact ih (n + 1) (by omega)
      · rename_i h
        rw [e, if_neg h, Nat.zero_add]
        exact ih n (by omega)
  unfold T0_weave_Back v_weave_Back backC
  rw [hfs]
  by_cases h0 : pc < 0
  · rw [if_pos (.inl h0)]
    simp only [goes_br, decide_eq_true h0, if_true]
    exact .leaf
  · by_cases h1 : 2147483647 < pc
    · rw [if_pos (.inr h1)]
      have h2 : decide (pc > 2147483647) = true := decide_eq_true h1
      simp only [goes_br, decide_eq_false h0, h2, if_true]
      exact .leaf
    · rw [if_neg (by omega)]
      have := loop (by omega) (by omega) 0 (Nat.zero_le _) 0 (Nat.le_refl _)
      rw [Nat.zero_add, List.drop_zero] at this
      have h2 : decide (pc > 2147483647) = false := decide_eq_false h1
      simp only [goes_br, decide_eq_false h0, h2, hkf, if_true]
      simpa using this
end Go.Ev
end

section
set_option linter.unusedSectionVars false
set_option linter.unusedVariables false
set_option linter.unusedSimpArgs false
set_option maxRecDepth 100000
set_option linter.unusedVariables false
open Go Go.Ev
namespace Go.Ev
noncomputable def e_weave_Back : Run := entG sg_weave_Back R_weave_Back (fun a => k_weave_Back a.1 a.2.1) (fun a => v_weave_Back a.1 a.2.1)
theorem ok_weave_Back : EntOK Go.Proofs.Tryd.prog 23 e_weave_Back := entG_ok (tb := tb_weave_Back) (c := c_weave_Back) tk_weave_Back (by kernel_rfl) (by kernel_rfl) (by kernel_rfl) (fun a => by kernel_rfl) fun ⟨points, pc, _⟩ hk => evF_goes (c := c_weave_Back) (K := fun v => (R_weave_Back v, tps (toForms sg_weave_Back (points, pc, ())))) (S := S_weave_Back points pc) (by kernel_rfl) (en_weave_Back points pc) (lp_weave_Back points pc) (g_weave_Back points pc hk)
end Go.Ev
end

section
set_option linter.unusedSectionVars false
set_option linter.unusedVariables false
set_option linter.unusedSimpArgs false
set_option maxRecDepth 100000
set_option linter.unusedVariables false
open Go Go.Ev
namespace Go.Ev
/-! ### paling/weave.There -/
def sg_weave_There : Sig := [(false, (.sl (.int .i64))), (false, (.int .i64))]
noncomputable def t_weave_There : Tbl := [(40, e_weave_order)]
theorem tk_weave_There : ∀ p ∈ t_weave_There, EntOK Go.Proofs.Tryd.prog p.1 p.2 := tbl_cons ok_weave_order (tbl_nil)
noncomputable def c_weave_There : Code := Go.Proofs.Tryd.f25.body.getD .skip
def tb_weave_There : Tb := [(7, ⟨[1, 5, 20, 21, 22], []⟩)]
inductive J_weave_There where
  | l7 (n : Int) (h : Int)
def T_weave_There (points : List Int) (i : Int) : J_weave_There → JT J_weave_There (Int)
  | .l7 n h =>
    .br (decide (h < (Int.ofNat (List.length points))))
      (.br ((decide ((0 : Int) ≤ h)) && (decide (h < (Int.ofNat (List.length points)))))
        (.br (decide ((List.getD points (Int.toNat h) (dflt (.int .i64))) ≤ i))
          (.jmp (.l7 (IntKind.i64.wrap (n + (1 : Int))) (IntKind.i64.wrap (h + (1 : Int)))))
        (.jmp (.l7 n (IntKind.i64.wrap (h + (1 : Int))))))
      (.no))
    (.leaf (IntKind.i64.wrap (i + n)))
def T0_weave_There (points : List Int) (i : Int) : JT J_weave_There (Int) :=
  .br (decide (i < (0 : Int)))
    (.leaf i)
  (.br (decide (i > (2147483647 : Int)))
    (.leaf i)
  (.br (k_weave_order points)
    (.br (! (v_weave_order points))
      (.leaf i)
    (.jmp (.l7 (0 : Int) (0 : Int))))
  (.no)))
def R_weave_There : Int → AV := fun (r : Int) => .d (.int .i64) r
def S_weave_There (points : List Int) (i : Int) : J_weave_There → Nat × St
  | .l7 n h => (7, ⟨mkTm 35 [(1, .d (.int .i64) i), (5, .d (.int .i64) n), (20, .d (.sl (.int .i64)) points), (21, .d (.int .i64) (Int.ofNat (List.length points))), (22, .d (.int .i64) h)], []⟩)
theorem en_weave_There (points : List Int) (i : Int) (L : Lt) : entryA Go.Proofs.Tryd.prog (clOf t_weave_There) tb_weave_There Go.Proofs.Tryd.f25 c_weave_There L (toForms sg_weave_There (points, i, ())) = (T0_weave_There points i).run (fun v => some (R_weave_There v, tps (toForms sg_weave_There (points, i, ())))) fun j => L (S_weave_There points i j).1 (S_weave_There points i j).2 := by kernel_rfl
theorem lp_weave_There (points : List Int) (i : Int) : ∀ (L : Lt) (j : J_weave_There), procOf (procsF Go.Proofs.Tryd.prog (clOf t_weave_There) tb_weave_There Go.Proofs.Tryd.f25 c_weave_There (toForms sg_weave_There (points, i, ()))) (S_weave_There points i j).1 L (S_weave_There points i j).2 = (T_weave_There points i j).run (fun v => some (R_weave_There v, tps (toForms sg_weave_There (points, i, ())))) fun j => L (S_weave_There points i j).1 (S_weave_There points i j).2
  | L, .l7 n h => by kernel_rfl
end Go.Ev
end

section
set_option linter.unusedSectionVars false
set_option linter.unusedVariables false
set_option linter.unusedSimpArgs false
set_option linter.unusedVariables false
set_option linter.unusedSimpArgs false
open Go
namespace Go.Ev
def v_weave_There (points : List Int) (i : Int) : Int := thereC points i
def k_weave_There (points : List Int) (i : Int) : Bool := decide (points.length < 4611686018427387904)
theorem g_weave_There (l : List Int) (i : Int) (hk : k_weave_There l i = true) : Goes (T_weave_There l i) (T0_weave_There l i) (v_weave_There l i) := by
  have hn : l.length < 4611686018427387904 := of_decide_eq_true hk
  have hko : k_weave_order l = true := hk
  have loop : 0 ≤ i → i ≤ 2147483647 → ∀ k, k ≤ l.length → ∀ n : Nat, n ≤ k → Goes (T_weave_There l i) (.jmp (.l7 (n : Int) (k : Int))) (i + ((n + upTo (l.drop k) i : Nat) : Int)) := by
    intro h0 h1
    refine down ?_ fun k hk ih => ?_
    · intro n hnk
      rw [goes_jmp]
      simp only [T_weave_There, goes_br, lt_len_not (Nat.lt_irrefl _), List.drop_length, if_false, Bool.false_eq_true]
      rw [show upTo [] i = 0 from rfl, Nat.add_zero, wrap_i64 (by omega) (by omega)]
      exact .leaf
    · intro n hnk
      rw [goes_jmp, drop_cons hk]
      simp only [T_weave_There, goes_br, lt_len hk, nng, Bool.and_self, if_true, Int.toNat_natCast, getD_lt hk, wrap_succ (k := k) (by omega), wrap_succ (k := n) (by omega)]
      have e : upTo (l[k] :: List.drop (k + 1) l) i = (if decide (l[k] ≤ i) = true then 1 else 0) + upTo (List.drop (k + 1) l) i := by
        unfold upTo
        rw [List.countP_cons, Nat.add_comm]
      split
      · rename_i h
        rw [e, if_pos h, ← Nat.add_assoc]
        exact ih (n + 1) (by omega)
      · rename_i h
        rw [e, if_neg h, Nat.zero_add]
        exact ih n (by omega)
  unfold T0_weave_There v_weave_There thereC
  by_cases h0 : i < 0
  · rw [if_pos (.inl h0)]
    simp only [goes_br, decide_eq_true h0, if_true]
    exact .leaf
  · by_cases h1 : 2147483647 < i
    · rw [if_pos (.inr (.inl h1))]
      have h2 : decide (i > 2147483647) = true := decide_eq_true h1
      simp only [goes_br, decide_eq_false h0, h2, if_true]
      exact .leaf
    · have := loop (by omega) (by omega) 0 (Nat.zero_le _) 0 (Nat.le_refl _)
      rw [Nat.zero_add, List.drop_zero] at this
      have h2 : decide (i > 2147483647) = false := decide_eq_false h1
      simp only [goes_br, decide_eq_false h0, h2, hko, if_true, v_weave_order, if_false, Bool.false_eq_true]
      by_cases hr : rising l = true
      · rw [if_neg (by simp [hr]), if_neg (by simp [hr]; omega)]
        exact this
      · have hr' : rising l = false := by simpa using hr
        rw [if_pos (by simp [hr']), if_pos (.inr (.inr hr'))]
        exact .leaf
end Go.Ev
end

section
set_option linter.unusedSectionVars false
set_option linter.unusedVariables false
set_option linter.unusedSimpArgs false
set_option maxRecDepth 100000
set_option linter.unusedVariables false
open Go Go.Ev
namespace Go.Ev
noncomputable def e_weave_There : Run := entG sg_weave_There R_weave_There (fun a => k_weave_There a.1 a.2.1) (fun a => v_weave_There a.1 a.2.1)
theorem ok_weave_There : EntOK Go.Proofs.Tryd.prog 25 e_weave_There := entG_ok (tb := tb_weave_There) (c := c_weave_There) tk_weave_There (by kernel_rfl) (by kernel_rfl) (by kernel_rfl) (fun a => by kernel_rfl) fun ⟨points, i, _⟩ hk => evF_goes (c := c_weave_There) (K := fun v => (R_weave_There v, tps (toForms sg_weave_There (points, i, ())))) (S := S_weave_There points i) (by kernel_rfl) (en_weave_There points i) (lp_weave_There points i) (g_weave_There points i hk)
end Go.Ev
end

section
set_option linter.unusedSectionVars false
set_option linter.unusedVariables false
set_option linter.unusedSimpArgs false
set_option maxRecDepth 100000
set_option linter.unusedVariables false
open Go Go.Ev
namespace Go.Ev
/-! ### paling/palinglaw26.alive -/
def sg_law26_alive : Sig := []
noncomputable def t_law26_alive : Tbl := [(14, e_weave_In), (21, e_weave_Fences), (20, e_book_SameInts), (23, e_weave_Back), (25, e_weave_There)]
theorem tk_law26_alive : ∀ p ∈ t_law26_alive, EntOK Go.Proofs.Tryd.prog p.1 p.2 := tbl_cons ok_weave_In (tbl_cons ok_weave_Fences (tbl_cons ok_book_SameInts (tbl_cons ok_weave_Back (tbl_cons ok_weave_There (tbl_nil)))))
noncomputable def c_law26_alive : Code := Go.Proofs.Tryd.f12.body.getD .skip
def tb_law26_alive : Tb := []
def T_law26_alive : Empty → JT Empty (Bool) := fun j => nomatch j
def T0_law26_alive : JT Empty (Bool) :=
  .br (k_weave_In ([], [[((14 : Int), (false, ((0 : Int), (((0 : Int), ((0 : Int), ((0 : Int), (0 : Int)))), (((0 : Int), ((0 : Int), ((0 : Int), (0 : Int)))), ((bs []), [(bs [97])]))))))]]) [[(0 : Int)]])
    (.br (k_weave_In ([], [[((14 : Int), (false, ((0 : Int), (((0 : Int), ((0 : Int), ((0 : Int), (0 : Int)))), (((0 : Int), ((0 : Int), ((0 : Int), (0 : Int)))), ((bs []), [(bs [97])]))))))]]) [[(1 : Int)]])
      (.br (v_weave_In ([], [[((14 : Int), (false, ((0 : Int), (((0 : Int), ((0 : Int), ((0 : Int), (0 : Int)))), (((0 : Int), ((0 : Int), ((0 : Int), (0 : Int)))), ((bs []), [(bs [97])]))))))]]) [[(0 : Int)]]).2
        (.br (! (v_weave_In ([], [[((14 : Int), (false, ((0 : Int), (((0 : Int), ((0 : Int), ((0 : Int), (0 : Int)))), (((0 : Int), ((0 : Int), ((0 : Int), (0 : Int)))), ((bs []), [(bs [97])]))))))]]) [[(1 : Int)]]).2)
          (.br ((Int.ofNat (List.length (v_weave_In ([], [[((14 : Int), (false, ((0 : Int), (((0 : Int), ((0 : Int), ((0 : Int), (0 : Int)))), (((0 : Int), ((0 : Int), ((0 : Int), (0 : Int)))), ((bs []), [(bs [97])]))))))]]) [[(0 : Int)]]).1.2)) == (1 : Int))
            (.br (decide ((0 : Int) < (Int.ofNat (List.length (v_weave_In ([], [[((14 : Int), (false, ((0 : Int), (((0 : Int), ((0 : Int), ((0 : Int), (0 : Int)))), (((0 : Int), ((0 : Int), ((0 : Int), (0 : Int)))), ((bs []), [(bs [97])]))))))]]) [[(0 : Int)]]).1.2))))
              (.br ((Int.ofNat (List.length (List.getD (v_weave_In ([], [[((14 : Int), (false, ((0 : Int), (((0 : Int), ((0 : Int), ((0 : Int), (0 : Int)))), (((0 : Int), ((0 : Int), ((0 : Int), (0 : Int)))), ((bs []), [(bs [97])]))))))]]) [[(0 : Int)]]).1.2 0 (dflt (.sl T_api_Ins))))) == (2 : Int))
                (.br (decide ((0 : Int) < (Int.ofNat (List.length (v_weave_In ([], [[((14 : Int), (false, ((0 : Int), (((0 : Int), ((0 : Int), ((0 : Int), (0 : Int)))), (((0 : Int), ((0 : Int), ((0 : Int), (0 : Int)))), ((bs []), [(bs [97])]))))))]]) [[(0 : Int)]]).1.2))))
                  (.br (decide ((0 : Int) < (Int.ofNat (List.length (List.getD (v_weave_In ([], [[((14 : Int), (false, ((0 : Int), (((0 : Int), ((0 : Int), ((0 : Int), (0 : Int)))), (((0 : Int), ((0 : Int), ((0 : Int), (0 : Int)))), ((bs []), [(bs [97])]))))))]]) [[(0 : Int)]]).1.2 0 (dflt (.sl T_api_Ins)))))))
                    (.br ((List.getD (List.getD (v_weave_In ([], [[((14 : Int), (false, ((0 : Int), (((0 : Int), ((0 : Int), ((0 : Int), (0 : Int)))), (((0 : Int), ((0 : Int), ((0 : Int), (0 : Int)))), ((bs []), [(bs [97])]))))))]]) [[(0 : Int)]]).1.2 0 (dflt (.sl T_api_Ins))) 0 (dflt T_api_Ins)).1 == (12 : Int))
                      (.br (decide ((0 : Int) < (Int.ofNat (List.length (v_weave_In ([], [[((14 : Int), (false, ((0 : Int), (((0 : Int), ((0 : Int), ((0 : Int), (0 : Int)))), (((0 : Int), ((0 : Int), ((0 : Int), (0 : Int)))), ((bs []), [(bs [97])]))))))]]) [[(0 : Int)]]).1.2))))
                        (.br (decide ((0 : Int) < (Int.ofNat (List.length (List.getD (v_weave_In ([], [[((14 : Int), (false, ((0 : Int), (((0 : Int), ((0 : Int), ((0 : Int), (0 : Int)))), (((0 : Int), ((0 : Int), ((0 : Int), (0 : Int)))), ((bs []), [(bs [97])]))))))]]) [[(0 : Int)]]).1.2 0 (dflt (.sl T_api_Ins)))))))
                          (.br ((Int.ofNat (List.length (List.getD (List.getD (v_weave_In ([], [[((14 : Int), (false, ((0 : Int), (((0 : Int), ((0 : Int), ((0 : Int), (0 : Int)))), (((0 : Int), ((0 : Int), ((0 : Int), (0 : Int)))), ((bs []), [(bs [97])]))))))]]) [[(0 : Int)]]).1.2 0 (dflt (.sl T_api_Ins))) 0 (dflt T_api_Ins)).2.2.2.2.2.2)) == (1 : Int))
                            (.br (k_weave_Fences [(1 : Int), (2 : Int)])
                              (.br (k_book_SameInts (v_weave_Fences [(1 : Int), (2 : Int)]) [(1 : Int), (3 : Int)])
                                (.br (v_book_SameInts (v_weave_Fences [(1 : Int), (2 : Int)]) [(1 : Int), (3 : Int)])
                                  (.br (k_weave_Back [(1 : Int), (2 : Int)] (4 : Int))
                                    (.br ((v_weave_Back [(1 : Int), (2 : Int)] (4 : Int)) == (2 : Int))
                                      (.br (k_weave_There [(1 : Int), (2 : Int)] (2 : Int))
                                        (.leaf ((v_weave_There [(1 : Int), (2 : Int)] (2 : Int)) == (4 : Int)))
                                      (.no))
                                    (.leaf false))
                                  (.no))
                                (.leaf false))
                              (.no))
                            (.no))
                          (.leaf false))
                        (.no))
                      (.no))
                    (.leaf false))
                  (.no))
                (.no))
              (.leaf false))
            (.no))
          (.leaf false))
        (.leaf false))
      (.leaf false))
    (.no))
  (.no)
def v_law26_alive : Bool :=
  bif (k_weave_In ([], [[((14 : Int), (false, ((0 : Int), (((0 : Int), ((0 : Int), ((0 : Int), (0 : Int)))), (((0 : Int), ((0 : Int), ((0 : Int), (0 : Int)))), ((bs []), [(bs [97])]))))))]]) [[(0 : Int)]]) then
    bif (k_weave_In ([], [[((14 : Int), (false, ((0 : Int), (((0 : Int), ((0 : Int), ((0 : Int), (0 : Int)))), (((0 : Int), ((0 : Int), ((0 : Int), (0 : Int)))), ((bs []), [(bs [97])]))))))]]) [[(1 : Int)]]) then
      bif (v_weave_In ([], [[((14 : Int), (false, ((0 : Int), (((0 : Int), ((0 : Int), ((0 : Int), (0 : Int)))), (((0 : Int), ((0 : Int), ((0 : Int), (0 : Int)))), ((bs []), [(bs [97])]))))))]]) [[(0 : Int)]]).2 then
        bif (! (v_weave_In ([], [[((14 : Int), (false, ((0 : Int), (((0 : Int), ((0 : Int), ((0 : Int), (0 : Int)))), (((0 : Int), ((0 : Int), ((0 : Int), (0 : Int)))), ((bs []), [(bs [97])]))))))]]) [[(1 : Int)]]).2) then
          bif ((Int.ofNat (List.length (v_weave_In ([], [[((14 : Int), (false, ((0 : Int), (((0 : Int), ((0 : Int), ((0 : Int), (0 : Int)))), (((0 : Int), ((0 : Int), ((0 : Int), (0 : Int)))), ((bs []), [(bs [97])]))))))]]) [[(0 : Int)]]).1.2)) == (1 : Int)) then
            bif (decide ((0 : Int) < (Int.ofNat (List.length (v_weave_In ([], [[((14 : Int), (false, ((0 : Int), (((0 : Int), ((0 : Int), ((0 : Int), (0 : Int)))), (((0 : Int), ((0 : Int), ((0 : Int), (0 : Int)))), ((bs []), [(bs [97])]))))))]]) [[(0 : Int)]]).1.2)))) then
              bif ((Int.ofNat (List.length (List.getD (v_weave_In ([], [[((14 : Int), (false, ((0 : Int), (((0 : Int), ((0 : Int), ((0 : Int), (0 : Int)))), (((0 : Int), ((0 : Int), ((0 : Int), (0 : Int)))), ((bs []), [(bs [97])]))))))]]) [[(0 : Int)]]).1.2 0 (dflt (.sl T_api_Ins))))) == (2 : Int)) then
                bif (decide ((0 : Int) < (Int.ofNat (List.length (v_weave_In ([], [[((14 : Int), (false, ((0 : Int), (((0 : Int), ((0 : Int), ((0 : Int), (0 : Int)))), (((0 : Int), ((0 : Int), ((0 : Int), (0 : Int)))), ((bs []), [(bs [97])]))))))]]) [[(0 : Int)]]).1.2)))) then
                  bif (decide ((0 : Int) < (Int.ofNat (List.length (List.getD (v_weave_In ([], [[((14 : Int), (false, ((0 : Int), (((0 : Int), ((0 : Int), ((0 : Int), (0 : Int)))), (((0 : Int), ((0 : Int), ((0 : Int), (0 : Int)))), ((bs []), [(bs [97])]))))))]]) [[(0 : Int)]]).1.2 0 (dflt (.sl T_api_Ins))))))) then
                    bif ((List.getD (List.getD (v_weave_In ([], [[((14 : Int), (false, ((0 : Int), (((0 : Int), ((0 : Int), ((0 : Int), (0 : Int)))), (((0 : Int), ((0 : Int), ((0 : Int), (0 : Int)))), ((bs []), [(bs [97])]))))))]]) [[(0 : Int)]]).1.2 0 (dflt (.sl T_api_Ins))) 0 (dflt T_api_Ins)).1 == (12 : Int)) then
                      bif (decide ((0 : Int) < (Int.ofNat (List.length (v_weave_In ([], [[((14 : Int), (false, ((0 : Int), (((0 : Int), ((0 : Int), ((0 : Int), (0 : Int)))), (((0 : Int), ((0 : Int), ((0 : Int), (0 : Int)))), ((bs []), [(bs [97])]))))))]]) [[(0 : Int)]]).1.2)))) then
                        bif (decide ((0 : Int) < (Int.ofNat (List.length (List.getD (v_weave_In ([], [[((14 : Int), (false, ((0 : Int), (((0 : Int), ((0 : Int), ((0 : Int), (0 : Int)))), (((0 : Int), ((0 : Int), ((0 : Int), (0 : Int)))), ((bs []), [(bs [97])]))))))]]) [[(0 : Int)]]).1.2 0 (dflt (.sl T_api_Ins))))))) then
                          bif ((Int.ofNat (List.length (List.getD (List.getD (v_weave_In ([], [[((14 : Int), (false, ((0 : Int), (((0 : Int), ((0 : Int), ((0 : Int), (0 : Int)))), (((0 : Int), ((0 : Int), ((0 : Int), (0 : Int)))), ((bs []), [(bs [97])]))))))]]) [[(0 : Int)]]).1.2 0 (dflt (.sl T_api_Ins))) 0 (dflt T_api_Ins)).2.2.2.2.2.2)) == (1 : Int)) then
                            bif (k_weave_Fences [(1 : Int), (2 : Int)]) then
                              bif (k_book_SameInts (v_weave_Fences [(1 : Int), (2 : Int)]) [(1 : Int), (3 : Int)]) then
                                bif (v_book_SameInts (v_weave_Fences [(1 : Int), (2 : Int)]) [(1 : Int), (3 : Int)]) then
                                  bif (k_weave_Back [(1 : Int), (2 : Int)] (4 : Int)) then
                                    bif ((v_weave_Back [(1 : Int), (2 : Int)] (4 : Int)) == (2 : Int)) then
                                      bif (k_weave_There [(1 : Int), (2 : Int)] (2 : Int)) then
                                        ((v_weave_There [(1 : Int), (2 : Int)] (2 : Int)) == (4 : Int))
                                      else false
                                    else false
                                  else false
                                else false
                              else false
                            else false
                          else false
                        else false
                      else false
                    else false
                  else false
                else false
              else false
            else false
          else false
        else false
      else false
    else false
  else false
def k_law26_alive : Bool :=
  bif (k_weave_In ([], [[((14 : Int), (false, ((0 : Int), (((0 : Int), ((0 : Int), ((0 : Int), (0 : Int)))), (((0 : Int), ((0 : Int), ((0 : Int), (0 : Int)))), ((bs []), [(bs [97])]))))))]]) [[(0 : Int)]]) then
    bif (k_weave_In ([], [[((14 : Int), (false, ((0 : Int), (((0 : Int), ((0 : Int), ((0 : Int), (0 : Int)))), (((0 : Int), ((0 : Int), ((0 : Int), (0 : Int)))), ((bs []), [(bs [97])]))))))]]) [[(1 : Int)]]) then
      bif (v_weave_In ([], [[((14 : Int), (false, ((0 : Int), (((0 : Int), ((0 : Int), ((0 : Int), (0 : Int)))), (((0 : Int), ((0 : Int), ((0 : Int), (0 : Int)))), ((bs []), [(bs [97])]))))))]]) [[(0 : Int)]]).2 then
        bif (! (v_weave_In ([], [[((14 : Int), (false, ((0 : Int), (((0 : Int), ((0 : Int), ((0 : Int), (0 : Int)))), (((0 : Int), ((0 : Int), ((0 : Int), (0 : Int)))), ((bs []), [(bs [97])]))))))]]) [[(1 : Int)]]).2) then
          bif ((Int.ofNat (List.length (v_weave_In ([], [[((14 : Int), (false, ((0 : Int), (((0 : Int), ((0 : Int), ((0 : Int), (0 : Int)))), (((0 : Int), ((0 : Int), ((0 : Int), (0 : Int)))), ((bs []), [(bs [97])]))))))]]) [[(0 : Int)]]).1.2)) == (1 : Int)) then
            bif (decide ((0 : Int) < (Int.ofNat (List.length (v_weave_In ([], [[((14 : Int), (false, ((0 : Int), (((0 : Int), ((0 : Int), ((0 : Int), (0 : Int)))), (((0 : Int), ((0 : Int), ((0 : Int), (0 : Int)))), ((bs []), [(bs [97])]))))))]]) [[(0 : Int)]]).1.2)))) then
              bif ((Int.ofNat (List.length (List.getD (v_weave_In ([], [[((14 : Int), (false, ((0 : Int), (((0 : Int), ((0 : Int), ((0 : Int), (0 : Int)))), (((0 : Int), ((0 : Int), ((0 : Int), (0 : Int)))), ((bs []), [(bs [97])]))))))]]) [[(0 : Int)]]).1.2 0 (dflt (.sl T_api_Ins))))) == (2 : Int)) then
                bif (decide ((0 : Int) < (Int.ofNat (List.length (v_weave_In ([], [[((14 : Int), (false, ((0 : Int), (((0 : Int), ((0 : Int), ((0 : Int), (0 : Int)))), (((0 : Int), ((0 : Int), ((0 : Int), (0 : Int)))), ((bs []), [(bs [97])]))))))]]) [[(0 : Int)]]).1.2)))) then
                  bif (decide ((0 : Int) < (Int.ofNat (List.length (List.getD (v_weave_In ([], [[((14 : Int), (false, ((0 : Int), (((0 : Int), ((0 : Int), ((0 : Int), (0 : Int)))), (((0 : Int), ((0 : Int), ((0 : Int), (0 : Int)))), ((bs []), [(bs [97])]))))))]]) [[(0 : Int)]]).1.2 0 (dflt (.sl T_api_Ins))))))) then
                    bif ((List.getD (List.getD (v_weave_In ([], [[((14 : Int), (false, ((0 : Int), (((0 : Int), ((0 : Int), ((0 : Int), (0 : Int)))), (((0 : Int), ((0 : Int), ((0 : Int), (0 : Int)))), ((bs []), [(bs [97])]))))))]]) [[(0 : Int)]]).1.2 0 (dflt (.sl T_api_Ins))) 0 (dflt T_api_Ins)).1 == (12 : Int)) then
                      bif (decide ((0 : Int) < (Int.ofNat (List.length (v_weave_In ([], [[((14 : Int), (false, ((0 : Int), (((0 : Int), ((0 : Int), ((0 : Int), (0 : Int)))), (((0 : Int), ((0 : Int), ((0 : Int), (0 : Int)))), ((bs []), [(bs [97])]))))))]]) [[(0 : Int)]]).1.2)))) then
                        bif (decide ((0 : Int) < (Int.ofNat (List.length (List.getD (v_weave_In ([], [[((14 : Int), (false, ((0 : Int), (((0 : Int), ((0 : Int), ((0 : Int), (0 : Int)))), (((0 : Int), ((0 : Int), ((0 : Int), (0 : Int)))), ((bs []), [(bs [97])]))))))]]) [[(0 : Int)]]).1.2 0 (dflt (.sl T_api_Ins))))))) then
                          bif ((Int.ofNat (List.length (List.getD (List.getD (v_weave_In ([], [[((14 : Int), (false, ((0 : Int), (((0 : Int), ((0 : Int), ((0 : Int), (0 : Int)))), (((0 : Int), ((0 : Int), ((0 : Int), (0 : Int)))), ((bs []), [(bs [97])]))))))]]) [[(0 : Int)]]).1.2 0 (dflt (.sl T_api_Ins))) 0 (dflt T_api_Ins)).2.2.2.2.2.2)) == (1 : Int)) then
                            bif (k_weave_Fences [(1 : Int), (2 : Int)]) then
                              bif (k_book_SameInts (v_weave_Fences [(1 : Int), (2 : Int)]) [(1 : Int), (3 : Int)]) then
                                bif (v_book_SameInts (v_weave_Fences [(1 : Int), (2 : Int)]) [(1 : Int), (3 : Int)]) then
                                  bif (k_weave_Back [(1 : Int), (2 : Int)] (4 : Int)) then
                                    bif ((v_weave_Back [(1 : Int), (2 : Int)] (4 : Int)) == (2 : Int)) then
                                      bif (k_weave_There [(1 : Int), (2 : Int)] (2 : Int)) then
                                        true
                                      else false
                                    else true
                                  else false
                                else true
                              else false
                            else false
                          else true
                        else false
                      else false
                    else true
                  else false
                else false
              else true
            else false
          else true
        else true
      else true
    else false
  else false
theorem g_law26_alive (hk : k_law26_alive = true) : Goes (T_law26_alive) (T0_law26_alive) (v_law26_alive) :=
  Goes.brk hk (fun hk =>
    Goes.brk hk (fun hk =>
      Goes.brk hk (fun hk =>
        Goes.brk hk (fun hk =>
          Goes.brk hk (fun hk =>
            Goes.brk hk (fun hk =>
              Goes.brk hk (fun hk =>
                Goes.brk hk (fun hk =>
                  Goes.brk hk (fun hk =>
                    Goes.brk hk (fun hk =>
                      Goes.brk hk (fun hk =>
                        Goes.brk hk (fun hk =>
                          Goes.brk hk (fun hk =>
                            Goes.brk hk (fun hk =>
                              Goes.brk hk (fun hk =>
                                Goes.brk hk (fun hk =>
                                  Goes.brk hk (fun hk =>
                                    Goes.brk hk (fun hk =>
                                      Goes.brk hk (fun hk =>
                                        Goes.leaf) (fun hk =>
                                        Goes.nok hk)) (fun hk =>
                                      Goes.leaf)) (fun hk =>
                                    Goes.nok hk)) (fun hk =>
                                  Goes.leaf)) (fun hk =>
                                Goes.nok hk)) (fun hk =>
                              Goes.nok hk)) (fun hk =>
                            Goes.leaf)) (fun hk =>
                          Goes.nok hk)) (fun hk =>
                        Goes.nok hk)) (fun hk =>
                      Goes.leaf)) (fun hk =>
                    Goes.nok hk)) (fun hk =>
                  Goes.nok hk)) (fun hk =>
                Goes.leaf)) (fun hk =>
              Goes.nok hk)) (fun hk =>
            Goes.leaf)) (fun hk =>
          Goes.leaf)) (fun hk =>
        Goes.leaf)) (fun hk =>
      Goes.nok hk)) (fun hk =>
    Goes.nok hk)
def R_law26_alive : Bool → AV := fun (r : Bool) => .d .bool r
def S_law26_alive : Empty → Nat × St := fun j => nomatch j
theorem en_law26_alive (L : Lt) : entryA Go.Proofs.Tryd.prog (clOf t_law26_alive) tb_law26_alive Go.Proofs.Tryd.f12 c_law26_alive L (toForms sg_law26_alive (())) = (T0_law26_alive).run (fun v => some (R_law26_alive v, tps (toForms sg_law26_alive (())))) fun j => L (S_law26_alive j).1 (S_law26_alive j).2 := by kernel_rfl
theorem lp_law26_alive : ∀ (L : Lt) (j : Empty), procOf (procsF Go.Proofs.Tryd.prog (clOf t_law26_alive) tb_law26_alive Go.Proofs.Tryd.f12 c_law26_alive (toForms sg_law26_alive (()))) (S_law26_alive j).1 L (S_law26_alive j).2 = (T_law26_alive j).run (fun v => some (R_law26_alive v, tps (toForms sg_law26_alive (())))) fun j => L (S_law26_alive j).1 (S_law26_alive j).2 := fun L j => nomatch j
noncomputable def e_law26_alive : Run := entG sg_law26_alive R_law26_alive (fun a => k_law26_alive) (fun a => v_law26_alive)
theorem ok_law26_alive : EntOK Go.Proofs.Tryd.prog 12 e_law26_alive := entG_ok (tb := tb_law26_alive) (c := c_law26_alive) tk_law26_alive (by kernel_rfl) (by kernel_rfl) (by kernel_rfl) (fun a => by kernel_rfl) fun _ hk => evF_goes (c := c_law26_alive) (K := fun v => (R_law26_alive v, tps (toForms sg_law26_alive (())))) (S := S_law26_alive) (by kernel_rfl) (en_law26_alive) (lp_law26_alive) (g_law26_alive hk)
theorem co_law26_alive (hk : k_law26_alive = true) : CallOK Go.Proofs.Tryd.prog 12 (toForms sg_law26_alive (())) (R_law26_alive (v_law26_alive), tps (toForms sg_law26_alive (()))) := by
  obtain ⟨h1, h2⟩ := clOf_ok tk_law26_alive
  obtain ⟨n, hn⟩ := evF_goes (c := c_law26_alive) (K := fun v => (R_law26_alive v, tps (toForms sg_law26_alive (())))) (S := S_law26_alive) (by kernel_rfl) (en_law26_alive) (lp_law26_alive) (g_law26_alive hk)
  exact evF_sound (f := 12) (c := c_law26_alive) h1 h2 (by kernel_rfl) (by kernel_rfl) (by kernel_rfl) hn
end Go.Ev
end

section
set_option linter.unusedSectionVars false
set_option linter.unusedVariables false
set_option linter.unusedSimpArgs false
/- The first call that chapter 26's laws make. -/
set_option maxRecDepth 100000
namespace Go.Ev
theorem alive26 : k_law26_alive = true ∧ v_law26_alive = true := by decide +kernel
end Go.Ev
end

section
set_option linter.unusedSectionVars false
set_option linter.unusedVariables false
set_option linter.unusedSimpArgs false
set_option maxRecDepth 100000
set_option linter.unusedVariables false
open Go Go.Ev
namespace Go.Ev
/-! ### paling/palinglaw26.WeaveRaw -/
def sg_law26_WeaveRaw : Sig := [(true, T_api_Prog)]
noncomputable def t_law26_WeaveRaw : Tbl := [(36, e_book_Great), (35, e_ref1_Check), (12, e_law26_alive), (14, e_weave_In), (33, e_weave_Out), (16, e_ref1_SameProg)]
theorem tk_law26_WeaveRaw : ∀ p ∈ t_law26_WeaveRaw, EntOK Go.Proofs.Tryd.prog p.1 p.2 := tbl_cons ok_book_Great (tbl_cons ok_ref1_Check (tbl_cons ok_law26_alive (tbl_cons ok_weave_In (tbl_cons ok_weave_Out (tbl_cons ok_ref1_SameProg (tbl_nil))))))
noncomputable def c_law26_WeaveRaw : Code := Go.Proofs.Tryd.f9.body.getD .skip
def tb_law26_WeaveRaw : Tb := []
def T_law26_WeaveRaw (p : El T_api_Prog) : Empty → JT Empty (Bool) := fun j => nomatch j
def T0_law26_WeaveRaw (p : El T_api_Prog) : JT Empty (Bool) :=
  .br (v_book_Great p)
    (.br k_law26_alive
      (.leaf v_law26_alive)
    (.no))
  (.br (k_ref1_Check p)
    (.br ((v_ref1_Check p) == (0 : Int))
      (.br k_law26_alive
        (.leaf v_law26_alive)
      (.no))
    (.br (k_weave_In p [])
      (.br (k_weave_Out p [])
        (.br (! (v_weave_In p []).2)
          (.br (! (v_weave_Out p []).2)
            (.br (k_ref1_SameProg (v_weave_In p []).1 ([], []))
              (.br (v_ref1_SameProg (v_weave_In p []).1 ([], []))
                (.br (k_ref1_SameProg (v_weave_Out p []).1 ([], []))
                  (.br (v_ref1_SameProg (v_weave_Out p []).1 ([], []))
                    (.br k_law26_alive
                      (.leaf v_law26_alive)
                    (.no))
                  (.leaf false))
                (.no))
              (.leaf false))
            (.no))
          (.leaf false))
        (.leaf false))
      (.no))
    (.no)))
  (.no))
def v_law26_WeaveRaw (p : El T_api_Prog) : Bool :=
  bif (v_book_Great p) then
    bif k_law26_alive then
      v_law26_alive
    else false
  else bif (k_ref1_Check p) then
    bif ((v_ref1_Check p) == (0 : Int)) then
      bif k_law26_alive then
        v_law26_alive
      else false
    else bif (k_weave_In p []) then
      bif (k_weave_Out p []) then
        bif (! (v_weave_In p []).2) then
          bif (! (v_weave_Out p []).2) then
            bif (k_ref1_SameProg (v_weave_In p []).1 ([], [])) then
              bif (v_ref1_SameProg (v_weave_In p []).1 ([], [])) then
                bif (k_ref1_SameProg (v_weave_Out p []).1 ([], [])) then
                  bif (v_ref1_SameProg (v_weave_Out p []).1 ([], [])) then
                    bif k_law26_alive then
                      v_law26_alive
                    else false
                  else false
                else false
              else false
            else false
          else false
        else false
      else false
    else false
  else false
def k_law26_WeaveRaw (p : El T_api_Prog) : Bool :=
  bif (v_book_Great p) then
    bif k_law26_alive then
      true
    else false
  else bif (k_ref1_Check p) then
    bif ((v_ref1_Check p) == (0 : Int)) then
      bif k_law26_alive then
        true
      else false
    else bif (k_weave_In p []) then
      bif (k_weave_Out p []) then
        bif (! (v_weave_In p []).2) then
          bif (! (v_weave_Out p []).2) then
            bif (k_ref1_SameProg (v_weave_In p []).1 ([], [])) then
              bif (v_ref1_SameProg (v_weave_In p []).1 ([], [])) then
                bif (k_ref1_SameProg (v_weave_Out p []).1 ([], [])) then
                  bif (v_ref1_SameProg (v_weave_Out p []).1 ([], [])) then
                    bif k_law26_alive then
                      true
                    else false
                  else true
                else false
              else true
            else false
          else true
        else true
      else false
    else false
  else false
theorem g_law26_WeaveRaw (p : El T_api_Prog) (hk : k_law26_WeaveRaw p = true) : Goes (T_law26_WeaveRaw p) (T0_law26_WeaveRaw p) (v_law26_WeaveRaw p) :=
  Goes.brk hk (fun hk =>
    Goes.brk hk (fun hk =>
      Goes.leaf) (fun hk =>
      Goes.nok hk)) (fun hk =>
    Goes.brk hk (fun hk =>
      Goes.brk hk (fun hk =>
        Goes.brk hk (fun hk =>
          Goes.leaf) (fun hk =>
          Goes.nok hk)) (fun hk =>
        Goes.brk hk (fun hk =>
          Goes.brk hk (fun hk =>
            Goes.brk hk (fun hk =>
              Goes.brk hk (fun hk =>
                Goes.brk hk (fun hk =>
                  Goes.brk hk (fun hk =>
                    Goes.brk hk (fun hk =>
                      Goes.brk hk (fun hk =>
                        Goes.brk hk (fun hk =>
                          Goes.leaf) (fun hk =>
                          Goes.nok hk)) (fun hk =>
                        Goes.leaf)) (fun hk =>
                      Goes.nok hk)) (fun hk =>
                    Goes.leaf)) (fun hk =>
                  Goes.nok hk)) (fun hk =>
                Goes.leaf)) (fun hk =>
              Goes.leaf)) (fun hk =>
            Goes.nok hk)) (fun hk =>
          Goes.nok hk))) (fun hk =>
      Goes.nok hk))
def R_law26_WeaveRaw : Bool → AV := fun (r : Bool) => .d .bool r
def S_law26_WeaveRaw (p : El T_api_Prog) : Empty → Nat × St := fun j => nomatch j
theorem en_law26_WeaveRaw (p : El T_api_Prog) (L : Lt) : entryA Go.Proofs.Tryd.prog (clOf t_law26_WeaveRaw) tb_law26_WeaveRaw Go.Proofs.Tryd.f9 c_law26_WeaveRaw L (toForms sg_law26_WeaveRaw (p, ())) = (T0_law26_WeaveRaw p).run (fun v => some (R_law26_WeaveRaw v, tps (toForms sg_law26_WeaveRaw (p, ())))) fun j => L (S_law26_WeaveRaw p j).1 (S_law26_WeaveRaw p j).2 := by kernel_rfl
theorem lp_law26_WeaveRaw (p : El T_api_Prog) : ∀ (L : Lt) (j : Empty), procOf (procsF Go.Proofs.Tryd.prog (clOf t_law26_WeaveRaw) tb_law26_WeaveRaw Go.Proofs.Tryd.f9 c_law26_WeaveRaw (toForms sg_law26_WeaveRaw (p, ()))) (S_law26_WeaveRaw p j).1 L (S_law26_WeaveRaw p j).2 = (T_law26_WeaveRaw p j).run (fun v => some (R_law26_WeaveRaw v, tps (toForms sg_law26_WeaveRaw (p, ())))) fun j => L (S_law26_WeaveRaw p j).1 (S_law26_WeaveRaw p j).2 := fun L j => nomatch j
noncomputable def e_law26_WeaveRaw : Run := entG sg_law26_WeaveRaw R_law26_WeaveRaw (fun a => k_law26_WeaveRaw a.1) (fun a => v_law26_WeaveRaw a.1)
theorem ok_law26_WeaveRaw : EntOK Go.Proofs.Tryd.prog 9 e_law26_WeaveRaw := entG_ok (tb := tb_law26_WeaveRaw) (c := c_law26_WeaveRaw) tk_law26_WeaveRaw (by kernel_rfl) (by kernel_rfl) (by kernel_rfl) (fun a => by kernel_rfl) fun ⟨p, _⟩ hk => evF_goes (c := c_law26_WeaveRaw) (K := fun v => (R_law26_WeaveRaw v, tps (toForms sg_law26_WeaveRaw (p, ())))) (S := S_law26_WeaveRaw p) (by kernel_rfl) (en_law26_WeaveRaw p) (lp_law26_WeaveRaw p) (g_law26_WeaveRaw p hk)
theorem co_law26_WeaveRaw (p : El T_api_Prog) (hk : k_law26_WeaveRaw p = true) : CallOK Go.Proofs.Tryd.prog 9 (toForms sg_law26_WeaveRaw (p, ())) (R_law26_WeaveRaw (v_law26_WeaveRaw p), tps (toForms sg_law26_WeaveRaw (p, ()))) := by
  obtain ⟨h1, h2⟩ := clOf_ok tk_law26_WeaveRaw
  obtain ⟨n, hn⟩ := evF_goes (c := c_law26_WeaveRaw) (K := fun v => (R_law26_WeaveRaw v, tps (toForms sg_law26_WeaveRaw (p, ())))) (S := S_law26_WeaveRaw p) (by kernel_rfl) (en_law26_WeaveRaw p) (lp_law26_WeaveRaw p) (g_law26_WeaveRaw p hk)
  exact evF_sound (f := 9) (c := c_law26_WeaveRaw) h1 h2 (by kernel_rfl) (by kernel_rfl) (by kernel_rfl) hn
end Go.Ev
end

section
set_option linter.unusedSectionVars false
set_option linter.unusedVariables false
set_option linter.unusedSimpArgs false
set_option maxRecDepth 100000
set_option linter.unusedVariables false
namespace Go.Ev
open Go
theorem great_few {p : El T_api_Prog} (h : v_book_Great p = false) : Few p 72 := by
  unfold v_book_Great at h
  simp only [Bool.or_eq_false_iff, decide_eq_false_iff_not, List.any_eq_false, Bool.not_eq_true] at h
  obtain ⟨a, b, c, d⟩ := h
  have len : ∀ t ∈ p.2, List.length t ≤ 12 := fun t hm => by
    have := d t hm
    unfold v_book_GreatThread at this
    simp only [Bool.or_eq_false_iff, decide_eq_false_iff_not] at this
    omega
  refine ⟨by omega, fun s hs => ?_, by omega, fun t ht => by have := len t ht; omega, fun t ht => ?_⟩
  · have := c s hs
    omega
  · have hd := d t ht
    unfold v_book_GreatThread at hd
    simp only [Bool.or_eq_false_iff, decide_eq_false_iff_not, List.any_eq_false, Bool.not_eq_true] at hd
    have := labels_le (t := t) (n := 6) fun i hi => (great_ins (hd.2 i hi)).1
    have := len t ht
    omega
theorem true_law26_WeaveRaw (p : El T_api_Prog) : k_law26_WeaveRaw p = true ∧ v_law26_WeaveRaw p = true := by
  unfold k_law26_WeaveRaw v_law26_WeaveRaw
  cases hg : v_book_Great p with
  | true => simp only [alive26.1, alive26.2, cond_true, and_self]
  | false =>
    have hs := great_prog hg
    have hf := great_few hg
    have hkc : k_ref1_Check p = true := hs
    by_cases hc : checkC p = 0
    · have e : (v_ref1_Check p == (0 : Int)) = true := by show (checkC p == (0 : Int)) = true; rw [hc]; rfl
      simp only [hkc, e, alive26.1, alive26.2, cond_true, cond_false, and_self]
    · have e : (v_ref1_Check p == (0 : Int)) = false := by show (checkC p == (0 : Int)) = false; simpa using hc
      have k1 : k_weave_In p [] = true := by unfold k_weave_In; rw [hs, few_copy hf (by omega)]; rfl
      have k2 : k_weave_Out p [] = true := by unfold k_weave_Out; rw [hs, few_copy hf (by omega)]; rfl
      have v1 : v_weave_In p [] = (noProg, false) := by show inC p [] = _; unfold inC; rw [if_pos (.inl hc)]
      have v2 : v_weave_Out p [] = (noProg, false) := by show outC p [] = _; unfold outC; rw [if_pos (.inl hc)]
      have k3 : k_ref1_SameProg noProg ([], []) = true := by unfold k_ref1_SameProg; rw [Bool.and_eq_true]; exact ⟨same_iff.2 rfl, rfl⟩
      have v3 : ∀ a b, v_ref1_SameProg a b = true := fun _ _ => rfl
      simp only [hkc, e, k1, k2, v1, v2, k3, v3, alive26.1, alive26.2, cond_true, cond_false, Bool.not_false, and_self]
theorem call_law26_WeaveRaw (a : Args sg_law26_WeaveRaw) (ha : smallArgs sg_law26_WeaveRaw a) : CallOK Go.Proofs.Tryd.prog fid_law26_WeaveRaw (toForms sg_law26_WeaveRaw a) (.d .bool true, tps (toForms sg_law26_WeaveRaw a)) := by
  obtain ⟨p, _⟩ := a
  obtain ⟨hk, hv⟩ := true_law26_WeaveRaw p
  have := co_law26_WeaveRaw p hk
  rw [hv] at this
  exact this
end Go.Ev
end

/- Part of the proof of: To which accesses a chain leads back is what the document says, of any program that is not great, also one that may not be: for every input the law answers true. -/
import Derived.Test.YtgdfhjnbdmgjmaaGreatDoorCon1
section
set_option linter.unusedSectionVars false
set_option linter.unusedVariables false
set_option linter.unusedSimpArgs false
set_option maxRecDepth 100000
set_option linter.unusedVariables false
open Go Go.Ev
namespace Go.Ev
noncomputable section
/-! ### paling/palingref1.thread -/
def sg_ref1_thread : Sig := [(true, T_api_Prog), (true, (.sl T_api_Ins))]
noncomputable def t_ref1_thread : Tbl := [(88, e_ref1_Count), (68, e_ref1_Right), (89, e_ref1_index), (57, e_ref1_InsRight), (90, e_ref1_operand), (79, e_ref1_Jumps), (91, e_ref1_Find)]
theorem tk_ref1_thread : ∀ p ∈ t_ref1_thread, EntOK Go.Proofs.Tryz.prog p.1 p.2 := tbl_cons ok_ref1_Count (tbl_cons ok_ref1_Right (tbl_cons ok_ref1_index (tbl_cons ok_ref1_InsRight (tbl_cons ok_ref1_operand (tbl_cons ok_ref1_Jumps (tbl_cons ok_ref1_Find (tbl_nil)))))))
noncomputable def c_ref1_thread : Code := Go.Proofs.Tryz.f69.body.getD .skip
def tb_ref1_thread : Tb := [(7, ⟨[2, 3, 5, 6], [(6, 118)]⟩), (14, ⟨[2, 3, 5, 6, 7, 8], [(6, 118)]⟩), (44, ⟨[3, 13], []⟩)]
inductive J_ref1_thread where
  | l7 (i : Int) (seen : List ByteArray)
  | l14 (x : Int) (x1 : Bool) (x2 : Int) (x3 : Int) (x4 : Int) (x5 : Int) (x6 : Int) (x7 : Int) (x8 : Int) (x9 : Int) (x10 : Int) (x11 : ByteArray) (x12 : List ByteArray) (k : Int) (seen : List ByteArray) (i : Int)
  | l44 (i : Int)
def T_ref1_thread (p : El T_api_Prog) (t : List (El T_api_Ins)) : J_ref1_thread → JT J_ref1_thread (Int)
  | .l7 i seen =>
    .br (decide (i < (Int.ofNat (List.length t))))
      (.br ((decide ((0 : Int) ≤ i)) && (decide (i < (Int.ofNat (List.length t)))))
        (.jmp (.l14 (List.getD t (Int.toNat i) (dflt T_api_Ins)).1 (List.getD t (Int.toNat i) (dflt T_api_Ins)).2.1 (List.getD t (Int.toNat i) (dflt T_api_Ins)).2.2.1 (List.getD t (Int.toNat i) (dflt T_api_Ins)).2.2.2.1.1 (List.getD t (Int.toNat i) (dflt T_api_Ins)).2.2.2.1.2.1 (List.getD t (Int.toNat i) (dflt T_api_Ins)).2.2.2.1.2.2.1 (List.getD t (Int.toNat i) (dflt T_api_Ins)).2.2.2.1.2.2.2 (List.getD t (Int.toNat i) (dflt T_api_Ins)).2.2.2.2.1.1 (List.getD t (Int.toNat i) (dflt T_api_Ins)).2.2.2.2.1.2.1 (List.getD t (Int.toNat i) (dflt T_api_Ins)).2.2.2.2.1.2.2.1 (List.getD t (Int.toNat i) (dflt T_api_Ins)).2.2.2.2.1.2.2.2 (List.getD t (Int.toNat i) (dflt T_api_Ins)).2.2.2.2.2.1 (List.getD t (Int.toNat i) (dflt T_api_Ins)).2.2.2.2.2.2 (0 : Int) seen i))
      (.no))
    (.br ((Int.ofNat (List.length t)) == (0 : Int))
      (.leaf (9 : Int))
    (.br ((decide ((0 : Int) ≤ (IntKind.i64.wrap ((Int.ofNat (List.length t)) - (1 : Int))))) && (decide ((IntKind.i64.wrap ((Int.ofNat (List.length t)) - (1 : Int))) < (Int.ofNat (List.length t)))))
      (.br ((List.getD t (Int.toNat (IntKind.i64.wrap ((Int.ofNat (List.length t)) - (1 : Int)))) (dflt T_api_Ins)).1 != (10 : Int))
        (.br ((List.getD t (Int.toNat (IntKind.i64.wrap ((Int.ofNat (List.length t)) - (1 : Int)))) (dflt T_api_Ins)).1 != (14 : Int))
          (.leaf (9 : Int))
        (.jmp (.l44 (0 : Int))))
      (.jmp (.l44 (0 : Int))))
    (.no)))
  | .l14 x x1 x2 x3 x4 x5 x6 x7 x8 x9 x10 x11 x12 k seen i =>
    .br (decide (k < (Int.ofNat (List.length x12))))
      (.br ((decide ((0 : Int) ≤ k)) && (decide (k < (Int.ofNat (List.length x12)))))
        (.br (k_ref1_Right (List.getD x12 (Int.toNat k) (dflt .str)))
          (.br (! (v_ref1_Right (List.getD x12 (Int.toNat k) (dflt .str))))
            (.leaf (3 : Int))
          (.br ((decide ((0 : Int) ≤ k)) && (decide (k < (Int.ofNat (List.length x12)))))
            (.br (k_ref1_index seen (List.getD x12 (Int.toNat k) (dflt .str)))
              (.br (decide ((v_ref1_index seen (List.getD x12 (Int.toNat k) (dflt .str))) ≥ (0 : Int)))
                (.leaf (6 : Int))
              (.br ((decide ((0 : Int) ≤ k)) && (decide (k < (Int.ofNat (List.length x12)))))
                (.br (Nat.ble (((List.length seen) + 1) * 16) limit)
                  (.jmp (.l14 x x1 x2 x3 x4 x5 x6 x7 x8 x9 x10 x11 x12 (IntKind.i64.wrap (k + (1 : Int))) (seen ++ [(List.getD x12 (Int.toNat k) (dflt .str))]) i))
                (.no))
              (.no)))
            (.no))
          (.no)))
        (.no))
      (.no))
    (.br (k_ref1_InsRight (x, (x1, (x2, ((x3, (x4, (x5, x6))), ((x7, (x8, (x9, x10))), (x11, x12)))))))
      (.br ((v_ref1_InsRight (x, (x1, (x2, ((x3, (x4, (x5, x6))), ((x7, (x8, (x9, x10))), (x11, x12))))))) != (0 : Int))
        (.leaf (v_ref1_InsRight (x, (x1, (x2, ((x3, (x4, (x5, x6))), ((x7, (x8, (x9, x10))), (x11, x12))))))))
      (.br (k_ref1_operand p (x3, (x4, (x5, x6))))
        (.br ((v_ref1_operand p (x3, (x4, (x5, x6)))) != (0 : Int))
          (.leaf (v_ref1_operand p (x3, (x4, (x5, x6)))))
        (.br (k_ref1_operand p (x7, (x8, (x9, x10))))
          (.br ((v_ref1_operand p (x7, (x8, (x9, x10)))) != (0 : Int))
            (.leaf (v_ref1_operand p (x7, (x8, (x9, x10)))))
          (.jmp (.l7 (IntKind.i64.wrap (i + (1 : Int))) seen)))
        (.no)))
      (.no)))
    (.no))
  | .l44 i =>
    .br (decide (i < (Int.ofNat (List.length t))))
      (.br ((decide ((0 : Int) ≤ i)) && (decide (i < (Int.ofNat (List.length t)))))
        (.br (v_ref1_Jumps (List.getD t (Int.toNat i) (dflt T_api_Ins)).1)
          (.br ((decide ((0 : Int) ≤ i)) && (decide (i < (Int.ofNat (List.length t)))))
            (.br (k_ref1_Find t (List.getD t (Int.toNat i) (dflt T_api_Ins)).2.2.2.2.2.1)
              (.br (decide ((v_ref1_Find t (List.getD t (Int.toNat i) (dflt T_api_Ins)).2.2.2.2.2.1) < (0 : Int)))
                (.leaf (7 : Int))
              (.jmp (.l44 (IntKind.i64.wrap (i + (1 : Int))))))
            (.no))
          (.no))
        (.jmp (.l44 (IntKind.i64.wrap (i + (1 : Int))))))
      (.no))
    (.leaf (0 : Int))
def T0_ref1_thread (p : El T_api_Prog) (t : List (El T_api_Ins)) : JT J_ref1_thread (Int) :=
  .br (k_ref1_Count t)
    (.br (decide ((v_ref1_Count t) > (4096 : Int)))
      (.leaf (10 : Int))
    (.jmp (.l7 (0 : Int) [])))
  (.no)
def R_ref1_thread : Int → AV := fun (r : Int) => .d (.int .i64) r
def S_ref1_thread (p : El T_api_Prog) (t : List (El T_api_Ins)) : J_ref1_thread → Nat × St
  | .l7 i seen => (7, ⟨mkTm 122 [(2, .pt 3 0 0), (3, .pt 4 0 0), (5, .own 6 0 none), (6, .d (.int .i64) i)], [(3, 0, .box 26 [.d (.sl T_api_Sym) p.1, .d (.sl (.sl T_api_Ins)) p.2] none), (4, 0, .box 48 [.d (.sl T_api_Ins) t] none), (6, 0, .row 9 .str seen false)]⟩)
  | .l14 x x1 x2 x3 x4 x5 x6 x7 x8 x9 x10 x11 x12 k seen i => (14, ⟨mkTm 122 [(2, .pt 3 0 0), (3, .pt 4 0 0), (5, .own 6 0 none), (6, .d (.int .i64) i), (7, .pt 8 0 0), (8, .d (.int .i64) k)], [(3, 0, .box 26 [.d (.sl T_api_Sym) p.1, .d (.sl (.sl T_api_Ins)) p.2] none), (4, 0, .box 48 [.d (.sl T_api_Ins) t] none), (6, 0, .row 9 .str seen false), (8, 0, .box 61 [.d (.int .i64) x, .d .bool x1, .d (.int .i64) x2, .d (.int .i64) x3, .d (.int .i64) x4, .d (.int .i64) x5, .d (.int .i64) x6, .d (.int .i64) x7, .d (.int .i64) x8, .d (.int .i64) x9, .d (.int .i64) x10, .d .str x11, .d (.sl .str) x12] none)]⟩)
  | .l44 i => (44, ⟨mkTm 122 [(3, .pt 4 0 0), (13, .d (.int .i64) i)], [(4, 0, .box 48 [.d (.sl T_api_Ins) t] none)]⟩)
theorem en_ref1_thread (p : El T_api_Prog) (t : List (El T_api_Ins)) (L : Lt) : entryA Go.Proofs.Tryz.prog (clOf t_ref1_thread) tb_ref1_thread Go.Proofs.Tryz.f69 c_ref1_thread L (toForms sg_ref1_thread (p, t, ())) = (T0_ref1_thread p t).run (fun v => some (R_ref1_thread v, tps (toForms sg_ref1_thread (p, t, ())))) fun j => L (S_ref1_thread p t j).1 (S_ref1_thread p t j).2 := by kernel_rfl
theorem lp_ref1_thread (p : El T_api_Prog) (t : List (El T_api_Ins)) : ∀ (L : Lt) (j : J_ref1_thread), procOf (procsF Go.Proofs.Tryz.prog (clOf t_ref1_thread) tb_ref1_thread Go.Proofs.Tryz.f69 c_ref1_thread (toForms sg_ref1_thread (p, t, ()))) (S_ref1_thread p t j).1 L (S_ref1_thread p t j).2 = (T_ref1_thread p t j).run (fun v => some (R_ref1_thread v, tps (toForms sg_ref1_thread (p, t, ())))) fun j => L (S_ref1_thread p t j).1 (S_ref1_thread p t j).2
  | L, .l7 i seen => by kernel_rfl
  | L, .l14 x x1 x2 x3 x4 x5 x6 x7 x8 x9 x10 x11 x12 k seen i => by kernel_rfl
  | L, .l44 i => by kernel_rfl
end
end Go.Ev
end

section
set_option linter.unusedSectionVars false
set_option linter.unusedVariables false
set_option linter.unusedSimpArgs false
set_option linter.unusedVariables false
set_option linter.unusedSimpArgs false
open Go
namespace Go.Ev
def v_ref1_thread (p : El T_api_Prog) (t : List (El T_api_Ins)) : Int := threadC p t
def k_ref1_thread (p : El T_api_Prog) (t : List (El T_api_Ins)) : Bool := smallThread t
theorem operand_eq' (len : Nat) (size : Int → Int) (k s n : Int) (h : (k = 3 ∨ k = 4) → 0 ≤ s) :
  (bif (! (decide (k = 3) || decide (k = 4))) then
    (0 : Int)
  else bif (decide (s ≥ (Int.ofNat len))) then
    (7 : Int)
  else bif (k == (3 : Int)) then
    bif ((decide ((0 : Int) ≤ s)) && (decide (s < (Int.ofNat len)))) then
      bif (decide (n ≥ size s)) then
        (8 : Int)
      else (0 : Int)
    else (0 : Int)
  else (0 : Int)) = placeN len size k s n ∧
  (bif (! (decide (k = 3) || decide (k = 4))) then
    true
  else bif (decide (s ≥ (Int.ofNat len))) then
    true
  else bif (k == (3 : Int)) then
    bif ((decide ((0 : Int) ≤ s)) && (decide (s < (Int.ofNat len)))) then
      bif (decide (n ≥ size s)) then
        true
      else true
    else false
  else true) = true := by
  unfold placeN
  by_cases h3 : k = 3
  · have h0 := h (.inl h3)
    subst h3
    by_cases hl : (len : Int) ≤ s
    · simp [hl]
    have h2 : s < (len : Int) := by omega
    have h1 : ¬ s < 0 := by omega
    by_cases hn : size s ≤ n
    · simp [hl, hn, h0, h1, h2]
    · simp [hl, hn, h0, h1, h2]
  by_cases h4 : k = 4
  · have h0 := h (.inr h4)
    subst h4
    have h1 : ¬ s < 0 := by omega
    by_cases hl : (len : Int) ≤ s
    · simp [hl]
    simp [hl, h1]
  simp [h3, h4]
theorem operand_eq (p : El T_api_Prog) (o : El T_api_Opd) (h : ∀ k s : Int, o.1 = k → o.2.2.1 = s → (k = 3 ∨ k = 4) → 0 ≤ s) : v_ref1_operand p o = placeC p o ∧ k_ref1_operand p o = true := by
  have := operand_eq' p.1.length (fun s => (List.getD p.1 s.toNat (dflt T_api_Sym)).2.1) o.1 o.2.2.1 o.2.2.2 (h _ _ rfl rfl)
  unfold v_ref1_operand k_ref1_operand
  rw [refMemory_eq]
  exact this
theorem right_sym' {k r s n : Int} (h : v_opnd_Right (k, r, s, n) = true) (hk : k = 3 ∨ k = 4) : 0 ≤ s := by
  unfold v_opnd_Right at h
  rcases hk with rfl | rfl
  · by_cases hs : 0 ≤ s
    · exact hs
    · simp [hs] at h
  · by_cases hs : 0 ≤ s
    · exact hs
    · simp [hs] at h
theorem opds_ok {i : El T_api_Ins} (hr : v_ins_Right i = 0) : (∀ k s : Int, i.2.2.2.1.1 = k → i.2.2.2.1.2.2.1 = s → (k = 3 ∨ k = 4) → 0 ≤ s) ∧ ∀ k s : Int, i.2.2.2.2.1.1 = k → i.2.2.2.2.1.2.2.1 = s → (k = 3 ∨ k = 4) → 0 ≤ s := by
  obtain ⟨h1, h14, hrow⟩ := right0_row hr
  rcases nine i.1 with ⟨h9, _⟩ | ⟨h9, _⟩
  · obtain ⟨a, b⟩ := row_low hrow h1 h9
    exact ⟨fun k s hk hs h => hs ▸ right_sym' (k := i.2.2.2.1.1) (r := i.2.2.2.1.2.1) (s := i.2.2.2.1.2.2.1) (n := i.2.2.2.1.2.2.2) a (hk ▸ h), fun k s hk hs h => hs ▸ right_sym' (k := i.2.2.2.2.1.1) (r := i.2.2.2.2.1.2.1) (s := i.2.2.2.2.1.2.2.1) (n := i.2.2.2.2.1.2.2.2) b (hk ▸ h)⟩
  · obtain ⟨a, b⟩ := row_high hrow h9
    refine ⟨fun k s hk hs h => ?_, fun k s hk hs h => ?_⟩
    · have : k = 0 := hk ▸ a
      omega
    · have : k = 0 := hk ▸ b
      omega
theorem g_ref1_thread (p : El T_api_Prog) (t : List (El T_api_Ins)) (hk : k_ref1_thread p t = true) : Goes (T_ref1_thread p t) (T0_ref1_thread p t) (v_ref1_thread p t) := by
  have hS := smallT hk
  have hn := hS.len
  have hkf : ∀ l, k_ref1_Find t l = true := fun l => by
    unfold k_ref1_Find
    simp only [Bool.and_eq_true, decide_eq_true_eq, List.all_eq_true]
    exact ⟨hn, fun i hi => Nat.lt_of_le_of_lt (labels_mem hi) hS.labs⟩
  have jmps : ∀ k, k ≤ t.length → Goes (T_ref1_thread p t) (.jmp (.l44 (k : Int))) (jumpC (labels t) (t.drop k)) := by
    refine down ?_ fun k hk ih => ?_
    · rw [goes_jmp]
      simp only [T_ref1_thread, goes_br, lt_len_not (Nat.lt_irrefl _), goes_leaf, List.drop_length]
      simp [jumpC]
    · rw [goes_jmp]
      simp only [T_ref1_thread, goes_br, lt_len hk, nng, Bool.and_self, if_true, Int.toNat_natCast, getD_lt hk, wrap_succ (k := k) (by omega), hkf, jumps_eq]
      have hfi : decide (v_ref1_Find t t[k].2.2.2.2.2.1 < 0) = ! (labels t).contains t[k].2.2.2.2.2.1 := findI_neg
      rw [hfi, drop_cons hk]
      unfold jumpC
      by_cases h1 : ((t[k].1 == (10 : Int)) || (t[k].1 == (11 : Int))) = true
      · rw [if_pos h1, if_pos h1]
        by_cases h2 : (labels t).contains t[k].2.2.2.2.2.1 = true
        · rw [if_pos h2, if_neg (by rw [h2]; decide)]; exact ih
        · rw [if_neg h2, if_pos (by rw [Bool.eq_false_iff.2 h2]; rfl)]; exact .leaf
      · rw [if_neg h1, if_neg h1]; exact ih
  have main : ∀ k, k ≤ t.length → Goes (T_ref1_thread p t) (.jmp (.l7 (k : Int) (labels (t.take k)))) (scanI p (fun seen => endC t (jumpC seen t)) (labels (t.take k)) (t.drop k)) := by
    refine down ?_ fun k hk ih => ?_
    · have hj := jmps 0 (Nat.zero_le _)
      rw [List.drop_zero] at hj
      rw [goes_jmp, List.drop_length, List.take_length]
      unfold scanI
      simp only [T_ref1_thread, goes_br, lt_len_not (Nat.lt_irrefl _)]
      rw [if_neg (by decide)]
      by_cases h0 : t.length = 0
      · have : t = [] := List.eq_nil_of_length_eq_zero h0
        rw [this]; simp [goes_leaf, endC]
      · have hp : 0 < t.length := by omega
        rw [if_neg (by simp; exact fun e => h0 (by rw [e]; rfl)), endC_eq hp]
        rw [show Int.ofNat t.length = (t.length : Int) from rfl, wrap_pred (k := t.length) (by omega) hp]
        have hb : (decide (0 ≤ ((t.length - 1 : Nat) : Int)) && decide (((t.length - 1 : Nat) : Int) < (t.length : Int))) = true := by simp; omega
        simp only [hb, if_true, Int.toNat_natCast, getD_lt (show t.length - 1 < t.length by omega)]
        unfold bne
        cases h10 : (t[t.length - 1].1 == (10 : Int)) with
        | true => simpa using hj
        | false =>
          cases h14 : (t[t.length - 1].1 == (14 : Int)) with
          | true => simpa using hj
          | false => simp [goes_leaf]
    · have hmem : t[k] ∈ t := List.getElem_mem hk
      have hto := hS.to _ hmem
      have hlab := hS.lab _ hmem
      have hlen := Nat.lt_of_le_of_lt (labels_mem hmem) hS.labs
      have htk : labels (t.take (k + 1)) = labels (t.take k) ++ t[k].2.2.2.2.2.2 := by
        unfold labels
        rw [List.take_add_one, List.getElem?_eq_getElem hk, List.flatMap_append]
        simp
      have hall : labels t = labels (t.take (k + 1)) ++ labels (t.drop (k + 1)) := by
        unfold labels
        rw [← List.flatMap_append, List.take_append_drop]
      have hlt : (labels (t.take (k + 1))).length < 1099511627776 := by
        have := hS.labs
        rw [hall, List.length_append] at this
        omega
      rw [goes_jmp]
      simp only [T_ref1_thread, goes_br, lt_len hk, nng, Bool.and_self, if_true, Int.toNat_natCast, getD_lt hk]
      rw [drop_cons hk]
      unfold scanI
      rw [htk] at ih hlt
      generalize t[k] = i at hto hlab hlen htk ih hlt
      obtain ⟨op, lock, cond, ⟨ak, ar, ay, an⟩, ⟨bk, br, bz, bn⟩, to, ls⟩ := i
      dsimp only at hto hlab hlen htk ih hlt ⊢
      have inner : ∀ j, j ≤ ls.length → Goes (T_ref1_thread p t) (.jmp (.l14 op lock cond ak ar ay an bk br bz bn to ls (j : Int) (labels (t.take k) ++ ls.take j) (k : Int))) (scanL (labels (t.take k) ++ ls.take j) (fun seen => if insC p (op, (lock, (cond, ((ak, (ar, (ay, an))), ((bk, (br, (bz, bn))), (to, ls)))))) ≠ 0 then insC p (op, (lock, (cond, ((ak, (ar, (ay, an))), ((bk, (br, (bz, bn))), (to, ls)))))) else scanI p (fun seen => endC t (jumpC seen t)) seen (t.drop (k + 1))) (ls.drop j)) := by
        refine down ?_ fun j hj ihj => ?_
        · rw [goes_jmp, List.drop_length, List.take_length]
          unfold scanL
          have hkr : k_ref1_InsRight (op, (lock, (cond, ((ak, (ar, (ay, an))), ((bk, (br, (bz, bn))), (to, ls)))))) = true := hto
          simp only [T_ref1_thread, goes_br, lt_len_not (Nat.lt_irrefl _), hkr, if_true, wrap_succ (k := k) (by omega)]
          rw [if_neg (by decide)]
          unfold insC v_ref1_InsRight
          dsimp only
          by_cases hr : v_ins_Right (op, (lock, (cond, ((ak, (ar, (ay, an))), ((bk, (br, (bz, bn))), (to, ls)))))) = 0
          · obtain ⟨oa, ob⟩ := opds_ok hr
            obtain ⟨a1, a2⟩ := operand_eq p (ak, (ar, (ay, an))) oa
            obtain ⟨b1, b2⟩ := operand_eq p (bk, (br, (bz, bn))) ob
            by_cases ha : placeC p (ak, (ar, (ay, an))) = 0
            · by_cases hb : placeC p (bk, (br, (bz, bn))) = 0
              · simp [hr, ha, hb, a1, a2, b1, b2]; exact ih
              · simp [hr, ha, hb, a1, a2, b1, b2, goes_leaf]
            · simp [hr, ha, a1, a2, goes_leaf]
          · simp [hr, goes_leaf]
        · have hl := hlab ls[j] (List.getElem_mem hj)
          have hkn : k_ref1_Right ls[j] = true := hl
          have hsl : (labels (t.take k) ++ ls.take j).length < 1099511627776 := by
            rw [List.length_append] at hlt ⊢
            rw [List.length_take]
            omega
          have hki : k_ref1_index (labels (t.take k) ++ ls.take j) ls[j] = true := decide_eq_true (by omega)
          have hap : Nat.ble (((labels (t.take k) ++ ls.take j).length + 1) * 16) limit = true := by apply Nat.ble_eq_true_of_le; unfold limit; omega
          have htj : labels (t.take k) ++ ls.take (j + 1) = (labels (t.take k) ++ ls.take j) ++ [ls[j]] := by
            rw [List.take_add_one, List.getElem?_eq_getElem hj, List.append_assoc]; rfl
          rw [htj] at ihj
          rw [goes_jmp]
          simp only [T_ref1_thread, goes_br, lt_len hj, nng, Bool.and_self, if_true, Int.toNat_natCast, getD_lt hj, wrap_succ (k := j) (by omega), hkn, hki, hap, index_contains]
          rw [drop_cons hj]
          unfold scanL
          by_cases h1 : nameRight ls[j] = false
          · rw [if_pos h1, if_pos (by show (! nameRight ls[j]) = true; rw [h1]; rfl)]; exact .leaf
          · rw [if_neg h1, if_neg (by show ¬ (! nameRight ls[j]) = true; simpa using h1)]
            by_cases h2 : (labels (t.take k) ++ ls.take j).contains ls[j] = true
            · rw [if_pos h2, if_pos h2]; exact .leaf
            · rw [if_neg h2, if_neg h2]; exact ihj
      have := inner 0 (Nat.zero_le _)
      rw [List.drop_zero, List.take_zero, List.append_nil] at this
      exact this
  unfold T0_ref1_thread v_ref1_thread
  have hkc : k_ref1_Count t = true := decide_eq_true hn
  simp only [goes_br, hkc, if_true]
  unfold threadC v_ref1_Count
  by_cases h : 4096 < countM t
  · rw [if_pos (by simp; omega), if_pos h]; exact .leaf
  · rw [if_neg (by simp; omega), if_neg h]
    exact main 0 (Nat.zero_le _)
end Go.Ev
end

section
set_option linter.unusedSectionVars false
set_option linter.unusedVariables false
set_option linter.unusedSimpArgs false
set_option maxRecDepth 100000
set_option linter.unusedVariables false
open Go Go.Ev
namespace Go.Ev
noncomputable section
noncomputable def e_ref1_thread : Run := entG sg_ref1_thread R_ref1_thread (fun a => k_ref1_thread a.1 a.2.1) (fun a => v_ref1_thread a.1 a.2.1)
theorem ok_ref1_thread : EntOK Go.Proofs.Tryz.prog 69 e_ref1_thread := entG_ok (tb := tb_ref1_thread) (c := c_ref1_thread) tk_ref1_thread (by kernel_rfl) (by kernel_rfl) (by kernel_rfl) (fun a => by kernel_rfl) fun ⟨p, t, _⟩ hk => evF_goes (c := c_ref1_thread) (K := fun v => (R_ref1_thread v, tps (toForms sg_ref1_thread (p, t, ())))) (S := S_ref1_thread p t) (by kernel_rfl) (en_ref1_thread p t) (lp_ref1_thread p t) (g_ref1_thread p t hk)
end
end Go.Ev
end

section
set_option linter.unusedSectionVars false
set_option linter.unusedVariables false
set_option linter.unusedSimpArgs false
set_option maxRecDepth 100000
set_option linter.unusedVariables false
open Go Go.Ev
namespace Go.Ev
noncomputable section
/-! ### paling/palingref1.Check -/
def sg_ref1_Check : Sig := [(true, T_api_Prog)]
noncomputable def t_ref1_Check : Tbl := [(68, e_ref1_Right), (69, e_ref1_thread)]
theorem tk_ref1_Check : ∀ p ∈ t_ref1_Check, EntOK Go.Proofs.Tryz.prog p.1 p.2 := tbl_cons ok_ref1_Right (tbl_cons ok_ref1_thread (tbl_nil))
noncomputable def c_ref1_Check : Code := Go.Proofs.Tryz.f39.body.getD .skip
def tb_ref1_Check : Tb := [(6, ⟨[1, 3], []⟩), (16, ⟨[1, 3, 4, 5], []⟩), (26, ⟨[1, 6], []⟩)]
inductive J_ref1_Check where
  | l6 (i : Int)
  | l16 (x : ByteArray) (x1 : Int) (x2 : List Int) (i : Int) (k : Int)
  | l26 (i : Int)
def T_ref1_Check (p : El T_api_Prog) : J_ref1_Check → JT J_ref1_Check (Int)
  | .l6 i =>
    .br (decide (i < (Int.ofNat (List.length p.1))))
      (.br ((decide ((0 : Int) ≤ i)) && (decide (i < (Int.ofNat (List.length p.1)))))
        (.br (k_ref1_Right (List.getD p.1 (Int.toNat i) (dflt T_api_Sym)).1)
          (.br (! (v_ref1_Right (List.getD p.1 (Int.toNat i) (dflt T_api_Sym)).1))
            (.leaf (3 : Int))
          (.jmp (.l16 (List.getD p.1 (Int.toNat i) (dflt T_api_Sym)).1 (List.getD p.1 (Int.toNat i) (dflt T_api_Sym)).2.1 (List.getD p.1 (Int.toNat i) (dflt T_api_Sym)).2.2 i (0 : Int))))
        (.no))
      (.no))
    (.jmp (.l26 (0 : Int)))
  | .l16 x x1 x2 i k =>
    .br (decide (k < i))
      (.br ((decide ((0 : Int) ≤ k)) && (decide (k < (Int.ofNat (List.length p.1)))))
        (.br (eqB (List.getD p.1 (Int.toNat k) (dflt T_api_Sym)).1 x)
          (.leaf (6 : Int))
        (.jmp (.l16 x x1 x2 i (IntKind.i64.wrap (k + (1 : Int))))))
      (.no))
    (.br (decide (x1 < (1 : Int)))
      (.leaf (5 : Int))
    (.br (decide (x1 > (64 : Int)))
      (.leaf (5 : Int))
    (.br (decide ((Int.ofNat (List.length x2)) > x1))
      (.leaf (5 : Int))
    (.jmp (.l6 (IntKind.i64.wrap (i + (1 : Int))))))))
  | .l26 i =>
    .br (decide (i < (Int.ofNat (List.length p.2))))
      (.br ((decide ((0 : Int) ≤ i)) && (decide (i < (Int.ofNat (List.length p.2)))))
        (.br (k_ref1_thread p (List.getD p.2 (Int.toNat i) (dflt (.sl T_api_Ins))))
          (.br ((v_ref1_thread p (List.getD p.2 (Int.toNat i) (dflt (.sl T_api_Ins)))) != (0 : Int))
            (.leaf (v_ref1_thread p (List.getD p.2 (Int.toNat i) (dflt (.sl T_api_Ins)))))
          (.jmp (.l26 (IntKind.i64.wrap (i + (1 : Int))))))
        (.no))
      (.no))
    (.leaf (0 : Int))
def T0_ref1_Check (p : El T_api_Prog) : JT J_ref1_Check (Int) :=
  .br (decide ((Int.ofNat (List.length p.1)) > (64 : Int)))
    (.leaf (10 : Int))
  (.br (decide ((Int.ofNat (List.length p.2)) > (64 : Int)))
    (.leaf (10 : Int))
  (.jmp (.l6 (0 : Int))))
def R_ref1_Check : Int → AV := fun (r : Int) => .d (.int .i64) r
def S_ref1_Check (p : El T_api_Prog) : J_ref1_Check → Nat × St
  | .l6 i => (6, ⟨mkTm 81 [(1, .pt 2 0 0), (3, .d (.int .i64) i)], [(2, 0, .box 26 [.d (.sl T_api_Sym) p.1, .d (.sl (.sl T_api_Ins)) p.2] none)]⟩)
  | .l16 x x1 x2 i k => (16, ⟨mkTm 81 [(1, .pt 2 0 0), (3, .d (.int .i64) i), (4, .pt 5 0 0), (5, .d (.int .i64) k)], [(2, 0, .box 26 [.d (.sl T_api_Sym) p.1, .d (.sl (.sl T_api_Ins)) p.2] none), (5, 0, .box 67 [.d .str x, .d (.int .i64) x1, .d (.sl (.int .i64)) x2] none)]⟩)
  | .l26 i => (26, ⟨mkTm 81 [(1, .pt 2 0 0), (6, .d (.int .i64) i)], [(2, 0, .box 26 [.d (.sl T_api_Sym) p.1, .d (.sl (.sl T_api_Ins)) p.2] none)]⟩)
theorem en_ref1_Check (p : El T_api_Prog) (L : Lt) : entryA Go.Proofs.Tryz.prog (clOf t_ref1_Check) tb_ref1_Check Go.Proofs.Tryz.f39 c_ref1_Check L (toForms sg_ref1_Check (p, ())) = (T0_ref1_Check p).run (fun v => some (R_ref1_Check v, tps (toForms sg_ref1_Check (p, ())))) fun j => L (S_ref1_Check p j).1 (S_ref1_Check p j).2 := by kernel_rfl
theorem lp_ref1_Check (p : El T_api_Prog) : ∀ (L : Lt) (j : J_ref1_Check), procOf (procsF Go.Proofs.Tryz.prog (clOf t_ref1_Check) tb_ref1_Check Go.Proofs.Tryz.f39 c_ref1_Check (toForms sg_ref1_Check (p, ()))) (S_ref1_Check p j).1 L (S_ref1_Check p j).2 = (T_ref1_Check p j).run (fun v => some (R_ref1_Check v, tps (toForms sg_ref1_Check (p, ())))) fun j => L (S_ref1_Check p j).1 (S_ref1_Check p j).2
  | L, .l6 i => by kernel_rfl
  | L, .l16 x x1 x2 i k => by kernel_rfl
  | L, .l26 i => by kernel_rfl
end
end Go.Ev
end

section
set_option linter.unusedSectionVars false
set_option linter.unusedVariables false
set_option linter.unusedSimpArgs false
set_option linter.unusedVariables false
set_option linter.unusedSimpArgs false
open Go
namespace Go.Ev
def v_ref1_Check (p : El T_api_Prog) : Int := checkC p
def k_ref1_Check (p : El T_api_Prog) : Bool := smallProg p
theorem g_ref1_Check (p : El T_api_Prog) (hk : k_ref1_Check p = true) : Goes (T_ref1_Check p) (T0_ref1_Check p) (v_ref1_Check p) := by
  have hth : ∀ t ∈ p.2, smallThread t = true := by
    unfold k_ref1_Check smallProg at hk
    simp only [Bool.and_eq_true, List.all_eq_true] at hk
    exact hk.2
  have hsy : ∀ s ∈ p.1, smallText s.1 = true := by
    unfold k_ref1_Check smallProg at hk
    simp only [Bool.and_eq_true, List.all_eq_true] at hk
    exact hk.1
  obtain ⟨sy, th⟩ := p
  dsimp only at hth hsy
  have ths : th.length ≤ 64 → ∀ k, k ≤ th.length → Goes (T_ref1_Check (sy, th)) (.jmp (.l26 (k : Int))) (thsC (sy, th) (th.drop k)) := by
    intro hn
    refine down ?_ fun k hk ih => ?_
    · rw [goes_jmp]
      simp only [T_ref1_Check, goes_br, lt_len_not (Nat.lt_irrefl _), goes_leaf, List.drop_length]
      simp [thsC]
    · have hkt : k_ref1_thread (sy, th) th[k] = true := hth _ (List.getElem_mem hk)
      rw [goes_jmp]
      simp only [T_ref1_Check, goes_br, lt_len hk, nng, Bool.and_self, if_true, Int.toNat_natCast, getD_lt hk, wrap_succ (k := k) (by omega), hkt]
      rw [drop_cons hk]
      unfold thsC
      show (if (threadC (sy, th) th[k] != 0) = true then _ else _)
      by_cases h : threadC (sy, th) th[k] = 0
      · rw [if_neg (by simp [h]), if_neg (by simp [h])]; exact ih
      · rw [if_pos (by simp [h]), if_pos h]; exact .leaf

  have main : sy.length ≤ 64 → th.length ≤ 64 → ∀ k, k ≤ sy.length → Goes (T_ref1_Check (sy, th)) (.jmp (.l6 (k : Int))) (symsC (thsC (sy, th) th) ((sy.take k).map fun s => s.1) (sy.drop k)) := by
    intro hn hm
    refine down ?_ fun k hk ih => ?_
    · rw [goes_jmp, List.drop_length]
      unfold symsC
      simp only [T_ref1_Check, goes_br, lt_len_not (Nat.lt_irrefl _)]
      rw [if_neg (by decide)]
      simpa using ths hm 0 (Nat.zero_le _)
    · have hkn : k_ref1_Right sy[k].1 = true := hsy _ (List.getElem_mem hk)
      have htk : (sy.take (k + 1)).map (fun s => s.1) = (sy.take k).map (fun s => s.1) ++ [sy[k].1] := by
        rw [List.take_add_one, List.getElem?_eq_getElem hk, List.map_append]; rfl
      rw [htk] at ih
      rw [goes_jmp]
      simp only [T_ref1_Check, goes_br, lt_len hk, nng, Bool.and_self, if_true, Int.toNat_natCast, getD_lt hk, hkn]
      rw [drop_cons hk]
      unfold symsC
      generalize sy[k] = s at ih hkn
      obtain ⟨nm, size, init⟩ := s
      dsimp only at ih hkn ⊢
      change Int at size
      by_cases h1 : nameRight nm = false
      · rw [if_pos h1, if_pos (by show (! nameRight nm) = true; rw [h1]; rfl)]; exact .leaf
      rw [if_neg h1, if_neg (by show ¬ (! nameRight nm) = true; simpa using h1)]
      have inner : ∀ j, j ≤ k → Goes (T_ref1_Check (sy, th)) (.jmp (.l16 nm size init (k : Int) (j : Int))) (if (((sy.take k).drop j).map (fun s => s.1)).contains nm = true then 6 else if size < (1 : Int) ∨ (64 : Int) < size ∨ size < (List.length init : Int) then 5 else symsC (thsC (sy, th) th) ((sy.take k).map (fun s => s.1) ++ [nm]) (sy.drop (k + 1))) := by
        refine down ?_ fun j hj ihj => ?_
        · rw [goes_jmp]
          have : (sy.take k).drop k = [] := List.drop_eq_nil_of_le (by rw [List.length_take]; omega)
          rw [this]
          simp only [T_ref1_Check, goes_br, wrap_succ (k := k) (by omega)]
          rw [if_neg (by simp)]
          simp only [List.map_nil, List.contains_nil, Bool.false_eq_true, if_false]
          by_cases h3 : size < 1
          · rw [if_pos (decide_eq_true h3), if_pos (.inl h3)]; exact .leaf
          rw [if_neg (by simpa using h3)]
          by_cases h4 : 64 < size
          · rw [if_pos (decide_eq_true h4), if_pos (.inr (.inl h4))]; exact .leaf
          rw [if_neg (by simpa using h4)]
          by_cases h5 : size < (List.length init : Int)
          · rw [if_pos (show decide (Int.ofNat (List.length init) > size) = true from decide_eq_true h5), if_pos (.inr (.inr h5))]; exact .leaf
          rw [if_neg (show ¬ decide (Int.ofNat (List.length init) > size) = true by simpa using h5), if_neg (by rintro (h | h | h) <;> contradiction)]
          exact ih
        · have hjs : j < sy.length := by omega
          have hjt : j < (sy.take k).length := by rw [List.length_take]; omega
          rw [goes_jmp, drop_cons hjt, List.map_cons, List.contains_cons, List.getElem_take]
          simp only [T_ref1_Check, goes_br, lt_len hjs, nng, Bool.and_self, if_true, Int.toNat_natCast, getD_lt hjs, wrap_succ (k := j) (by omega), eqB_iff]
          rw [if_pos (by simp; omega)]
          by_cases h2 : sy[j].1 = nm
          · rw [if_pos h2, if_pos (by rw [h2]; simp)]; exact .leaf
          · rw [if_neg h2, beq_false_of_ne (Ne.symm h2), Bool.false_or]; exact ihj
      simpa using inner 0 (Nat.zero_le _)
  unfold T0_ref1_Check v_ref1_Check checkC
  simp only [goes_br]
  by_cases h : 64 < sy.length
  · rw [if_pos (by simp; omega), if_pos (.inl h)]; exact .leaf
  rw [if_neg (by simp; omega)]
  by_cases h2 : 64 < th.length
  · rw [if_pos (by simp; omega), if_pos (.inr h2)]; exact .leaf
  rw [if_neg (by simp; omega), if_neg (by rintro (h | h) <;> contradiction)]
  exact main (by omega) (by omega) 0 (Nat.zero_le _)
end Go.Ev
end

section
set_option linter.unusedSectionVars false
set_option linter.unusedVariables false
set_option linter.unusedSimpArgs false
set_option maxRecDepth 100000
set_option linter.unusedVariables false
open Go Go.Ev
namespace Go.Ev
noncomputable section
noncomputable def e_ref1_Check : Run := entG sg_ref1_Check R_ref1_Check (fun a => k_ref1_Check a.1) (fun a => v_ref1_Check a.1)
theorem ok_ref1_Check : EntOK Go.Proofs.Tryz.prog 39 e_ref1_Check := entG_ok (tb := tb_ref1_Check) (c := c_ref1_Check) tk_ref1_Check (by kernel_rfl) (by kernel_rfl) (by kernel_rfl) (fun a => by kernel_rfl) fun ⟨p, _⟩ hk => evF_goes (c := c_ref1_Check) (K := fun v => (R_ref1_Check v, tps (toForms sg_ref1_Check (p, ())))) (S := S_ref1_Check p) (by kernel_rfl) (en_ref1_Check p) (lp_ref1_Check p) (g_ref1_Check p hk)
end
end Go.Ev
end

section
set_option linter.unusedSectionVars false
set_option linter.unusedVariables false
set_option linter.unusedSimpArgs false
set_option maxRecDepth 100000
set_option linter.unusedVariables false
open Go Go.Ev
namespace Go.Ev
noncomputable section
/-! ### paling/palingref1.Reads -/
def sg_ref1_Reads : Sig := [(true, T_api_Ins)]
noncomputable def t_ref1_Reads : Tbl := [(57, e_ref1_InsRight), (58, e_ref1_Memory)]
theorem tk_ref1_Reads : ∀ p ∈ t_ref1_Reads, EntOK Go.Proofs.Tryz.prog p.1 p.2 := tbl_cons ok_ref1_InsRight (tbl_cons ok_ref1_Memory (tbl_nil))
noncomputable def c_ref1_Reads : Code := Go.Proofs.Tryz.f40.body.getD .skip
def tb_ref1_Reads : Tb := []
def T_ref1_Reads (i : El T_api_Ins) : Empty → JT Empty ((El T_api_Opd) × Bool) := fun j => nomatch j
def T0_ref1_Reads (i : El T_api_Ins) : JT Empty ((El T_api_Opd) × Bool) :=
  .br (k_ref1_InsRight i)
    (.br ((v_ref1_InsRight i) != (0 : Int))
      (.leaf (((0 : Int), ((0 : Int), ((0 : Int), (0 : Int)))), false))
    (.br (decide (i.1 > (9 : Int)))
      (.leaf (((0 : Int), ((0 : Int), ((0 : Int), (0 : Int)))), false))
    (.br (v_ref1_Memory i.2.2.2.2.1)
      (.leaf (i.2.2.2.2.1, true))
    (.br (v_ref1_Memory i.2.2.2.1)
      (.br (i.1 != (1 : Int))
        (.leaf (i.2.2.2.1, true))
      (.leaf (((0 : Int), ((0 : Int), ((0 : Int), (0 : Int)))), false)))
    (.leaf (((0 : Int), ((0 : Int), ((0 : Int), (0 : Int)))), false))))))
  (.no)
def v_ref1_Reads (i : El T_api_Ins) : (El T_api_Opd) × Bool :=
  bif (k_ref1_InsRight i) then
    bif ((v_ref1_InsRight i) != (0 : Int)) then
      (((0 : Int), ((0 : Int), ((0 : Int), (0 : Int)))), false)
    else bif (decide (i.1 > (9 : Int))) then
      (((0 : Int), ((0 : Int), ((0 : Int), (0 : Int)))), false)
    else bif (v_ref1_Memory i.2.2.2.2.1) then
      (i.2.2.2.2.1, true)
    else bif (v_ref1_Memory i.2.2.2.1) then
      bif (i.1 != (1 : Int)) then
        (i.2.2.2.1, true)
      else (((0 : Int), ((0 : Int), ((0 : Int), (0 : Int)))), false)
    else (((0 : Int), ((0 : Int), ((0 : Int), (0 : Int)))), false)
  else (((0 : Int), ((0 : Int), ((0 : Int), (0 : Int)))), false)
def k_ref1_Reads (i : El T_api_Ins) : Bool :=
  bif (k_ref1_InsRight i) then
    bif ((v_ref1_InsRight i) != (0 : Int)) then
      true
    else bif (decide (i.1 > (9 : Int))) then
      true
    else bif (v_ref1_Memory i.2.2.2.2.1) then
      true
    else bif (v_ref1_Memory i.2.2.2.1) then
      bif (i.1 != (1 : Int)) then
        true
      else true
    else true
  else false
theorem g_ref1_Reads (i : El T_api_Ins) (hk : k_ref1_Reads i = true) : Goes (T_ref1_Reads i) (T0_ref1_Reads i) (v_ref1_Reads i) :=
  Goes.brk hk (fun hk =>
    Goes.brk hk (fun hk =>
      Goes.leaf) (fun hk =>
      Goes.brk hk (fun hk =>
        Goes.leaf) (fun hk =>
        Goes.brk hk (fun hk =>
          Goes.leaf) (fun hk =>
          Goes.brk hk (fun hk =>
            Goes.brk hk (fun hk =>
              Goes.leaf) (fun hk =>
              Goes.leaf)) (fun hk =>
            Goes.leaf))))) (fun hk =>
    Goes.nok hk)
def R_ref1_Reads : (El T_api_Opd) × Bool → AV := fun (r : (El T_api_Opd) × Bool) => .tu [.ag [.d (.int .i64) r.1.1, .d (.int .i64) r.1.2.1, .d (.int .i64) r.1.2.2.1, .d (.int .i64) r.1.2.2.2], .d .bool r.2]
def S_ref1_Reads (i : El T_api_Ins) : Empty → Nat × St := fun j => nomatch j
theorem en_ref1_Reads (i : El T_api_Ins) (L : Lt) : entryA Go.Proofs.Tryz.prog (clOf t_ref1_Reads) tb_ref1_Reads Go.Proofs.Tryz.f40 c_ref1_Reads L (toForms sg_ref1_Reads (i, ())) = (T0_ref1_Reads i).run (fun v => some (R_ref1_Reads v, tps (toForms sg_ref1_Reads (i, ())))) fun j => L (S_ref1_Reads i j).1 (S_ref1_Reads i j).2 := by kernel_rfl
theorem lp_ref1_Reads (i : El T_api_Ins) : ∀ (L : Lt) (j : Empty), procOf (procsF Go.Proofs.Tryz.prog (clOf t_ref1_Reads) tb_ref1_Reads Go.Proofs.Tryz.f40 c_ref1_Reads (toForms sg_ref1_Reads (i, ()))) (S_ref1_Reads i j).1 L (S_ref1_Reads i j).2 = (T_ref1_Reads i j).run (fun v => some (R_ref1_Reads v, tps (toForms sg_ref1_Reads (i, ())))) fun j => L (S_ref1_Reads i j).1 (S_ref1_Reads i j).2 := fun L j => nomatch j
noncomputable def e_ref1_Reads : Run := entG sg_ref1_Reads R_ref1_Reads (fun a => k_ref1_Reads a.1) (fun a => v_ref1_Reads a.1)
theorem ok_ref1_Reads : EntOK Go.Proofs.Tryz.prog 40 e_ref1_Reads := entG_ok (tb := tb_ref1_Reads) (c := c_ref1_Reads) tk_ref1_Reads (by kernel_rfl) (by kernel_rfl) (by kernel_rfl) (fun a => by kernel_rfl) fun ⟨i, _⟩ hk => evF_goes (c := c_ref1_Reads) (K := fun v => (R_ref1_Reads v, tps (toForms sg_ref1_Reads (i, ())))) (S := S_ref1_Reads i) (by kernel_rfl) (en_ref1_Reads i) (lp_ref1_Reads i) (g_ref1_Reads i hk)
end
end Go.Ev
end

section
set_option linter.unusedSectionVars false
set_option linter.unusedVariables false
set_option linter.unusedSimpArgs false
set_option maxRecDepth 100000
set_option linter.unusedVariables false
open Go Go.Ev
namespace Go.Ev
noncomputable section
/-! ### paling/palingref1.Writes -/
def sg_ref1_Writes : Sig := [(true, T_api_Ins)]
noncomputable def t_ref1_Writes : Tbl := [(57, e_ref1_InsRight), (58, e_ref1_Memory)]
theorem tk_ref1_Writes : ∀ p ∈ t_ref1_Writes, EntOK Go.Proofs.Tryz.prog p.1 p.2 := tbl_cons ok_ref1_InsRight (tbl_cons ok_ref1_Memory (tbl_nil))
noncomputable def c_ref1_Writes : Code := Go.Proofs.Tryz.f32.body.getD .skip
def tb_ref1_Writes : Tb := []
def T_ref1_Writes (i : El T_api_Ins) : Empty → JT Empty ((El T_api_Opd) × Bool) := fun j => nomatch j
def T0_ref1_Writes (i : El T_api_Ins) : JT Empty ((El T_api_Opd) × Bool) :=
  .br (k_ref1_InsRight i)
    (.br ((v_ref1_InsRight i) != (0 : Int))
      (.leaf (((0 : Int), ((0 : Int), ((0 : Int), (0 : Int)))), false))
    (.br (decide (i.1 > (9 : Int)))
      (.leaf (((0 : Int), ((0 : Int), ((0 : Int), (0 : Int)))), false))
    (.br (i.1 == (7 : Int))
      (.leaf (((0 : Int), ((0 : Int), ((0 : Int), (0 : Int)))), false))
    (.br (! (v_ref1_Memory i.2.2.2.1))
      (.leaf (((0 : Int), ((0 : Int), ((0 : Int), (0 : Int)))), false))
    (.leaf (i.2.2.2.1, true))))))
  (.no)
def v_ref1_Writes (i : El T_api_Ins) : (El T_api_Opd) × Bool :=
  bif (k_ref1_InsRight i) then
    bif ((v_ref1_InsRight i) != (0 : Int)) then
      (((0 : Int), ((0 : Int), ((0 : Int), (0 : Int)))), false)
    else bif (decide (i.1 > (9 : Int))) then
      (((0 : Int), ((0 : Int), ((0 : Int), (0 : Int)))), false)
    else bif (i.1 == (7 : Int)) then
      (((0 : Int), ((0 : Int), ((0 : Int), (0 : Int)))), false)
    else bif (! (v_ref1_Memory i.2.2.2.1)) then
      (((0 : Int), ((0 : Int), ((0 : Int), (0 : Int)))), false)
    else (i.2.2.2.1, true)
  else (((0 : Int), ((0 : Int), ((0 : Int), (0 : Int)))), false)
def k_ref1_Writes (i : El T_api_Ins) : Bool :=
  bif (k_ref1_InsRight i) then
    bif ((v_ref1_InsRight i) != (0 : Int)) then
      true
    else bif (decide (i.1 > (9 : Int))) then
      true
    else bif (i.1 == (7 : Int)) then
      true
    else bif (! (v_ref1_Memory i.2.2.2.1)) then
      true
    else true
  else false
theorem g_ref1_Writes (i : El T_api_Ins) (hk : k_ref1_Writes i = true) : Goes (T_ref1_Writes i) (T0_ref1_Writes i) (v_ref1_Writes i) :=
  Goes.brk hk (fun hk =>
    Goes.brk hk (fun hk =>
      Goes.leaf) (fun hk =>
      Goes.brk hk (fun hk =>
        Goes.leaf) (fun hk =>
        Goes.brk hk (fun hk =>
          Goes.leaf) (fun hk =>
          Goes.brk hk (fun hk =>
            Goes.leaf) (fun hk =>
            Goes.leaf))))) (fun hk =>
    Goes.nok hk)
def R_ref1_Writes : (El T_api_Opd) × Bool → AV := fun (r : (El T_api_Opd) × Bool) => .tu [.ag [.d (.int .i64) r.1.1, .d (.int .i64) r.1.2.1, .d (.int .i64) r.1.2.2.1, .d (.int .i64) r.1.2.2.2], .d .bool r.2]
def S_ref1_Writes (i : El T_api_Ins) : Empty → Nat × St := fun j => nomatch j
theorem en_ref1_Writes (i : El T_api_Ins) (L : Lt) : entryA Go.Proofs.Tryz.prog (clOf t_ref1_Writes) tb_ref1_Writes Go.Proofs.Tryz.f32 c_ref1_Writes L (toForms sg_ref1_Writes (i, ())) = (T0_ref1_Writes i).run (fun v => some (R_ref1_Writes v, tps (toForms sg_ref1_Writes (i, ())))) fun j => L (S_ref1_Writes i j).1 (S_ref1_Writes i j).2 := by kernel_rfl
theorem lp_ref1_Writes (i : El T_api_Ins) : ∀ (L : Lt) (j : Empty), procOf (procsF Go.Proofs.Tryz.prog (clOf t_ref1_Writes) tb_ref1_Writes Go.Proofs.Tryz.f32 c_ref1_Writes (toForms sg_ref1_Writes (i, ()))) (S_ref1_Writes i j).1 L (S_ref1_Writes i j).2 = (T_ref1_Writes i j).run (fun v => some (R_ref1_Writes v, tps (toForms sg_ref1_Writes (i, ())))) fun j => L (S_ref1_Writes i j).1 (S_ref1_Writes i j).2 := fun L j => nomatch j
noncomputable def e_ref1_Writes : Run := entG sg_ref1_Writes R_ref1_Writes (fun a => k_ref1_Writes a.1) (fun a => v_ref1_Writes a.1)
theorem ok_ref1_Writes : EntOK Go.Proofs.Tryz.prog 32 e_ref1_Writes := entG_ok (tb := tb_ref1_Writes) (c := c_ref1_Writes) tk_ref1_Writes (by kernel_rfl) (by kernel_rfl) (by kernel_rfl) (fun a => by kernel_rfl) fun ⟨i, _⟩ hk => evF_goes (c := c_ref1_Writes) (K := fun v => (R_ref1_Writes v, tps (toForms sg_ref1_Writes (i, ())))) (S := S_ref1_Writes i) (by kernel_rfl) (en_ref1_Writes i) (lp_ref1_Writes i) (g_ref1_Writes i hk)
end
end Go.Ev
end

section
set_option linter.unusedSectionVars false
set_option linter.unusedVariables false
set_option linter.unusedSimpArgs false
set_option maxRecDepth 100000
set_option linter.unusedVariables false
open Go Go.Ev
namespace Go.Ev
noncomputable section
/-! ### paling/palingref1.Locked -/
def sg_ref1_Locked : Sig := [(true, T_api_Ins)]
noncomputable def t_ref1_Locked : Tbl := [(57, e_ref1_InsRight)]
theorem tk_ref1_Locked : ∀ p ∈ t_ref1_Locked, EntOK Go.Proofs.Tryz.prog p.1 p.2 := tbl_cons ok_ref1_InsRight (tbl_nil)
noncomputable def c_ref1_Locked : Code := Go.Proofs.Tryz.f41.body.getD .skip
def tb_ref1_Locked : Tb := []
def T_ref1_Locked (i : El T_api_Ins) : Empty → JT Empty (Bool) := fun j => nomatch j
def T0_ref1_Locked (i : El T_api_Ins) : JT Empty (Bool) :=
  .br (k_ref1_InsRight i)
    (.br ((v_ref1_InsRight i) == (0 : Int))
      (.br (i.1 == (8 : Int))
        (.leaf true)
      (.leaf i.2.1))
    (.leaf false))
  (.no)
def v_ref1_Locked (i : El T_api_Ins) : Bool :=
  bif (k_ref1_InsRight i) then
    bif ((v_ref1_InsRight i) == (0 : Int)) then
      bif (i.1 == (8 : Int)) then
        true
      else i.2.1
    else false
  else false
def k_ref1_Locked (i : El T_api_Ins) : Bool :=
  bif (k_ref1_InsRight i) then
    bif ((v_ref1_InsRight i) == (0 : Int)) then
      bif (i.1 == (8 : Int)) then
        true
      else true
    else true
  else false
theorem g_ref1_Locked (i : El T_api_Ins) (hk : k_ref1_Locked i = true) : Goes (T_ref1_Locked i) (T0_ref1_Locked i) (v_ref1_Locked i) :=
  Goes.brk hk (fun hk =>
    Goes.brk hk (fun hk =>
      Goes.brk hk (fun hk =>
        Goes.leaf) (fun hk =>
        Goes.leaf)) (fun hk =>
      Goes.leaf)) (fun hk =>
    Goes.nok hk)
def R_ref1_Locked : Bool → AV := fun (r : Bool) => .d .bool r
def S_ref1_Locked (i : El T_api_Ins) : Empty → Nat × St := fun j => nomatch j
theorem en_ref1_Locked (i : El T_api_Ins) (L : Lt) : entryA Go.Proofs.Tryz.prog (clOf t_ref1_Locked) tb_ref1_Locked Go.Proofs.Tryz.f41 c_ref1_Locked L (toForms sg_ref1_Locked (i, ())) = (T0_ref1_Locked i).run (fun v => some (R_ref1_Locked v, tps (toForms sg_ref1_Locked (i, ())))) fun j => L (S_ref1_Locked i j).1 (S_ref1_Locked i j).2 := by kernel_rfl
theorem lp_ref1_Locked (i : El T_api_Ins) : ∀ (L : Lt) (j : Empty), procOf (procsF Go.Proofs.Tryz.prog (clOf t_ref1_Locked) tb_ref1_Locked Go.Proofs.Tryz.f41 c_ref1_Locked (toForms sg_ref1_Locked (i, ()))) (S_ref1_Locked i j).1 L (S_ref1_Locked i j).2 = (T_ref1_Locked i j).run (fun v => some (R_ref1_Locked v, tps (toForms sg_ref1_Locked (i, ())))) fun j => L (S_ref1_Locked i j).1 (S_ref1_Locked i j).2 := fun L j => nomatch j
noncomputable def e_ref1_Locked : Run := entG sg_ref1_Locked R_ref1_Locked (fun a => k_ref1_Locked a.1) (fun a => v_ref1_Locked a.1)
theorem ok_ref1_Locked : EntOK Go.Proofs.Tryz.prog 41 e_ref1_Locked := entG_ok (tb := tb_ref1_Locked) (c := c_ref1_Locked) tk_ref1_Locked (by kernel_rfl) (by kernel_rfl) (by kernel_rfl) (fun a => by kernel_rfl) fun ⟨i, _⟩ hk => evF_goes (c := c_ref1_Locked) (K := fun v => (R_ref1_Locked v, tps (toForms sg_ref1_Locked (i, ())))) (S := S_ref1_Locked i) (by kernel_rfl) (en_ref1_Locked i) (lp_ref1_Locked i) (g_ref1_Locked i hk)
end
end Go.Ev
end

section
set_option linter.unusedSectionVars false
set_option linter.unusedVariables false
set_option linter.unusedSimpArgs false
set_option maxRecDepth 100000
set_option linter.unusedVariables false
open Go Go.Ev
namespace Go.Ev
noncomputable section
/-! ### paling/palingref3.Accesses -/
def sg_ref3_Accesses : Sig := [(true, T_api_Prog)]
noncomputable def t_ref3_Accesses : Tbl := [(39, e_ref1_Check), (40, e_ref1_Reads), (32, e_ref1_Writes), (41, e_ref1_Locked)]
theorem tk_ref3_Accesses : ∀ p ∈ t_ref3_Accesses, EntOK Go.Proofs.Tryz.prog p.1 p.2 := tbl_cons ok_ref1_Check (tbl_cons ok_ref1_Reads (tbl_cons ok_ref1_Writes (tbl_cons ok_ref1_Locked (tbl_nil))))
noncomputable def c_ref3_Accesses : Code := Go.Proofs.Tryz.f17.body.getD .skip
def tb_ref3_Accesses : Tb := [(7, ⟨[1, 3, 4], [(4, 68)]⟩), (12, ⟨[1, 3, 4, 5], [(4, 68)]⟩), (hintK, ⟨[], [(1, 68)]⟩)]
inductive J_ref3_Accesses where
  | l7 (t : Int) (out : List (El T_api_Access))
  | l12 (i : Int) (out : List (El T_api_Access)) (t : Int)
def T_ref3_Accesses (p : El T_api_Prog) : J_ref3_Accesses → JT J_ref3_Accesses (List (El T_api_Access))
  | .l7 t out =>
    .br (decide (t < (Int.ofNat (List.length p.2))))
      (.jmp (.l12 (0 : Int) out t))
    (.leaf out)
  | .l12 i out t =>
    .br ((decide ((0 : Int) ≤ t)) && (decide (t < (Int.ofNat (List.length p.2)))))
      (.br (decide (i < (Int.ofNat (List.length (List.getD p.2 (Int.toNat t) (dflt (.sl T_api_Ins)))))))
        (.br ((decide ((0 : Int) ≤ t)) && (decide (t < (Int.ofNat (List.length p.2)))))
          (.br ((decide ((0 : Int) ≤ i)) && (decide (i < (Int.ofNat (List.length (List.getD p.2 (Int.toNat t) (dflt (.sl T_api_Ins))))))))
            (.br (k_ref1_Reads (List.getD (List.getD p.2 (Int.toNat t) (dflt (.sl T_api_Ins))) (Int.toNat i) (dflt T_api_Ins)))
              (.br (k_ref1_Writes (List.getD (List.getD p.2 (Int.toNat t) (dflt (.sl T_api_Ins))) (Int.toNat i) (dflt T_api_Ins)))
                (.br (v_ref1_Reads (List.getD (List.getD p.2 (Int.toNat t) (dflt (.sl T_api_Ins))) (Int.toNat i) (dflt T_api_Ins))).2
                  (.br (k_ref1_Locked (List.getD (List.getD p.2 (Int.toNat t) (dflt (.sl T_api_Ins))) (Int.toNat i) (dflt T_api_Ins)))
                    (.br (Nat.ble (((List.length out) + 1) * 40) limit)
                      (.br (v_ref1_Writes (List.getD (List.getD p.2 (Int.toNat t) (dflt (.sl T_api_Ins))) (Int.toNat i) (dflt T_api_Ins))).2
                        (.br (k_ref1_Locked (List.getD (List.getD p.2 (Int.toNat t) (dflt (.sl T_api_Ins))) (Int.toNat i) (dflt T_api_Ins)))
                          (.br (Nat.ble (((List.length (out ++ [(t, (i, ((0 : Int), ((v_ref1_Reads (List.getD (List.getD p.2 (Int.toNat t) (dflt (.sl T_api_Ins))) (Int.toNat i) (dflt T_api_Ins))).1.2.2.1, (false, (v_ref1_Locked (List.getD (List.getD p.2 (Int.toNat t) (dflt (.sl T_api_Ins))) (Int.toNat i) (dflt T_api_Ins))))))))])) + 1) * 40) limit)
                            (.jmp (.l12 (IntKind.i64.wrap (i + (1 : Int))) ((out ++ [(t, (i, ((0 : Int), ((v_ref1_Reads (List.getD (List.getD p.2 (Int.toNat t) (dflt (.sl T_api_Ins))) (Int.toNat i) (dflt T_api_Ins))).1.2.2.1, (false, (v_ref1_Locked (List.getD (List.getD p.2 (Int.toNat t) (dflt (.sl T_api_Ins))) (Int.toNat i) (dflt T_api_Ins))))))))]) ++ [(t, (i, ((1 : Int), ((v_ref1_Writes (List.getD (List.getD p.2 (Int.toNat t) (dflt (.sl T_api_Ins))) (Int.toNat i) (dflt T_api_Ins))).1.2.2.1, (true, (v_ref1_Locked (List.getD (List.getD p.2 (Int.toNat t) (dflt (.sl T_api_Ins))) (Int.toNat i) (dflt T_api_Ins))))))))]) t))
                          (.no))
                        (.no))
                      (.jmp (.l12 (IntKind.i64.wrap (i + (1 : Int))) (out ++ [(t, (i, ((0 : Int), ((v_ref1_Reads (List.getD (List.getD p.2 (Int.toNat t) (dflt (.sl T_api_Ins))) (Int.toNat i) (dflt T_api_Ins))).1.2.2.1, (false, (v_ref1_Locked (List.getD (List.getD p.2 (Int.toNat t) (dflt (.sl T_api_Ins))) (Int.toNat i) (dflt T_api_Ins))))))))]) t)))
                    (.no))
                  (.no))
                (.br (v_ref1_Writes (List.getD (List.getD p.2 (Int.toNat t) (dflt (.sl T_api_Ins))) (Int.toNat i) (dflt T_api_Ins))).2
                  (.br (k_ref1_Locked (List.getD (List.getD p.2 (Int.toNat t) (dflt (.sl T_api_Ins))) (Int.toNat i) (dflt T_api_Ins)))
                    (.br (Nat.ble (((List.length out) + 1) * 40) limit)
                      (.jmp (.l12 (IntKind.i64.wrap (i + (1 : Int))) (out ++ [(t, (i, ((0 : Int), ((v_ref1_Writes (List.getD (List.getD p.2 (Int.toNat t) (dflt (.sl T_api_Ins))) (Int.toNat i) (dflt T_api_Ins))).1.2.2.1, (true, (v_ref1_Locked (List.getD (List.getD p.2 (Int.toNat t) (dflt (.sl T_api_Ins))) (Int.toNat i) (dflt T_api_Ins))))))))]) t))
                    (.no))
                  (.no))
                (.jmp (.l12 (IntKind.i64.wrap (i + (1 : Int))) out t))))
              (.no))
            (.no))
          (.no))
        (.no))
      (.jmp (.l7 (IntKind.i64.wrap (t + (1 : Int))) out)))
    (.no)
def T0_ref3_Accesses (p : El T_api_Prog) : JT J_ref3_Accesses (List (El T_api_Access)) :=
  .br (k_ref1_Check p)
    (.br ((v_ref1_Check p) != (0 : Int))
      (.leaf [])
    (.jmp (.l7 (0 : Int) [])))
  (.no)
def R_ref3_Accesses : List (El T_api_Access) → AV := fun (r : List (El T_api_Access)) => .rw 43 T_api_Access r
def S_ref3_Accesses (p : El T_api_Prog) : J_ref3_Accesses → Nat × St
  | .l7 t out => (7, ⟨mkTm 76 [(1, .pt 2 0 0), (3, .own 4 0 none), (4, .d (.int .i64) t)], [(2, 0, .box 26 [.d (.sl T_api_Sym) p.1, .d (.sl (.sl T_api_Ins)) p.2] none), (4, 0, .row 43 T_api_Access out false)]⟩)
  | .l12 i out t => (12, ⟨mkTm 76 [(1, .pt 2 0 0), (3, .own 4 0 none), (4, .d (.int .i64) t), (5, .d (.int .i64) i)], [(2, 0, .box 26 [.d (.sl T_api_Sym) p.1, .d (.sl (.sl T_api_Ins)) p.2] none), (4, 0, .row 43 T_api_Access out false)]⟩)
theorem en_ref3_Accesses (p : El T_api_Prog) (L : Lt) : entryA Go.Proofs.Tryz.prog (clOf t_ref3_Accesses) tb_ref3_Accesses Go.Proofs.Tryz.f17 c_ref3_Accesses L (toForms sg_ref3_Accesses (p, ())) = (T0_ref3_Accesses p).run (fun v => some (R_ref3_Accesses v, tps (toForms sg_ref3_Accesses (p, ())))) fun j => L (S_ref3_Accesses p j).1 (S_ref3_Accesses p j).2 := by kernel_rfl
theorem lp_ref3_Accesses (p : El T_api_Prog) : ∀ (L : Lt) (j : J_ref3_Accesses), procOf (procsF Go.Proofs.Tryz.prog (clOf t_ref3_Accesses) tb_ref3_Accesses Go.Proofs.Tryz.f17 c_ref3_Accesses (toForms sg_ref3_Accesses (p, ()))) (S_ref3_Accesses p j).1 L (S_ref3_Accesses p j).2 = (T_ref3_Accesses p j).run (fun v => some (R_ref3_Accesses v, tps (toForms sg_ref3_Accesses (p, ())))) fun j => L (S_ref3_Accesses p j).1 (S_ref3_Accesses p j).2
  | L, .l7 t out => by kernel_rfl
  | L, .l12 i out t => by kernel_rfl
end
end Go.Ev
end

section
set_option linter.unusedSectionVars false
set_option linter.unusedVariables false
set_option linter.unusedSimpArgs false
/- What is told of an instruction: `tells` is true. -/
set_option maxRecDepth 100000
set_option linter.unusedVariables false
set_option linter.unusedSimpArgs false
namespace Go.Ev
open Go
theorem k_refR {i : El T_api_Ins} (h : smallText i.2.2.2.2.2.1 = true) : k_ref1_Reads i = true ∧ k_ref1_Writes i = true ∧ k_ref1_Locked i = true := by
  have h0 : k_ref1_InsRight i = true := h
  unfold k_ref1_Reads k_ref1_Writes k_ref1_Locked
  simp only [h0, cond_true, Bool.cond_self, and_self]
theorem reads_eq {i : El T_api_Ins} (h : smallText i.2.2.2.2.2.1 = true) : v_ref1_Reads i = v_ins_Reads i := by
  have h0 : k_ins_Right i = true := h
  have h1 : k_ref1_InsRight i = true := h
  unfold v_ref1_Reads v_ins_Reads v_ref1_InsRight
  simp only [h0, h1, cond_true]
  by_cases hr : v_ins_Right i = 0
  · simp only [hr, bne_self_eq_false, cond_false]
    rcases nine i.1 with ⟨h9, e⟩ | ⟨h9, e⟩
    · obtain ⟨a, b⟩ := mem_low hr h9
      rw [a, b, e, cond_false]
    · obtain ⟨a, b⟩ := mem_high hr h9
      rw [a, b, e]
      simp only [cond_true, cond_false]
  · have e : (v_ins_Right i != 0) = true := by simp [hr]
    simp only [e, cond_true]
theorem writes_eq {i : El T_api_Ins} (h : smallText i.2.2.2.2.2.1 = true) : v_ref1_Writes i = v_ins_Writes i := by
  have h0 : k_ins_Right i = true := h
  have h1 : k_ref1_InsRight i = true := h
  unfold v_ref1_Writes v_ins_Writes v_ref1_InsRight
  simp only [h0, h1, cond_true]
  by_cases hr : v_ins_Right i = 0
  · simp only [hr, bne_self_eq_false, cond_false]
    rcases nine i.1 with ⟨h9, e⟩ | ⟨h9, e⟩
    · obtain ⟨a, b⟩ := mem_low hr h9
      rw [a, e, cond_false]
      cases v_ref1_Memory i.2.2.2.1 <;> simp only [Bool.not_true, Bool.not_false, cond_true, cond_false, Bool.cond_self]
    · obtain ⟨a, b⟩ := mem_high hr h9
      rw [a, e]
      simp only [cond_true, Bool.not_false]
  · have e : (v_ins_Right i != 0) = true := by simp [hr]
    simp only [e, cond_true]
theorem locked_eq {i : El T_api_Ins} (h : smallText i.2.2.2.2.2.1 = true) : v_ref1_Locked i = v_ins_Locked i := by
  have h0 : k_ins_Right i = true := h
  have h1 : k_ref1_InsRight i = true := h
  unfold v_ref1_Locked v_ins_Locked v_ref1_InsRight
  simp only [h0, h1]
end Go.Ev
end

section
set_option linter.unusedSectionVars false
set_option linter.unusedVariables false
set_option linter.unusedSimpArgs false
set_option linter.unusedVariables false
set_option linter.unusedSimpArgs false
open Go
namespace Go.Ev
def v_ref3_Accesses (p : El T_api_Prog) : List (El T_api_Access) := ofC p
def k_ref3_Accesses (p : El T_api_Prog) : Bool := smallAll p
theorem g_ref3_Accesses (p : El T_api_Prog) (hk : k_ref3_Accesses p = true) : Goes (T_ref3_Accesses p) (T0_ref3_Accesses p) (v_ref3_Accesses p) := by
  have hA := smallA hk
  obtain ⟨sy, th⟩ := p
  have hkc : k_ref1_Check (sy, th) = true := hA.prog
  have hlen : th.length < 1073741824 := hA.len
  have htot : total th < 1073741824 := hA.tot
  have main : ∀ k, k ≤ th.length → ∀ out : List (El T_api_Access), out.length + 2 * total (th.drop k) < 4294967296 → Goes (T_ref3_Accesses (sy, th)) (.jmp (.l7 (k : Int) out)) (out ++ accP k (th.drop k)) := by
    refine down ?_ fun k hk ih => ?_
    · intro out ho
      rw [goes_jmp]
      simp only [T_ref3_Accesses, goes_br, lt_len_not (Nat.lt_irrefl _), goes_leaf, List.drop_length]
      simp [accP]
    · intro out ho
      rw [total_drop hk] at ho
      have hS := smallT (hA.thr _ (List.getElem_mem hk))
      rw [goes_jmp]
      simp only [T_ref3_Accesses, goes_br, lt_len hk, if_true]
      rw [drop_cons hk]
      unfold accP
      obtain ⟨x, hx0⟩ : ∃ x, th[k] = x := ⟨_, rfl⟩
      rw [hx0] at ho hS ⊢
      have inner : ∀ j, j ≤ List.length x → ∀ out : List (El T_api_Access), out.length + 2 * (List.length x - j) + 2 * total (th.drop (k + 1)) < 4294967296 → Goes (T_ref3_Accesses (sy, th)) (.jmp (.l12 (j : Int) out (k : Int))) (out ++ (accT k j (List.drop j x) ++ accP (k + 1) (th.drop (k + 1)))) := by
        refine down ?_ fun j hj ihj => ?_
        · intro out ho
          rw [goes_jmp]
          simp only [T_ref3_Accesses, goes_br, lt_len hk, nng, Bool.and_self, if_true, Int.toNat_natCast, getD_lt hk, hx0, lt_len_not (Nat.lt_irrefl _), wrap_succ (k := k) (by omega), List.drop_length]
          have := ih out (by omega)
          simpa [accT] using this
        · intro out ho
          have hto := hS.to _ (List.getElem_mem hj)
          obtain ⟨a1, a2, a4⟩ := k_refR hto
          have hx : List.length x < 1099511627776 := hS.len
          rw [goes_jmp]
          have b1 : Nat.ble ((out.length + 1) * 40) limit = true := ble40 (by omega)
          have b2 : ∀ y : El T_api_Access, Nat.ble (((out ++ [y]).length + 1) * 40) limit = true := fun y => ble40 (by rw [List.length_append]; simp; omega)
          simp only [T_ref3_Accesses, goes_br, lt_len hk, getD_lt hk, hx0, lt_len hj, nng, Bool.and_self, if_true, Int.toNat_natCast, getD_lt hj, wrap_succ (k := j) (by omega), a1, a2, a4, b1, b2, reads_eq hto, writes_eq hto, locked_eq hto]
          rw [drop_cons hj]
          unfold accT accI
          have hs : ∀ y : List (El T_api_Access), y.length ≤ 2 → Goes (T_ref3_Accesses (sy, th)) (.jmp (.l12 ((j + 1 : Nat) : Int) (out ++ y) (k : Int))) (out ++ ((y ++ accT k (j + 1) (List.drop (j + 1) x)) ++ accP (k + 1) (th.drop (k + 1)))) := fun y hy => by
            have := ihj (out ++ y) (by rw [List.length_append]; omega)
            rw [List.append_assoc] at this
            rw [List.append_assoc]
            exact this
          by_cases hr : (v_ins_Reads x[j]).2 = true <;> by_cases hw : (v_ins_Writes x[j]).2 = true
          · simp only [hr, hw, if_true]
            rw [List.append_assoc out]
            exact hs _ (by simp)
          · simp only [hr, hw, if_true, if_false]
            exact hs _ (by simp)
          · simp only [hr, hw, if_true, if_false]
            exact hs _ (by simp)
          · simp only [hr, hw, if_false]
            have := hs [] (by simp)
            rw [List.append_nil] at this
            exact this
      exact inner 0 (Nat.zero_le _) out (by omega)
  unfold T0_ref3_Accesses v_ref3_Accesses ofC
  simp only [goes_br, hkc, if_true, v_ref1_Check]
  by_cases h : checkC (sy, th) = 0
  · rw [if_neg (by simp [h]), if_pos h]
    have := main 0 (Nat.zero_le _) [] (by simp; omega)
    simpa using this
  · rw [if_pos (by simp [h]), if_neg h]
    exact .leaf
end Go.Ev
end

section
set_option linter.unusedSectionVars false
set_option linter.unusedVariables false
set_option linter.unusedSimpArgs false
set_option maxRecDepth 100000
set_option linter.unusedVariables false
open Go Go.Ev
namespace Go.Ev
noncomputable section
noncomputable def e_ref3_Accesses : Run := entG sg_ref3_Accesses R_ref3_Accesses (fun a => k_ref3_Accesses a.1) (fun a => v_ref3_Accesses a.1)
theorem ok_ref3_Accesses : EntOK Go.Proofs.Tryz.prog 17 e_ref3_Accesses := entG_ok (tb := tb_ref3_Accesses) (c := c_ref3_Accesses) tk_ref3_Accesses (by kernel_rfl) (by kernel_rfl) (by kernel_rfl) (fun a => by kernel_rfl) fun ⟨p, _⟩ hk => evF_goes (c := c_ref3_Accesses) (K := fun v => (R_ref3_Accesses v, tps (toForms sg_ref3_Accesses (p, ())))) (S := S_ref3_Accesses p) (by kernel_rfl) (en_ref3_Accesses p) (lp_ref3_Accesses p) (g_ref3_Accesses p hk)
end
end Go.Ev
end

section
set_option linter.unusedSectionVars false
set_option linter.unusedVariables false
set_option linter.unusedSimpArgs false
set_option maxRecDepth 100000
set_option linter.unusedVariables false
open Go Go.Ev
namespace Go.Ev
noncomputable section
/-! ### paling/palingref3.Clash -/
def sg_ref3_Clash : Sig := [(true, T_api_Access), (true, T_api_Access)]
noncomputable def t_ref3_Clash : Tbl := []
theorem tk_ref3_Clash : ∀ p ∈ t_ref3_Clash, EntOK Go.Proofs.Tryz.prog p.1 p.2 := tbl_nil
noncomputable def c_ref3_Clash : Code := Go.Proofs.Tryz.f23.body.getD .skip
def tb_ref3_Clash : Tb := []
def T_ref3_Clash (a : El T_api_Access) (b : El T_api_Access) : Empty → JT Empty (Bool) := fun j => nomatch j
def T0_ref3_Clash (a : El T_api_Access) (b : El T_api_Access) : JT Empty (Bool) :=
  .br (a.1 != b.1)
    (.br (a.2.2.2.1 == b.2.2.2.1)
      (.br a.2.2.2.2.1
        (.leaf true)
      (.leaf b.2.2.2.2.1))
    (.leaf false))
  (.leaf false)
def v_ref3_Clash (a : El T_api_Access) (b : El T_api_Access) : Bool :=
  bif (a.1 != b.1) then
    bif (a.2.2.2.1 == b.2.2.2.1) then
      bif a.2.2.2.2.1 then
        true
      else b.2.2.2.2.1
    else false
  else false
theorem g_ref3_Clash (a : El T_api_Access) (b : El T_api_Access) : Goes (T_ref3_Clash a b) (T0_ref3_Clash a b) (v_ref3_Clash a b) :=
  Goes.br (
    Goes.br (
      Goes.br (
        Goes.leaf) (
        Goes.leaf)) (
      Goes.leaf)) (
    Goes.leaf)
def R_ref3_Clash : Bool → AV := fun (r : Bool) => .d .bool r
def S_ref3_Clash (a : El T_api_Access) (b : El T_api_Access) : Empty → Nat × St := fun j => nomatch j
theorem en_ref3_Clash (a : El T_api_Access) (b : El T_api_Access) (L : Lt) : entryA Go.Proofs.Tryz.prog (clOf t_ref3_Clash) tb_ref3_Clash Go.Proofs.Tryz.f23 c_ref3_Clash L (toForms sg_ref3_Clash (a, b, ())) = (T0_ref3_Clash a b).run (fun v => some (R_ref3_Clash v, tps (toForms sg_ref3_Clash (a, b, ())))) fun j => L (S_ref3_Clash a b j).1 (S_ref3_Clash a b j).2 := by kernel_rfl
theorem lp_ref3_Clash (a : El T_api_Access) (b : El T_api_Access) : ∀ (L : Lt) (j : Empty), procOf (procsF Go.Proofs.Tryz.prog (clOf t_ref3_Clash) tb_ref3_Clash Go.Proofs.Tryz.f23 c_ref3_Clash (toForms sg_ref3_Clash (a, b, ()))) (S_ref3_Clash a b j).1 L (S_ref3_Clash a b j).2 = (T_ref3_Clash a b j).run (fun v => some (R_ref3_Clash v, tps (toForms sg_ref3_Clash (a, b, ())))) fun j => L (S_ref3_Clash a b j).1 (S_ref3_Clash a b j).2 := fun L j => nomatch j
noncomputable def e_ref3_Clash : Run := entT sg_ref3_Clash R_ref3_Clash (fun a => v_ref3_Clash a.1 a.2.1)
theorem ok_ref3_Clash : EntOK Go.Proofs.Tryz.prog 23 e_ref3_Clash := entT_ok (tb := tb_ref3_Clash) (c := c_ref3_Clash) tk_ref3_Clash (by kernel_rfl) (by kernel_rfl) (by kernel_rfl) (fun a => by kernel_rfl) fun ⟨a, b, _⟩ => evF_goes (c := c_ref3_Clash) (K := fun v => (R_ref3_Clash v, tps (toForms sg_ref3_Clash (a, b, ())))) (S := S_ref3_Clash a b) (by kernel_rfl) (en_ref3_Clash a b) (lp_ref3_Clash a b) (g_ref3_Clash a b)
end
end Go.Ev
end

section
set_option linter.unusedSectionVars false
set_option linter.unusedVariables false
set_option linter.unusedSimpArgs false
set_option maxRecDepth 100000
set_option linter.unusedVariables false
open Go Go.Ev
namespace Go.Ev
noncomputable section
/-! ### paling/palingref1.Leads -/
def sg_ref1_Leads : Sig := [(true, T_api_Ins)]
noncomputable def t_ref1_Leads : Tbl := [(57, e_ref1_InsRight), (79, e_ref1_Jumps)]
theorem tk_ref1_Leads : ∀ p ∈ t_ref1_Leads, EntOK Go.Proofs.Tryz.prog p.1 p.2 := tbl_cons ok_ref1_InsRight (tbl_cons ok_ref1_Jumps (tbl_nil))
noncomputable def c_ref1_Leads : Code := Go.Proofs.Tryz.f94.body.getD .skip
def tb_ref1_Leads : Tb := []
def T_ref1_Leads (i : El T_api_Ins) : Empty → JT Empty (Bool × Bool) := fun j => nomatch j
def T0_ref1_Leads (i : El T_api_Ins) : JT Empty (Bool × Bool) :=
  .br (k_ref1_InsRight i)
    (.br ((v_ref1_InsRight i) != (0 : Int))
      (.leaf (false, false))
    (.br (i.1 != (10 : Int))
      (.leaf ((i.1 != (14 : Int)), (v_ref1_Jumps i.1)))
    (.leaf (false, (v_ref1_Jumps i.1)))))
  (.no)
def v_ref1_Leads (i : El T_api_Ins) : Bool × Bool :=
  bif (k_ref1_InsRight i) then
    bif ((v_ref1_InsRight i) != (0 : Int)) then
      (false, false)
    else bif (i.1 != (10 : Int)) then
      ((i.1 != (14 : Int)), (v_ref1_Jumps i.1))
    else (false, (v_ref1_Jumps i.1))
  else (false, false)
def k_ref1_Leads (i : El T_api_Ins) : Bool :=
  bif (k_ref1_InsRight i) then
    bif ((v_ref1_InsRight i) != (0 : Int)) then
      true
    else bif (i.1 != (10 : Int)) then
      true
    else true
  else false
theorem g_ref1_Leads (i : El T_api_Ins) (hk : k_ref1_Leads i = true) : Goes (T_ref1_Leads i) (T0_ref1_Leads i) (v_ref1_Leads i) :=
  Goes.brk hk (fun hk =>
    Goes.brk hk (fun hk =>
      Goes.leaf) (fun hk =>
      Goes.brk hk (fun hk =>
        Goes.leaf) (fun hk =>
        Goes.leaf))) (fun hk =>
    Goes.nok hk)
def R_ref1_Leads : Bool × Bool → AV := fun (r : Bool × Bool) => .tu [.d .bool r.1, .d .bool r.2]
def S_ref1_Leads (i : El T_api_Ins) : Empty → Nat × St := fun j => nomatch j
theorem en_ref1_Leads (i : El T_api_Ins) (L : Lt) : entryA Go.Proofs.Tryz.prog (clOf t_ref1_Leads) tb_ref1_Leads Go.Proofs.Tryz.f94 c_ref1_Leads L (toForms sg_ref1_Leads (i, ())) = (T0_ref1_Leads i).run (fun v => some (R_ref1_Leads v, tps (toForms sg_ref1_Leads (i, ())))) fun j => L (S_ref1_Leads i j).1 (S_ref1_Leads i j).2 := by kernel_rfl
theorem lp_ref1_Leads (i : El T_api_Ins) : ∀ (L : Lt) (j : Empty), procOf (procsF Go.Proofs.Tryz.prog (clOf t_ref1_Leads) tb_ref1_Leads Go.Proofs.Tryz.f94 c_ref1_Leads (toForms sg_ref1_Leads (i, ()))) (S_ref1_Leads i j).1 L (S_ref1_Leads i j).2 = (T_ref1_Leads i j).run (fun v => some (R_ref1_Leads v, tps (toForms sg_ref1_Leads (i, ())))) fun j => L (S_ref1_Leads i j).1 (S_ref1_Leads i j).2 := fun L j => nomatch j
noncomputable def e_ref1_Leads : Run := entG sg_ref1_Leads R_ref1_Leads (fun a => k_ref1_Leads a.1) (fun a => v_ref1_Leads a.1)
theorem ok_ref1_Leads : EntOK Go.Proofs.Tryz.prog 94 e_ref1_Leads := entG_ok (tb := tb_ref1_Leads) (c := c_ref1_Leads) tk_ref1_Leads (by kernel_rfl) (by kernel_rfl) (by kernel_rfl) (fun a => by kernel_rfl) fun ⟨i, _⟩ hk => evF_goes (c := c_ref1_Leads) (K := fun v => (R_ref1_Leads v, tps (toForms sg_ref1_Leads (i, ())))) (S := S_ref1_Leads i) (by kernel_rfl) (en_ref1_Leads i) (lp_ref1_Leads i) (g_ref1_Leads i hk)
end
end Go.Ev
end

section
set_option linter.unusedSectionVars false
set_option linter.unusedVariables false
set_option linter.unusedSimpArgs false
set_option maxRecDepth 100000
set_option linter.unusedVariables false
open Go Go.Ev
namespace Go.Ev
noncomputable section
/-! ### paling/palingref3.next -/
def sg_ref3_next : Sig := [(true, (.sl T_api_Ins)), (false, (.int .i64))]
noncomputable def t_ref3_next : Tbl := [(94, e_ref1_Leads), (91, e_ref1_Find)]
theorem tk_ref3_next : ∀ p ∈ t_ref3_next, EntOK Go.Proofs.Tryz.prog p.1 p.2 := tbl_cons ok_ref1_Leads (tbl_cons ok_ref1_Find (tbl_nil))
noncomputable def c_ref3_next : Code := Go.Proofs.Tryz.f73.body.getD .skip
def tb_ref3_next : Tb := [(6, ⟨[1, 2, 5, 7], []⟩)]
inductive J_ref3_next where
  | l6 (jumps : Bool) (is : List Bool)
def T_ref3_next (t : List (El T_api_Ins)) (i : Int) : J_ref3_next → JT J_ref3_next (List Bool)
  | .l6 jumps is =>
    .br jumps
      (.br ((decide ((0 : Int) ≤ i)) && (decide (i < (Int.ofNat (List.length t)))))
        (.br (k_ref1_Find t (List.getD t (Int.toNat i) (dflt T_api_Ins)).2.2.2.2.2.1)
          (.br (decide ((v_ref1_Find t (List.getD t (Int.toNat i) (dflt T_api_Ins)).2.2.2.2.2.1) ≥ (0 : Int)))
            (.br ((decide ((0 : Int) ≤ (v_ref1_Find t (List.getD t (Int.toNat i) (dflt T_api_Ins)).2.2.2.2.2.1))) && (decide ((v_ref1_Find t (List.getD t (Int.toNat i) (dflt T_api_Ins)).2.2.2.2.2.1) < (Int.ofNat (List.length is)))))
              (.leaf (List.set is (Int.toNat (v_ref1_Find t (List.getD t (Int.toNat i) (dflt T_api_Ins)).2.2.2.2.2.1)) true))
            (.no))
          (.leaf is))
        (.no))
      (.no))
    (.leaf is)
def T0_ref3_next (t : List (El T_api_Ins)) (i : Int) : JT J_ref3_next (List Bool) :=
  .br ((((Int.ofNat (List.length t)) == (Int.ofNat (List.length t))) && (decide ((0 : Int) ≤ (Int.ofNat (List.length t))))) && (decide (((Int.ofNat (List.length t)) * (1 : Int)) ≤ (limit : Int))))
    (.br (decide (i < (0 : Int)))
      (.leaf (List.replicate (List.length t) false))
    (.br (decide (i ≥ (Int.ofNat (List.length t))))
      (.leaf (List.replicate (List.length t) false))
    (.br ((decide ((0 : Int) ≤ i)) && (decide (i < (Int.ofNat (List.length t)))))
      (.br (k_ref1_Leads (List.getD t (Int.toNat i) (dflt T_api_Ins)))
        (.br (v_ref1_Leads (List.getD t (Int.toNat i) (dflt T_api_Ins))).1
          (.br (decide ((IntKind.i64.wrap (i + (1 : Int))) < (Int.ofNat (List.length t))))
            (.br ((decide ((0 : Int) ≤ (IntKind.i64.wrap (i + (1 : Int))))) && (decide ((IntKind.i64.wrap (i + (1 : Int))) < (Int.ofNat (List.length (List.replicate (List.length t) false))))))
              (.jmp (.l6 (v_ref1_Leads (List.getD t (Int.toNat i) (dflt T_api_Ins))).2 (List.set (List.replicate (List.length t) false) (Int.toNat (IntKind.i64.wrap (i + (1 : Int)))) true)))
            (.no))
          (.jmp (.l6 (v_ref1_Leads (List.getD t (Int.toNat i) (dflt T_api_Ins))).2 (List.replicate (List.length t) false))))
        (.jmp (.l6 (v_ref1_Leads (List.getD t (Int.toNat i) (dflt T_api_Ins))).2 (List.replicate (List.length t) false))))
      (.no))
    (.no))))
  (.no)
def R_ref3_next : List Bool → AV := fun (r : List Bool) => .rw 4 .bool r
def S_ref3_next (t : List (El T_api_Ins)) (i : Int) : J_ref3_next → Nat × St
  | .l6 jumps is => (6, ⟨mkTm 60 [(1, .d (.int .i64) i), (2, .pt 3 0 0), (5, .own 6 0 none), (7, .d .bool jumps)], [(3, 0, .box 48 [.d (.sl T_api_Ins) t] none), (6, 0, .row 4 .bool is false)]⟩)
theorem en_ref3_next (t : List (El T_api_Ins)) (i : Int) (L : Lt) : entryA Go.Proofs.Tryz.prog (clOf t_ref3_next) tb_ref3_next Go.Proofs.Tryz.f73 c_ref3_next L (toForms sg_ref3_next (t, i, ())) = (T0_ref3_next t i).run (fun v => some (R_ref3_next v, tps (toForms sg_ref3_next (t, i, ())))) fun j => L (S_ref3_next t i j).1 (S_ref3_next t i j).2 := by kernel_rfl
theorem lp_ref3_next (t : List (El T_api_Ins)) (i : Int) : ∀ (L : Lt) (j : J_ref3_next), procOf (procsF Go.Proofs.Tryz.prog (clOf t_ref3_next) tb_ref3_next Go.Proofs.Tryz.f73 c_ref3_next (toForms sg_ref3_next (t, i, ()))) (S_ref3_next t i j).1 L (S_ref3_next t i j).2 = (T_ref3_next t i j).run (fun v => some (R_ref3_next v, tps (toForms sg_ref3_next (t, i, ())))) fun j => L (S_ref3_next t i j).1 (S_ref3_next t i j).2
  | L, .l6 jumps is => by kernel_rfl
end
end Go.Ev
end

section
set_option linter.unusedSectionVars false
set_option linter.unusedVariables false
set_option linter.unusedSimpArgs false
/- Both texts tell the same of where an instruction leads. -/
set_option maxRecDepth 100000
set_option linter.unusedVariables false
set_option linter.unusedSimpArgs false
open Go
namespace Go.Ev
theorem k_refLeads' {i : El T_api_Ins} (h : smallText i.2.2.2.2.2.1 = true) : k_ref1_Leads i = true := by
  have h1 : k_ref1_InsRight i = true := h
  unfold k_ref1_Leads
  simp only [h1, cond_true, Bool.cond_self]
theorem leads_eq' {i : El T_api_Ins} (h : smallText i.2.2.2.2.2.1 = true) : v_ref1_Leads i = v_ins_Leads i := by
  have h0 : k_ins_Right i = true := h
  have h1 : k_ref1_InsRight i = true := h
  unfold v_ref1_Leads v_ins_Leads v_ref1_InsRight v_ref1_Jumps
  simp only [h0, h1, cond_true]
  cases h10 : ((show Int from i.1) == 10) with
  | true => simp only [cond_true, bne, h10, Bool.not_true, cond_false]
  | false => simp only [cond_true, bne, h10, Bool.not_false, cond_false]
end Go.Ev
end

section
set_option linter.unusedSectionVars false
set_option linter.unusedVariables false
set_option linter.unusedSimpArgs false
set_option maxRecDepth 100000
set_option linter.unusedVariables false
set_option linter.unusedSimpArgs false
open Go
namespace Go.Ev
/-- What is so, as a row. -/
def rowOf (n : Nat) (M : Nat → Bool) : List Bool := (List.range n).map M
theorem rowOf_length {n : Nat} {M : Nat → Bool} : (rowOf n M).length = n := by simp [rowOf]
theorem rowOf_get {n : Nat} {M : Nat → Bool} {i : Nat} (h : i < n) : (rowOf n M)[i]? = some (M i) := by simp [rowOf, h]
theorem rowOf_set {n : Nat} {M : Nat → Bool} {i : Nat} : (rowOf n M).set i true = rowOf n fun j => M j || (j == i) := by
  apply List.ext_getElem?
  intro j
  rw [List.getElem?_set, rowOf_length]
  by_cases hj : j < n
  · rw [rowOf_get hj, rowOf_get hj]
    by_cases hi : i = j
    · subst hi; rw [if_pos rfl, if_pos hj]; simp
    · rw [if_neg hi]
      have : (j == i) = false := by simp; omega
      rw [this, Bool.or_false]
  · rw [List.getElem?_eq_none (by rw [rowOf_length]; omega), List.getElem?_eq_none (by rw [rowOf_length]; omega)]
    by_cases hi : i = j
    · rw [if_pos hi, if_neg (by omega)]
    · rw [if_neg hi]
theorem rowOf_congr {n : Nat} {M M' : Nat → Bool} (h : ∀ i, i < n → M i = M' i) : rowOf n M = rowOf n M' := List.map_congr_left fun i hi => h i (List.mem_range.1 hi)
theorem rowOf_none {n : Nat} : List.replicate n false = rowOf n fun _ => false := by
  apply List.ext_getElem?
  intro j
  by_cases hj : j < n
  · rw [rowOf_get hj]; simp [hj]
  · rw [List.getElem?_eq_none (by simp; omega), List.getElem?_eq_none (by rw [rowOf_length]; omega)]
def v_ref3_next (t : List (El T_api_Ins)) (i : Int) : List Bool := rowOf t.length (nextB t i)
def k_ref3_next (t : List (El T_api_Ins)) (i : Int) : Bool := flowOK t
theorem g_ref3_next (t : List (El T_api_Ins)) (i : Int) (hk : k_ref3_next t i = true) : Goes (T_ref3_next t i) (T0_ref3_next t i) (v_ref3_next t i) := by
  have hlen := flowOK_len hk
  have hout : ∀ i, ¬ (0 ≤ i ∧ i < (t.length : Int)) → List.replicate t.length false = rowOf t.length (nextB t i) := fun i h => by
    rw [rowOf_none]
    refine rowOf_congr fun j hj => ?_
    unfold nextB
    rw [decide_eq_false (fun hh => h ⟨hh.1, hh.2.1⟩), Bool.false_and]
  unfold T0_ref3_next v_ref3_next
  rw [goes_br, if_pos (by unfold limit; simp; omega), goes_br]
  by_cases h0 : i < 0
  · rw [if_pos (decide_eq_true h0), ← hout i (fun h => by omega)]; exact .leaf
  rw [if_neg (by simpa using h0), goes_br]
  obtain ⟨j, rfl⟩ := Int.eq_ofNat_of_zero_le (show 0 ≤ i by omega)
  by_cases h1 : (t.length : Int) ≤ (j : Int)
  · rw [if_pos (decide_eq_true (show (j : Int) ≥ Int.ofNat t.length from h1)), ← hout _ (fun h => by omega)]; exact .leaf
  have hj : j < t.length := by omega
  rw [if_neg (by simp; omega), goes_br, if_pos (bound_len hj), goes_br, Int.toNat_natCast]
  have hmem : t.getD j (dflt T_api_Ins) ∈ t := by rw [getD_lt hj]; exact List.getElem_mem hj
  have hsm := flowOK_text hk hmem
  rw [if_pos (k_refLeads' hsm), leads_eq' hsm]
  have kf : k_ref1_Find t (t.getD j (dflt T_api_Ins)).2.2.2.2.2.1 = true := flowOK_find hk
  have vf : v_ref1_Find t (t.getD j (dflt T_api_Ins)).2.2.2.2.2.1 = findI (t.getD j (dflt T_api_Ins)).2.2.2.2.2.1 t 0 := rfl
  have hw : IntKind.i64.wrap ((j : Int) + 1) = ((j + 1 : Nat) : Int) := wrap_succ (by omega)
  have hr := @toOf_lt t j
  -- the jump
  have l6 : ∀ (M : Nat → Bool), Goes (T_ref3_next t (j : Int)) (.jmp (.l6 (v_ins_Leads (t.getD j (dflt T_api_Ins))).2 (rowOf t.length M))) (rowOf t.length fun k => M k || decide (toOf t j = (k : Int))) := by
    intro M
    rw [goes_jmp, T_ref3_next, goes_br]
    by_cases hjmp : (v_ins_Leads (t.getD j (dflt T_api_Ins))).2 = true
    · have hto : toOf t j = findI (t.getD j (dflt T_api_Ins)).2.2.2.2.2.1 t 0 := by unfold toOf; rw [if_pos hjmp]
      rw [hto] at hr
      rw [if_pos hjmp, goes_br, if_pos (bound_len hj), goes_br, Int.toNat_natCast, if_pos kf, goes_br, vf, hto]
      generalize findI (t.getD j (dflt T_api_Ins)).2.2.2.2.2.1 t 0 = to at hr
      by_cases h2 : to ≥ 0
      · obtain ⟨k, rfl⟩ := Int.eq_ofNat_of_zero_le h2
        rw [if_pos (decide_eq_true h2), goes_br, if_pos (by rw [rowOf_length]; exact bound_len (by omega)), Int.toNat_natCast, rowOf_set]
        rw [show (rowOf t.length fun l => M l || decide ((k : Int) = (l : Int))) = rowOf t.length fun l => M l || (l == k) from rowOf_congr fun l _ => by
          congr 1
          rw [Bool.eq_iff_iff]; simp; omega]
        exact .leaf
      · rw [if_neg (by simpa using h2)]
        rw [show (rowOf t.length fun l => M l || decide (to = (l : Int))) = rowOf t.length M from rowOf_congr fun l _ => by
          rw [decide_eq_false (by omega), Bool.or_false]]
        exact .leaf
    · have hto : toOf t j = -1 := by unfold toOf; rw [if_neg hjmp]
      rw [if_neg hjmp, hto]
      rw [show (rowOf t.length fun l => M l || decide ((-1 : Int) = (l : Int))) = rowOf t.length M from rowOf_congr fun l _ => by
          rw [decide_eq_false (by omega), Bool.or_false]]
      exact .leaf
  have hB : ∀ k, k < t.length → nextB t (j : Int) k = ((onOf t j && decide ((k : Int) = (j : Int) + 1)) || decide (toOf t j = (k : Int))) := fun k hk => by
    unfold nextB
    rw [decide_eq_true (by omega), Bool.true_and, Int.toNat_natCast]
  rw [rowOf_none, goes_br]
  by_cases hon : (v_ins_Leads (t.getD j (dflt T_api_Ins))).1 = true
  · have hon' : onOf t j = true := hon
    rw [if_pos hon, goes_br, hw]
    by_cases hin : j + 1 < t.length
    · rw [if_pos (lt_len hin), goes_br, rowOf_length, if_pos (bound_len hin), Int.toNat_natCast, rowOf_set]
      have := l6 fun k => false || (k == j + 1)
      rw [show rowOf t.length (nextB t (j : Int)) = rowOf t.length fun k => (false || (k == j + 1)) || decide (toOf t j = (k : Int)) from rowOf_congr fun k hk => by
        rw [hB k hk, hon', Bool.true_and, Bool.false_or]
        congr 1
        rw [Bool.eq_iff_iff]; simp; omega]
      exact this
    · rw [if_neg (by rw [lt_len_not hin]; decide)]
      have := l6 fun _ => false
      rw [show rowOf t.length (nextB t (j : Int)) = rowOf t.length fun k => false || decide (toOf t j = (k : Int)) from rowOf_congr fun k hk => by
        rw [hB k hk, hon', Bool.true_and, decide_eq_false (show ¬ (k : Int) = (j : Int) + 1 by omega)]]
      exact this
  · have hon' : onOf t j = false := Bool.eq_false_iff.2 hon
    rw [if_neg hon]
    have := l6 fun _ => false
    rw [show rowOf t.length (nextB t (j : Int)) = rowOf t.length fun k => false || decide (toOf t j = (k : Int)) from rowOf_congr fun k hk => by
      rw [hB k hk, hon', Bool.false_and]]
    exact this
end Go.Ev
end

section
set_option linter.unusedSectionVars false
set_option linter.unusedVariables false
set_option linter.unusedSimpArgs false
set_option maxRecDepth 100000
set_option linter.unusedVariables false
open Go Go.Ev
namespace Go.Ev
noncomputable section
noncomputable def e_ref3_next : Run := entG sg_ref3_next R_ref3_next (fun a => k_ref3_next a.1 a.2.1) (fun a => v_ref3_next a.1 a.2.1)
theorem ok_ref3_next : EntOK Go.Proofs.Tryz.prog 73 e_ref3_next := entG_ok (tb := tb_ref3_next) (c := c_ref3_next) tk_ref3_next (by kernel_rfl) (by kernel_rfl) (by kernel_rfl) (fun a => by kernel_rfl) fun ⟨t, i, _⟩ hk => evF_goes (c := c_ref3_next) (K := fun v => (R_ref3_next v, tps (toForms sg_ref3_next (t, i, ())))) (S := S_ref3_next t i) (by kernel_rfl) (en_ref3_next t i) (lp_ref3_next t i) (g_ref3_next t i hk)
end
end Go.Ev
end

section
set_option linter.unusedSectionVars false
set_option linter.unusedVariables false
set_option linter.unusedSimpArgs false
set_option maxRecDepth 100000
set_option linter.unusedVariables false
open Go Go.Ev
namespace Go.Ev
noncomputable section
/-! ### paling/palingref3.from -/
def sg_ref3_from : Sig := [(true, (.sl T_api_Ins)), (false, (.int .i64))]
noncomputable def t_ref3_from : Tbl := [(73, e_ref3_next)]
theorem tk_ref3_from : ∀ p ∈ t_ref3_from, EntOK Go.Proofs.Tryz.prog p.1 p.2 := tbl_cons ok_ref3_next (tbl_nil)
noncomputable def c_ref3_from : Code := Go.Proofs.Tryz.f49.body.getD .skip
def tb_ref3_from : Tb := [(4, ⟨[2, 5, 6], []⟩), (9, ⟨[2, 5, 6, 7], []⟩), (17, ⟨[2, 5, 6, 7, 8, 9], []⟩)]
inductive J_ref3_from where
  | l4 (moved : Bool) (is : List Bool)
  | l9 (k : Int) (moved : Bool) (is : List Bool)
  | l17 (k : Int) (more : List Bool) (moved : Bool) (j_ : Int) (is : List Bool)
def T_ref3_from (t : List (El T_api_Ins)) (i : Int) : J_ref3_from → JT J_ref3_from (List Bool)
  | .l4 moved is =>
    .br moved
      (.jmp (.l9 (0 : Int) false is))
    (.leaf is)
  | .l9 k moved is =>
    .br (decide (k < (Int.ofNat (List.length is))))
      (.br ((decide ((0 : Int) ≤ k)) && (decide (k < (Int.ofNat (List.length is)))))
        (.br (! (List.getD is (Int.toNat k) (dflt .bool)))
          (.jmp (.l9 (IntKind.i64.wrap (k + (1 : Int))) moved is))
        (.br (k_ref3_next t k)
          (.jmp (.l17 k (v_ref3_next t k) moved (0 : Int) is))
        (.no)))
      (.no))
    (.jmp (.l4 moved is))
  | .l17 k more moved j_ is =>
    .br (decide (j_ < (Int.ofNat (List.length is))))
      (.br ((decide ((0 : Int) ≤ j_)) && (decide (j_ < (Int.ofNat (List.length more)))))
        (.br (List.getD more (Int.toNat j_) (dflt .bool))
          (.br ((decide ((0 : Int) ≤ j_)) && (decide (j_ < (Int.ofNat (List.length is)))))
            (.br (! (List.getD is (Int.toNat j_) (dflt .bool)))
              (.br ((decide ((0 : Int) ≤ j_)) && (decide (j_ < (Int.ofNat (List.length is)))))
                (.jmp (.l17 k more true (IntKind.i64.wrap (j_ + (1 : Int))) (List.set is (Int.toNat j_) true)))
              (.no))
            (.jmp (.l17 k more moved (IntKind.i64.wrap (j_ + (1 : Int))) is)))
          (.no))
        (.jmp (.l17 k more moved (IntKind.i64.wrap (j_ + (1 : Int))) is)))
      (.no))
    (.jmp (.l9 (IntKind.i64.wrap (k + (1 : Int))) moved is))
def T0_ref3_from (t : List (El T_api_Ins)) (i : Int) : JT J_ref3_from (List Bool) :=
  .br (k_ref3_next t i)
    (.jmp (.l4 true (v_ref3_next t i)))
  (.no)
def R_ref3_from : List Bool → AV := fun (r : List Bool) => .rw 4 .bool r
def S_ref3_from (t : List (El T_api_Ins)) (i : Int) : J_ref3_from → Nat × St
  | .l4 moved is => (4, ⟨mkTm 49 [(2, .pt 3 0 0), (5, .own 6 0 none), (6, .d .bool moved)], [(3, 0, .box 48 [.d (.sl T_api_Ins) t] none), (6, 0, .row 4 .bool is false)]⟩)
  | .l9 k moved is => (9, ⟨mkTm 49 [(2, .pt 3 0 0), (5, .own 6 0 none), (6, .d .bool moved), (7, .d (.int .i64) k)], [(3, 0, .box 48 [.d (.sl T_api_Ins) t] none), (6, 0, .row 4 .bool is false)]⟩)
  | .l17 k more moved j_ is => (17, ⟨mkTm 49 [(2, .pt 3 0 0), (5, .own 6 0 none), (6, .d .bool moved), (7, .d (.int .i64) k), (8, .own 9 0 none), (9, .d (.int .i64) j_)], [(3, 0, .box 48 [.d (.sl T_api_Ins) t] none), (6, 0, .row 4 .bool is false), (9, 0, .row 4 .bool more false)]⟩)
theorem en_ref3_from (t : List (El T_api_Ins)) (i : Int) (L : Lt) : entryA Go.Proofs.Tryz.prog (clOf t_ref3_from) tb_ref3_from Go.Proofs.Tryz.f49 c_ref3_from L (toForms sg_ref3_from (t, i, ())) = (T0_ref3_from t i).run (fun v => some (R_ref3_from v, tps (toForms sg_ref3_from (t, i, ())))) fun j => L (S_ref3_from t i j).1 (S_ref3_from t i j).2 := by kernel_rfl
theorem lp_ref3_from (t : List (El T_api_Ins)) (i : Int) : ∀ (L : Lt) (j : J_ref3_from), procOf (procsF Go.Proofs.Tryz.prog (clOf t_ref3_from) tb_ref3_from Go.Proofs.Tryz.f49 c_ref3_from (toForms sg_ref3_from (t, i, ()))) (S_ref3_from t i j).1 L (S_ref3_from t i j).2 = (T_ref3_from t i j).run (fun v => some (R_ref3_from v, tps (toForms sg_ref3_from (t, i, ())))) fun j => L (S_ref3_from t i j).1 (S_ref3_from t i j).2
  | L, .l4 moved is => by kernel_rfl
  | L, .l9 k moved is => by kernel_rfl
  | L, .l17 k more moved j_ is => by kernel_rfl
end
end Go.Ev
end

section
set_option linter.unusedSectionVars false
set_option linter.unusedVariables false
set_option linter.unusedSimpArgs false
/- Rows of what is so. -/
set_option linter.unusedVariables false
open Go
namespace Go.Ev
theorem rowOf_getD {n : Nat} {M : Nat → Bool} {i : Nat} (h : i < n) : List.getD (rowOf n M) i (dflt .bool) = M i := by
  simp [List.getD, rowOf_get h]
theorem rowOf_put {n : Nat} {M : Nat → Bool} {i : Nat} {b : Bool} : (rowOf n M).set i b = rowOf n fun j => if j = i then b else M j := by
  apply List.ext_getElem?
  intro j
  rw [List.getElem?_set, rowOf_length]
  by_cases hj : j < n
  · rw [rowOf_get hj, rowOf_get hj]
    by_cases hi : i = j
    · subst hi; rw [if_pos rfl, if_pos hj, if_pos rfl]
    · rw [if_neg hi, if_neg (fun e => hi e.symm)]
  · rw [List.getElem?_eq_none (by rw [rowOf_length]; omega), List.getElem?_eq_none (by rw [rowOf_length]; omega)]
    by_cases hi : i = j
    · rw [if_pos hi, if_neg (by omega)]
    · rw [if_neg hi]
end Go.Ev
end

section
set_option linter.unusedSectionVars false
set_option linter.unusedVariables false
set_option linter.unusedSimpArgs false
set_option maxRecDepth 100000
set_option linter.unusedVariables false
set_option linter.unusedSimpArgs false
open Go
namespace Go.Ev
noncomputable def v_ref3_from (t : List (El T_api_Ins)) (i : Int) : List Bool := rowOf t.length (fromB t i)
def k_ref3_from (t : List (El T_api_Ins)) (i : Int) : Bool := flowOK t
theorem g_ref3_from (t : List (El T_api_Ins)) (i : Int) (hk : k_ref3_from t i = true) : Goes (T_ref3_from t i) (T0_ref3_from t i) (v_ref3_from t i) := by
  have hlen := flowOK_len hk
  generalize hn : t.length = n at hlen
  -- what holds on the way
  let OK : (Nat → Bool) → (Nat → Bool) → Bool → Prop := fun M0 M moved => (∀ j, nextB t i j = true → M j = true) ∧ (∀ j, M j = true → Come (fun k j => nextB t (k : Int) j) (nextB t i) j) ∧ (moved = false → M = M0) ∧ (moved = true → card n M0 < card n M)
  have hltM : ∀ {M0 M moved}, OK M0 M moved → ∀ j, M j = true → j < n := fun h j hj => by
    have := come_lt (n := t.length) (fun j => nextB_lt) (fun k j => nextB_lt) (h.2.1 j hj)
    omega
  have loop : ∀ m, ∀ M : Nat → Bool, n - card n M = m → (∀ j, nextB t i j = true → M j = true) → (∀ j, M j = true → Come (fun k j => nextB t (k : Int) j) (nextB t i) j) → Goes (T_ref3_from t i) (.jmp (.l4 true (rowOf n M))) (v_ref3_from t i) := by
    intro m
    induction m using Nat.strongRecOn with
    | _ m ih =>
    intro M0 hm hA hC
    -- within an instruction's row
    have inner : ∀ k, k < n → ∀ Z : Prop, (∀ M moved, OK M0 M moved → (moved = false → Z ∧ ∀ j, nextB t (k : Int) j = true → M0 j = true) → Goes (T_ref3_from t i) (.jmp (.l9 ((k + 1 : Nat) : Int) moved (rowOf n M))) (v_ref3_from t i)) →
        ∀ j, j ≤ n → ∀ M moved, M k = true → OK M0 M moved → (moved = false → Z ∧ ∀ x, x < j → nextB t (k : Int) x = true → M0 x = true) → Goes (T_ref3_from t i) (.jmp (.l17 (k : Int) (rowOf n (nextB t (k : Int))) moved (j : Int) (rowOf n M))) (v_ref3_from t i) := by
      intro k hkn Z hz
      refine down ?_ fun j hj ih2 => ?_
      · intro M moved hMk hok hcl
        rw [goes_jmp, T_ref3_from, goes_br, rowOf_length, if_neg (by rw [lt_len_not (Nat.lt_irrefl _)]; decide), wrap_succ (by omega)]
        exact hz M moved hok fun hm => ⟨(hcl hm).1, fun j hj => (hcl hm).2 j (by have := nextB_lt hj; omega) hj⟩
      · intro M moved hMk hok hcl
        rw [goes_jmp, T_ref3_from, goes_br, rowOf_length, if_pos (lt_len hj), goes_br, rowOf_length, if_pos (bound_len hj), goes_br, Int.toNat_natCast, rowOf_getD hj, wrap_succ (by omega)]
        by_cases hN : nextB t (k : Int) j = true
        · rw [if_pos hN, goes_br, if_pos (bound_len hj), goes_br, rowOf_getD hj]
          cases hMj : M j with
          | true =>
            rw [if_neg (by decide)]
            refine ih2 M moved hMk hok fun hm => ⟨(hcl hm).1, fun x hx hxN => ?_⟩
            by_cases hxj : x = j
            · subst hxj; rw [← hok.2.2.1 hm]; exact hMj
            · exact (hcl hm).2 x (by omega) hxN
          | false =>
            rw [if_pos (by decide), goes_br, if_pos (bound_len hj), rowOf_set]
            have hca := card_add hMj hj
            refine ih2 (fun x => M x || (x == j)) true (by rw [hMk]; rfl) ⟨fun x hx => (show (M x || (x == j)) = true by rw [hok.1 x hx]; rfl), fun x hx => ?_, fun h => (by cases h), fun _ => ?_⟩ (fun h => by cases h)
            · simp only [Bool.or_eq_true, beq_iff_eq] at hx
              rcases hx with hx | hx
              · exact hok.2.1 x hx
              · subst hx; exact .step (hok.2.1 k hMk) hN
            · cases moved with
              | true => have := hok.2.2.2 rfl; omega
              | false => rw [hok.2.2.1 rfl] at hca; rw [hok.2.2.1 rfl]; omega
        · rw [if_neg hN]
          refine ih2 M moved hMk hok fun hm => ⟨(hcl hm).1, fun x hx hxN => ?_⟩
          by_cases hxj : x = j
          · subst hxj; exact absurd hxN hN
          · exact (hcl hm).2 x (by omega) hxN
    have pass : ∀ k, k ≤ n → ∀ M moved, OK M0 M moved → (moved = false → ∀ k' j, k' < k → M0 k' = true → nextB t (k' : Int) j = true → M0 j = true) → Goes (T_ref3_from t i) (.jmp (.l9 (k : Int) moved (rowOf n M))) (v_ref3_from t i) := by
      refine down ?_ fun k hkn ih2 => ?_
      · intro M moved hok hcl
        rw [goes_jmp, T_ref3_from, goes_br, rowOf_length, if_neg (by rw [lt_len_not (Nat.lt_irrefl _)]; decide)]
        cases moved with
        | true =>
          have h1 := hok.2.2.2 rfl
          have h2 := @card_le n M
          exact ih (n - card n M) (by omega) M rfl hok.1 hok.2.1
        | false =>
          have e := hok.2.2.1 rfl
          subst e
          rw [goes_jmp, T_ref3_from, goes_br, if_neg (by decide)]
          have hv : rowOf n M = v_ref3_from t i := by
            unfold v_ref3_from fromB
            rw [hn]
            exact rowOf_congr fun j _ => comeB_eq hok.1 (fun k j hk hj => hcl rfl k j (hltM hok k hk) hk hj) hok.2.1 j
          rw [hv]; exact .leaf
      · intro M moved hok hcl
        rw [goes_jmp, T_ref3_from, goes_br, rowOf_length, if_pos (lt_len hkn), goes_br, if_pos (bound_len hkn), goes_br, Int.toNat_natCast, rowOf_getD hkn]
        cases hMk : M k with
        | false =>
          rw [if_pos (by decide), wrap_succ (by omega)]
          refine ih2 M moved hok fun hm k' j hk' hk1 hj => ?_
          by_cases e : k' = k
          · subst e; rw [← hok.2.2.1 hm, hMk] at hk1; cases hk1
          · exact hcl hm k' j (by omega) hk1 hj
        | true =>
          have kn : k_ref3_next t (k : Int) = true := hk
          rw [if_neg (by decide), goes_br, if_pos kn]
          have hvn : v_ref3_next t (k : Int) = rowOf n (nextB t (k : Int)) := by unfold v_ref3_next; rw [hn]
          rw [hvn]
          refine inner k hkn (∀ k' j, k' < k → M0 k' = true → nextB t (k' : Int) j = true → M0 j = true) (fun M' moved' hok' hcl' => ih2 M' moved' hok' fun hm k' j hk' hk1 hj => ?_) 0 (Nat.zero_le _) M moved hMk hok (fun hm => ⟨hcl hm, fun x hx => by omega⟩)
          by_cases e : k' = k
          · subst e; exact (hcl' hm).2 j hj
          · exact (hcl' hm).1 k' j (by omega) hk1 hj
    rw [goes_jmp, T_ref3_from, goes_br, if_pos rfl]
    exact pass 0 (Nat.zero_le _) M0 false ⟨hA, hC, fun _ => rfl, fun h => by cases h⟩ fun _ k' j h => by omega
  have kn : k_ref3_next t i = true := hk
  unfold T0_ref3_from
  rw [goes_br, if_pos kn]
  have hvn : v_ref3_next t i = rowOf n (nextB t i) := by unfold v_ref3_next; rw [hn]
  rw [hvn]
  exact loop _ (nextB t i) rfl (fun j h => h) (fun j h => .start h)
end Go.Ev
end

section
set_option linter.unusedSectionVars false
set_option linter.unusedVariables false
set_option linter.unusedSimpArgs false
set_option maxRecDepth 100000
set_option linter.unusedVariables false
open Go Go.Ev
namespace Go.Ev
noncomputable section
noncomputable def e_ref3_from : Run := entG sg_ref3_from R_ref3_from (fun a => k_ref3_from a.1 a.2.1) (fun a => v_ref3_from a.1 a.2.1)
theorem ok_ref3_from : EntOK Go.Proofs.Tryz.prog 49 e_ref3_from := entG_ok (tb := tb_ref3_from) (c := c_ref3_from) tk_ref3_from (by kernel_rfl) (by kernel_rfl) (by kernel_rfl) (fun a => by kernel_rfl) fun ⟨t, i, _⟩ hk => evF_goes (c := c_ref3_from) (K := fun v => (R_ref3_from v, tps (toForms sg_ref3_from (t, i, ())))) (S := S_ref3_from t i) (by kernel_rfl) (en_ref3_from t i) (lp_ref3_from t i) (g_ref3_from t i hk)
end
end Go.Ev
end

section
set_option linter.unusedSectionVars false
set_option linter.unusedVariables false
set_option linter.unusedSimpArgs false
set_option maxRecDepth 100000
set_option linter.unusedVariables false
open Go Go.Ev
namespace Go.Ev
noncomputable section
/-! ### paling/palingref3.follows -/
def sg_ref3_follows : Sig := [(true, T_api_Prog), (true, T_api_Access), (true, T_api_Access)]
noncomputable def t_ref3_follows : Tbl := [(49, e_ref3_from)]
theorem tk_ref3_follows : ∀ p ∈ t_ref3_follows, EntOK Go.Proofs.Tryz.prog p.1 p.2 := tbl_cons ok_ref3_from (tbl_nil)
noncomputable def c_ref3_follows : Code := Go.Proofs.Tryz.f72.body.getD .skip
def tb_ref3_follows : Tb := []
def T_ref3_follows (p : El T_api_Prog) (a : El T_api_Access) (b : El T_api_Access) : Empty → JT Empty (Bool) := fun j => nomatch j
def T0_ref3_follows (p : El T_api_Prog) (a : El T_api_Access) (b : El T_api_Access) : JT Empty (Bool) :=
  .br (a.1 != b.1)
    (.leaf false)
  (.br ((a.1 == b.1) && ((a.2.1 == b.2.1) && ((a.2.2.1 == b.2.2.1) && ((a.2.2.2.1 == b.2.2.2.1) && ((a.2.2.2.2.1 == b.2.2.2.2.1) && (a.2.2.2.2.2 == b.2.2.2.2.2))))))
    (.leaf true)
  (.br (a.2.1 == b.2.1)
    (.br (decide (b.2.2.1 > a.2.2.1))
      (.leaf true)
    (.br ((decide ((0 : Int) ≤ a.1)) && (decide (a.1 < (Int.ofNat (List.length p.2)))))
      (.br (k_ref3_from (List.getD p.2 (Int.toNat a.1) (dflt (.sl T_api_Ins))) a.2.1)
        (.br ((decide ((0 : Int) ≤ b.2.1)) && (decide (b.2.1 < (Int.ofNat (List.length (v_ref3_from (List.getD p.2 (Int.toNat a.1) (dflt (.sl T_api_Ins))) a.2.1))))))
          (.leaf (List.getD (v_ref3_from (List.getD p.2 (Int.toNat a.1) (dflt (.sl T_api_Ins))) a.2.1) (Int.toNat b.2.1) (dflt .bool)))
        (.no))
      (.no))
    (.no)))
  (.br ((decide ((0 : Int) ≤ a.1)) && (decide (a.1 < (Int.ofNat (List.length p.2)))))
    (.br (k_ref3_from (List.getD p.2 (Int.toNat a.1) (dflt (.sl T_api_Ins))) a.2.1)
      (.br ((decide ((0 : Int) ≤ b.2.1)) && (decide (b.2.1 < (Int.ofNat (List.length (v_ref3_from (List.getD p.2 (Int.toNat a.1) (dflt (.sl T_api_Ins))) a.2.1))))))
        (.leaf (List.getD (v_ref3_from (List.getD p.2 (Int.toNat a.1) (dflt (.sl T_api_Ins))) a.2.1) (Int.toNat b.2.1) (dflt .bool)))
      (.no))
    (.no))
  (.no))))
def v_ref3_follows (p : El T_api_Prog) (a : El T_api_Access) (b : El T_api_Access) : Bool :=
  bif (a.1 != b.1) then
    false
  else bif ((a.1 == b.1) && ((a.2.1 == b.2.1) && ((a.2.2.1 == b.2.2.1) && ((a.2.2.2.1 == b.2.2.2.1) && ((a.2.2.2.2.1 == b.2.2.2.2.1) && (a.2.2.2.2.2 == b.2.2.2.2.2)))))) then
    true
  else bif (a.2.1 == b.2.1) then
    bif (decide (b.2.2.1 > a.2.2.1)) then
      true
    else bif ((decide ((0 : Int) ≤ a.1)) && (decide (a.1 < (Int.ofNat (List.length p.2))))) then
      bif (k_ref3_from (List.getD p.2 (Int.toNat a.1) (dflt (.sl T_api_Ins))) a.2.1) then
        bif ((decide ((0 : Int) ≤ b.2.1)) && (decide (b.2.1 < (Int.ofNat (List.length (v_ref3_from (List.getD p.2 (Int.toNat a.1) (dflt (.sl T_api_Ins))) a.2.1)))))) then
          (List.getD (v_ref3_from (List.getD p.2 (Int.toNat a.1) (dflt (.sl T_api_Ins))) a.2.1) (Int.toNat b.2.1) (dflt .bool))
        else false
      else false
    else false
  else bif ((decide ((0 : Int) ≤ a.1)) && (decide (a.1 < (Int.ofNat (List.length p.2))))) then
    bif (k_ref3_from (List.getD p.2 (Int.toNat a.1) (dflt (.sl T_api_Ins))) a.2.1) then
      bif ((decide ((0 : Int) ≤ b.2.1)) && (decide (b.2.1 < (Int.ofNat (List.length (v_ref3_from (List.getD p.2 (Int.toNat a.1) (dflt (.sl T_api_Ins))) a.2.1)))))) then
        (List.getD (v_ref3_from (List.getD p.2 (Int.toNat a.1) (dflt (.sl T_api_Ins))) a.2.1) (Int.toNat b.2.1) (dflt .bool))
      else false
    else false
  else false
def k_ref3_follows (p : El T_api_Prog) (a : El T_api_Access) (b : El T_api_Access) : Bool :=
  bif (a.1 != b.1) then
    true
  else bif ((a.1 == b.1) && ((a.2.1 == b.2.1) && ((a.2.2.1 == b.2.2.1) && ((a.2.2.2.1 == b.2.2.2.1) && ((a.2.2.2.2.1 == b.2.2.2.2.1) && (a.2.2.2.2.2 == b.2.2.2.2.2)))))) then
    true
  else bif (a.2.1 == b.2.1) then
    bif (decide (b.2.2.1 > a.2.2.1)) then
      true
    else bif ((decide ((0 : Int) ≤ a.1)) && (decide (a.1 < (Int.ofNat (List.length p.2))))) then
      bif (k_ref3_from (List.getD p.2 (Int.toNat a.1) (dflt (.sl T_api_Ins))) a.2.1) then
        bif ((decide ((0 : Int) ≤ b.2.1)) && (decide (b.2.1 < (Int.ofNat (List.length (v_ref3_from (List.getD p.2 (Int.toNat a.1) (dflt (.sl T_api_Ins))) a.2.1)))))) then
          true
        else false
      else false
    else false
  else bif ((decide ((0 : Int) ≤ a.1)) && (decide (a.1 < (Int.ofNat (List.length p.2))))) then
    bif (k_ref3_from (List.getD p.2 (Int.toNat a.1) (dflt (.sl T_api_Ins))) a.2.1) then
      bif ((decide ((0 : Int) ≤ b.2.1)) && (decide (b.2.1 < (Int.ofNat (List.length (v_ref3_from (List.getD p.2 (Int.toNat a.1) (dflt (.sl T_api_Ins))) a.2.1)))))) then
        true
      else false
    else false
  else false
theorem g_ref3_follows (p : El T_api_Prog) (a : El T_api_Access) (b : El T_api_Access) (hk : k_ref3_follows p a b = true) : Goes (T_ref3_follows p a b) (T0_ref3_follows p a b) (v_ref3_follows p a b) :=
  Goes.brk hk (fun hk =>
    Goes.leaf) (fun hk =>
    Goes.brk hk (fun hk =>
      Goes.leaf) (fun hk =>
      Goes.brk hk (fun hk =>
        Goes.brk hk (fun hk =>
          Goes.leaf) (fun hk =>
          Goes.brk hk (fun hk =>
            Goes.brk hk (fun hk =>
              Goes.brk hk (fun hk =>
                Goes.leaf) (fun hk =>
                Goes.nok hk)) (fun hk =>
              Goes.nok hk)) (fun hk =>
            Goes.nok hk))) (fun hk =>
        Goes.brk hk (fun hk =>
          Goes.brk hk (fun hk =>
            Goes.brk hk (fun hk =>
              Goes.leaf) (fun hk =>
              Goes.nok hk)) (fun hk =>
            Goes.nok hk)) (fun hk =>
          Goes.nok hk))))
def R_ref3_follows : Bool → AV := fun (r : Bool) => .d .bool r
def S_ref3_follows (p : El T_api_Prog) (a : El T_api_Access) (b : El T_api_Access) : Empty → Nat × St := fun j => nomatch j
theorem en_ref3_follows (p : El T_api_Prog) (a : El T_api_Access) (b : El T_api_Access) (L : Lt) : entryA Go.Proofs.Tryz.prog (clOf t_ref3_follows) tb_ref3_follows Go.Proofs.Tryz.f72 c_ref3_follows L (toForms sg_ref3_follows (p, a, b, ())) = (T0_ref3_follows p a b).run (fun v => some (R_ref3_follows v, tps (toForms sg_ref3_follows (p, a, b, ())))) fun j => L (S_ref3_follows p a b j).1 (S_ref3_follows p a b j).2 := by kernel_rfl
theorem lp_ref3_follows (p : El T_api_Prog) (a : El T_api_Access) (b : El T_api_Access) : ∀ (L : Lt) (j : Empty), procOf (procsF Go.Proofs.Tryz.prog (clOf t_ref3_follows) tb_ref3_follows Go.Proofs.Tryz.f72 c_ref3_follows (toForms sg_ref3_follows (p, a, b, ()))) (S_ref3_follows p a b j).1 L (S_ref3_follows p a b j).2 = (T_ref3_follows p a b j).run (fun v => some (R_ref3_follows v, tps (toForms sg_ref3_follows (p, a, b, ())))) fun j => L (S_ref3_follows p a b j).1 (S_ref3_follows p a b j).2 := fun L j => nomatch j
noncomputable def e_ref3_follows : Run := entG sg_ref3_follows R_ref3_follows (fun a => k_ref3_follows a.1 a.2.1 a.2.2.1) (fun a => v_ref3_follows a.1 a.2.1 a.2.2.1)
theorem ok_ref3_follows : EntOK Go.Proofs.Tryz.prog 72 e_ref3_follows := entG_ok (tb := tb_ref3_follows) (c := c_ref3_follows) tk_ref3_follows (by kernel_rfl) (by kernel_rfl) (by kernel_rfl) (fun a => by kernel_rfl) fun ⟨p, a, b, _⟩ hk => evF_goes (c := c_ref3_follows) (K := fun v => (R_ref3_follows v, tps (toForms sg_ref3_follows (p, a, b, ())))) (S := S_ref3_follows p a b) (by kernel_rfl) (en_ref3_follows p a b) (lp_ref3_follows p a b) (g_ref3_follows p a b hk)
end
end Go.Ev
end

section
set_option linter.unusedSectionVars false
set_option linter.unusedVariables false
set_option linter.unusedSimpArgs false
set_option maxRecDepth 100000
set_option linter.unusedVariables false
open Go Go.Ev
namespace Go.Ev
noncomputable section
/-! ### paling/palingref3.back -/
def sg_ref3_back : Sig := [(true, T_api_Prog), (false, (.sl T_api_Access)), (false, (.int .i64))]
noncomputable def t_ref3_back : Tbl := [(23, e_ref3_Clash), (72, e_ref3_follows)]
theorem tk_ref3_back : ∀ p ∈ t_ref3_back, EntOK Go.Proofs.Tryz.prog p.1 p.2 := tbl_cons ok_ref3_Clash (tbl_cons ok_ref3_follows (tbl_nil))
noncomputable def c_ref3_back : Code := Go.Proofs.Tryz.f48.body.getD .skip
def tb_ref3_back : Tb := [(8, ⟨[1, 2, 3, 7, 8, 9, 95, 105, 147, 156], []⟩), (14, ⟨[1, 2, 3, 7, 8, 10, 95, 105, 147, 156], []⟩), (19, ⟨[1, 2, 3, 7, 8, 10, 11, 95, 105, 147, 156], []⟩), (24, ⟨[1, 2, 3, 7, 8, 10, 11, 12, 147, 156], []⟩), (31, ⟨[1, 2, 7, 8, 13, 147, 156], []⟩), (36, ⟨[1, 2, 7, 8, 13, 14], []⟩)]
inductive J_ref3_back where
  | l8 (i : Int) (is : List Bool)
  | l14 (is : List Bool) (moved : Bool)
  | l19 (is : List Bool) (i : Int) (moved : Bool)
  | l24 (is : List Bool) (moved : Bool) (k : Int) (i : Int)
  | l31 (is : List Bool) (i : Int) (out : List Bool)
  | l36 (is : List Bool) (k : Int) (out : List Bool) (i : Int)
def T_ref3_back (p : El T_api_Prog) (l : List (El T_api_Access)) (a : Int) : J_ref3_back → JT J_ref3_back (List Bool)
  | .l8 i is =>
    .br (decide (i < (Int.ofNat (List.length l))))
      (.br ((decide ((0 : Int) ≤ a)) && (decide (a < (Int.ofNat (List.length l)))))
        (.br ((decide ((0 : Int) ≤ i)) && (decide (i < (Int.ofNat (List.length l)))))
          (.br ((decide ((0 : Int) ≤ i)) && (decide (i < (Int.ofNat (List.length is)))))
            (.jmp (.l8 (IntKind.i64.wrap (i + (1 : Int))) (List.set is (Int.toNat i) (v_ref3_Clash (List.getD l (Int.toNat a) (dflt T_api_Access)) (List.getD l (Int.toNat i) (dflt T_api_Access))))))
          (.no))
        (.no))
      (.no))
    (.jmp (.l14 is true))
  | .l14 is moved =>
    .br moved
      (.jmp (.l19 is (0 : Int) false))
    (.jmp (.l31 is (0 : Int) (List.replicate (List.length l) false)))
  | .l19 is i moved =>
    .br (decide (i < (Int.ofNat (List.length l))))
      (.jmp (.l24 is moved (0 : Int) i))
    (.jmp (.l14 is moved))
  | .l24 is moved k i =>
    .br (decide (k < (Int.ofNat (List.length l))))
      (.br ((decide ((0 : Int) ≤ i)) && (decide (i < (Int.ofNat (List.length is)))))
        (.br (List.getD is (Int.toNat i) (dflt .bool))
          (.br ((decide ((0 : Int) ≤ k)) && (decide (k < (Int.ofNat (List.length is)))))
            (.br (! (List.getD is (Int.toNat k) (dflt .bool)))
              (.br ((decide ((0 : Int) ≤ k)) && (decide (k < (Int.ofNat (List.length l)))))
                (.br ((decide ((0 : Int) ≤ a)) && (decide (a < (Int.ofNat (List.length l)))))
                  (.br ((List.getD l (Int.toNat k) (dflt T_api_Access)).1 != (List.getD l (Int.toNat a) (dflt T_api_Access)).1)
                    (.br ((decide ((0 : Int) ≤ i)) && (decide (i < (Int.ofNat (List.length l)))))
                      (.br ((decide ((0 : Int) ≤ k)) && (decide (k < (Int.ofNat (List.length l)))))
                        (.br (v_ref3_Clash (List.getD l (Int.toNat i) (dflt T_api_Access)) (List.getD l (Int.toNat k) (dflt T_api_Access)))
                          (.br ((decide ((0 : Int) ≤ k)) && (decide (k < (Int.ofNat (List.length is)))))
                            (.jmp (.l24 (List.set is (Int.toNat k) true) true (IntKind.i64.wrap (k + (1 : Int))) i))
                          (.no))
                        (.br ((decide ((0 : Int) ≤ i)) && (decide (i < (Int.ofNat (List.length l)))))
                          (.br ((decide ((0 : Int) ≤ k)) && (decide (k < (Int.ofNat (List.length l)))))
                            (.br (k_ref3_follows p (List.getD l (Int.toNat i) (dflt T_api_Access)) (List.getD l (Int.toNat k) (dflt T_api_Access)))
                              (.br (v_ref3_follows p (List.getD l (Int.toNat i) (dflt T_api_Access)) (List.getD l (Int.toNat k) (dflt T_api_Access)))
                                (.br ((decide ((0 : Int) ≤ k)) && (decide (k < (Int.ofNat (List.length is)))))
                                  (.jmp (.l24 (List.set is (Int.toNat k) true) true (IntKind.i64.wrap (k + (1 : Int))) i))
                                (.no))
                              (.jmp (.l24 is moved (IntKind.i64.wrap (k + (1 : Int))) i)))
                            (.no))
                          (.no))
                        (.no)))
                      (.no))
                    (.no))
                  (.jmp (.l24 is moved (IntKind.i64.wrap (k + (1 : Int))) i)))
                (.no))
              (.no))
            (.jmp (.l24 is moved (IntKind.i64.wrap (k + (1 : Int))) i)))
          (.no))
        (.jmp (.l19 is (IntKind.i64.wrap (i + (1 : Int))) moved)))
      (.no))
    (.jmp (.l19 is (IntKind.i64.wrap (i + (1 : Int))) moved))
  | .l31 is i out =>
    .br (decide (i < (Int.ofNat (List.length l))))
      (.jmp (.l36 is (0 : Int) out i))
    (.leaf out)
  | .l36 is k out i =>
    .br (decide (k < (Int.ofNat (List.length l))))
      (.br ((decide ((0 : Int) ≤ i)) && (decide (i < (Int.ofNat (List.length l)))))
        (.br ((decide ((0 : Int) ≤ a)) && (decide (a < (Int.ofNat (List.length l)))))
          (.br ((List.getD l (Int.toNat i) (dflt T_api_Access)).1 == (List.getD l (Int.toNat a) (dflt T_api_Access)).1)
            (.br ((decide ((0 : Int) ≤ i)) && (decide (i < (Int.ofNat (List.length out)))))
              (.br (List.getD out (Int.toNat i) (dflt .bool))
                (.br ((decide ((0 : Int) ≤ i)) && (decide (i < (Int.ofNat (List.length out)))))
                  (.jmp (.l36 is (IntKind.i64.wrap (k + (1 : Int))) (List.set out (Int.toNat i) true) i))
                (.no))
              (.br ((decide ((0 : Int) ≤ k)) && (decide (k < (Int.ofNat (List.length is)))))
                (.br (List.getD is (Int.toNat k) (dflt .bool))
                  (.br ((decide ((0 : Int) ≤ k)) && (decide (k < (Int.ofNat (List.length l)))))
                    (.br ((decide ((0 : Int) ≤ i)) && (decide (i < (Int.ofNat (List.length l)))))
                      (.br ((decide ((0 : Int) ≤ i)) && (decide (i < (Int.ofNat (List.length out)))))
                        (.jmp (.l36 is (IntKind.i64.wrap (k + (1 : Int))) (List.set out (Int.toNat i) (v_ref3_Clash (List.getD l (Int.toNat k) (dflt T_api_Access)) (List.getD l (Int.toNat i) (dflt T_api_Access)))) i))
                      (.no))
                    (.no))
                  (.no))
                (.br ((decide ((0 : Int) ≤ i)) && (decide (i < (Int.ofNat (List.length out)))))
                  (.jmp (.l36 is (IntKind.i64.wrap (k + (1 : Int))) (List.set out (Int.toNat i) false) i))
                (.no)))
              (.no)))
            (.no))
          (.jmp (.l31 is (IntKind.i64.wrap (i + (1 : Int))) out)))
        (.no))
      (.no))
    (.jmp (.l31 is (IntKind.i64.wrap (i + (1 : Int))) out))
def T0_ref3_back (p : El T_api_Prog) (l : List (El T_api_Access)) (a : Int) : JT J_ref3_back (List Bool) :=
  .br ((((Int.ofNat (List.length l)) == (Int.ofNat (List.length l))) && (decide ((0 : Int) ≤ (Int.ofNat (List.length l))))) && (decide (((Int.ofNat (List.length l)) * (1 : Int)) ≤ (limit : Int))))
    (.br (decide (a < (0 : Int)))
      (.leaf (List.replicate (List.length l) false))
    (.br (decide (a ≥ (Int.ofNat (List.length l))))
      (.leaf (List.replicate (List.length l) false))
    (.br ((((Int.ofNat (List.length l)) == (Int.ofNat (List.length l))) && (decide ((0 : Int) ≤ (Int.ofNat (List.length l))))) && (decide (((Int.ofNat (List.length l)) * (1 : Int)) ≤ (limit : Int))))
      (.jmp (.l8 (0 : Int) (List.replicate (List.length l) false)))
    (.no))))
  (.no)
def R_ref3_back : List Bool → AV := fun (r : List Bool) => .rw 4 .bool r
def S_ref3_back (p : El T_api_Prog) (l : List (El T_api_Access)) (a : Int) : J_ref3_back → Nat × St
  | .l8 i is => (8, ⟨mkTm 161 [(1, .d (.sl T_api_Access) l), (2, .d (.int .i64) a), (3, .pt 4 0 0), (7, .own 8 0 none), (8, .own 9 0 none), (9, .d (.int .i64) i)], [(4, 0, .box 26 [.d (.sl T_api_Sym) p.1, .d (.sl (.sl T_api_Ins)) p.2] none), (8, 0, .row 4 .bool (List.replicate (List.length l) false) false), (9, 0, .row 4 .bool is false)]⟩)
  | .l14 is moved => (14, ⟨mkTm 161 [(1, .d (.sl T_api_Access) l), (2, .d (.int .i64) a), (3, .pt 4 0 0), (7, .own 8 0 none), (8, .own 9 0 none), (10, .d .bool moved)], [(4, 0, .box 26 [.d (.sl T_api_Sym) p.1, .d (.sl (.sl T_api_Ins)) p.2] none), (8, 0, .row 4 .bool (List.replicate (List.length l) false) false), (9, 0, .row 4 .bool is false)]⟩)
  | .l19 is i moved => (19, ⟨mkTm 161 [(1, .d (.sl T_api_Access) l), (2, .d (.int .i64) a), (3, .pt 4 0 0), (7, .own 8 0 none), (8, .own 9 0 none), (10, .d .bool moved), (11, .d (.int .i64) i)], [(4, 0, .box 26 [.d (.sl T_api_Sym) p.1, .d (.sl (.sl T_api_Ins)) p.2] none), (8, 0, .row 4 .bool (List.replicate (List.length l) false) false), (9, 0, .row 4 .bool is false)]⟩)
  | .l24 is moved k i => (24, ⟨mkTm 161 [(1, .d (.sl T_api_Access) l), (2, .d (.int .i64) a), (3, .pt 4 0 0), (7, .own 8 0 none), (8, .own 9 0 none), (10, .d .bool moved), (11, .d (.int .i64) i), (12, .d (.int .i64) k)], [(4, 0, .box 26 [.d (.sl T_api_Sym) p.1, .d (.sl (.sl T_api_Ins)) p.2] none), (8, 0, .row 4 .bool (List.replicate (List.length l) false) false), (9, 0, .row 4 .bool is false)]⟩)
  | .l31 is i out => (31, ⟨mkTm 161 [(1, .d (.sl T_api_Access) l), (2, .d (.int .i64) a), (7, .own 8 0 none), (8, .own 9 0 none), (13, .d (.int .i64) i)], [(8, 0, .row 4 .bool out false), (9, 0, .row 4 .bool is false)]⟩)
  | .l36 is k out i => (36, ⟨mkTm 161 [(1, .d (.sl T_api_Access) l), (2, .d (.int .i64) a), (7, .own 8 0 none), (8, .own 9 0 none), (13, .d (.int .i64) i), (14, .d (.int .i64) k)], [(8, 0, .row 4 .bool out false), (9, 0, .row 4 .bool is false)]⟩)
theorem en_ref3_back (p : El T_api_Prog) (l : List (El T_api_Access)) (a : Int) (L : Lt) : entryA Go.Proofs.Tryz.prog (clOf t_ref3_back) tb_ref3_back Go.Proofs.Tryz.f48 c_ref3_back L (toForms sg_ref3_back (p, l, a, ())) = (T0_ref3_back p l a).run (fun v => some (R_ref3_back v, tps (toForms sg_ref3_back (p, l, a, ())))) fun j => L (S_ref3_back p l a j).1 (S_ref3_back p l a j).2 := by kernel_rfl
theorem lp_ref3_back (p : El T_api_Prog) (l : List (El T_api_Access)) (a : Int) : ∀ (L : Lt) (j : J_ref3_back), procOf (procsF Go.Proofs.Tryz.prog (clOf t_ref3_back) tb_ref3_back Go.Proofs.Tryz.f48 c_ref3_back (toForms sg_ref3_back (p, l, a, ()))) (S_ref3_back p l a j).1 L (S_ref3_back p l a j).2 = (T_ref3_back p l a j).run (fun v => some (R_ref3_back v, tps (toForms sg_ref3_back (p, l, a, ())))) fun j => L (S_ref3_back p l a j).1 (S_ref3_back p l a j).2
  | L, .l8 i is => by kernel_rfl
  | L, .l14 is moved => by kernel_rfl
  | L, .l19 is i moved => by kernel_rfl
  | L, .l24 is moved k i => by kernel_rfl
  | L, .l31 is i out => by kernel_rfl
  | L, .l36 is k out i => by kernel_rfl
end
end Go.Ev
end

section
set_option linter.unusedSectionVars false
set_option linter.unusedVariables false
set_option linter.unusedSimpArgs false
/- Both texts tell the same of what follows an access. -/
set_option maxRecDepth 100000
set_option linter.unusedVariables false
set_option linter.unusedSimpArgs false
open Go
namespace Go.Ev
theorem refClash_eq (l : List Acc) (i j : Nat) : v_ref3_Clash (accA l i) (accA l j) = clB l i j := rfl
theorem acc_facts {p : El T_api_Prog} (h : smallAll p = true) {i : Nat} (hi : i < (ofC p).length) :
    0 ≤ thA (ofC p) i ∧ thA (ofC p) i < (p.2.length : Int) ∧ flowOK (thrOf p (ofC p) i) = true ∧ 0 ≤ inA (ofC p) i ∧ inA (ofC p) i < ((thrOf p (ofC p) i).length : Int) := by
  have hA := smallA h
  have hm : accA (ofC p) i ∈ ofC p := by unfold accA; rw [getD_lt hi]; exact List.getElem_mem hi
  obtain ⟨u, x, j, y, h1, h2, h3, h4, h5⟩ := acc_where hm
  have hth : thA (ofC p) i = (u : Int) := h4
  have hin : inA (ofC p) i = (j : Int) := h5
  have hu := (List.getElem?_eq_some_iff.1 h1).1
  have hj := (List.getElem?_eq_some_iff.1 h2).1
  have ht : thrOf p (ofC p) i = x := by
    unfold thrOf
    rw [hth, Int.toNat_natCast, List.getD_eq_getElem?_getD, h1]; rfl
  rw [ht]
  exact ⟨by omega, by omega, flow_small (hA.thr x (List.mem_of_getElem? h1)), by omega, by omega⟩
theorem acc_inj {p : El T_api_Prog} {i k : Nat} (hi : i < (ofC p).length) (hk : k < (ofC p).length) (e : accA (ofC p) i = accA (ofC p) k) : i = k := by
  have ho := List.pairwise_iff_getElem.1 (ofC_ord p)
  have gi : accA (ofC p) i = (ofC p)[i] := by unfold accA; rw [getD_lt hi]
  have gk : accA (ofC p) k = (ofC p)[k] := by unfold accA; rw [getD_lt hk]
  have irr : ∀ a : El T_api_Access, ¬ ltAX a a := fun a h => by
    have : ∀ t k q : Int, ¬ ltNX t k q t k q := fun t k q h => by
      rcases h with h | ⟨_, h | ⟨_, h⟩⟩ <;> omega
    exact this _ _ _ h
  rw [gi, gk] at e
  by_cases h : i = k
  · exact h
  · exfalso
    by_cases hl : i < k
    · have := ho i k hi hk hl
      rw [e] at this
      exact irr _ this
    · have := ho k i hk hi (by omega)
      rw [← e] at this
      exact irr _ this
theorem follows_eq {p : El T_api_Prog} (h : smallAll p = true) {i k : Nat} (hi : i < (ofC p).length) (hk : k < (ofC p).length) :
    k_ref3_follows p (accA (ofC p) i) (accA (ofC p) k) = true ∧ v_ref3_follows p (accA (ofC p) i) (accA (ofC p) k) = behB p (ofC p) i k := by
  obtain ⟨i0, i1, i2, i3, i4⟩ := acc_facts h hi
  obtain ⟨k0, k1, k2, k3, k4⟩ := acc_facts h hk
  have hinj := fun e => acc_inj hi hk e
  have a1 : (accA (ofC p) i).1 = thA (ofC p) i := rfl
  have a2 : (accA (ofC p) i).2.1 = inA (ofC p) i := rfl
  have a3 : (accA (ofC p) i).2.2.1 = paA (ofC p) i := rfl
  have b1 : (accA (ofC p) k).1 = thA (ofC p) k := rfl
  have b2 : (accA (ofC p) k).2.1 = inA (ofC p) k := rfl
  have b3 : (accA (ofC p) k).2.2.1 = paA (ofC p) k := rfl
  have ht : List.getD p.2 (Int.toNat (thA (ofC p) i)) (dflt (.sl T_api_Ins)) = thrOf p (ofC p) i := rfl
  have kf : k_ref3_from (thrOf p (ofC p) i) (inA (ofC p) i) = true := i2
  have vf : v_ref3_from (thrOf p (ofC p) i) (inA (ofC p) i) = rowOf (thrOf p (ofC p) i).length (fromB (thrOf p (ofC p) i) (inA (ofC p) i)) := rfl
  have htri : (decide ((0 : Int) ≤ thA (ofC p) i) && decide (thA (ofC p) i < Int.ofNat p.2.length)) = true := by
    rw [Bool.and_eq_true, decide_eq_true_eq, decide_eq_true_eq]; exact ⟨i0, i1⟩
  unfold k_ref3_follows v_ref3_follows behB
  rw [decide_eq_true hk, Bool.true_and]
  simp only [a1, a2, a3, b1, b2, b3, ht, kf, vf, htri, cond_true, rowOf_length]
  by_cases e1 : thA (ofC p) i = thA (ofC p) k
  · have htk : thrOf p (ofC p) k = thrOf p (ofC p) i := by unfold thrOf; rw [e1]
    rw [htk] at k4
    have hbr : (decide ((0 : Int) ≤ inA (ofC p) k) && decide (inA (ofC p) k < Int.ofNat (thrOf p (ofC p) i).length)) = true := by
      rw [Bool.and_eq_true, decide_eq_true_eq, decide_eq_true_eq]; exact ⟨k3, k4⟩
    have hrow : List.getD (rowOf (thrOf p (ofC p) i).length (fromB (thrOf p (ofC p) i) (inA (ofC p) i))) (inA (ofC p) k).toNat (dflt .bool) = fromB (thrOf p (ofC p) i) (inA (ofC p) i) (inA (ofC p) k).toNat := rowOf_getD (by omega)
    have hb2 : decide (inA (ofC p) k < Int.ofNat (thrOf p (ofC p) i).length) = true := decide_eq_true k4
    simp only [hb2, hrow, cond_true, e1, bne_self_eq_false, beq_self_eq_true, cond_false, Bool.true_and, decide_eq_true k3]
    by_cases e2 : k = i
    · subst e2
      simp
    · have hne : accA (ofC p) i ≠ accA (ofC p) k := fun e => e2 (hinj e).symm
      have hstr : ((accA (ofC p) i).2.1 == (accA (ofC p) k).2.1 && ((accA (ofC p) i).2.2.1 == (accA (ofC p) k).2.2.1 && ((accA (ofC p) i).2.2.2.1 == (accA (ofC p) k).2.2.2.1 && ((accA (ofC p) i).2.2.2.2.1 == (accA (ofC p) k).2.2.2.2.1 && (accA (ofC p) i).2.2.2.2.2 == (accA (ofC p) k).2.2.2.2.2)))) = false := by
        rw [← Bool.not_eq_true]
        simp only [Bool.and_eq_true, beq_iff_eq]
        rintro ⟨h1, h2, h3, h4, h5⟩
        exact hne (Prod.ext e1 (Prod.ext h1 (Prod.ext h2 (Prod.ext h3 (Prod.ext h4 h5)))))
      rw [a2, a3, b2, b3] at hstr
      have e2b : (k == i) = false := by simpa using e2
      simp only [hstr, e2b, cond_false, Bool.false_or]
      by_cases e3 : inA (ofC p) i = inA (ofC p) k
      · rw [e3]
        simp only [beq_self_eq_true, cond_true, Bool.true_and]
        cases hq : decide (paA (ofC p) k > paA (ofC p) i) <;> simp
      · have e3b : (inA (ofC p) i == inA (ofC p) k) = false := by simpa using e3
        have e3c : (inA (ofC p) k == inA (ofC p) i) = false := by simpa using fun e => e3 e.symm
        simp only [e3b, e3c, cond_false, Bool.false_and, Bool.false_or, and_self]
  · have e1b : (thA (ofC p) i != thA (ofC p) k) = true := by simpa using e1
    have e1c : (thA (ofC p) k == thA (ofC p) i) = false := by simpa using fun e => e1 e.symm
    simp only [e1b, e1c, cond_true, Bool.false_and, and_self]
end Go.Ev
end

section
set_option linter.unusedSectionVars false
set_option linter.unusedVariables false
set_option linter.unusedSimpArgs false
set_option maxRecDepth 100000
set_option linter.unusedVariables false
set_option linter.unusedSimpArgs false
open Go
namespace Go.Ev
noncomputable def v_ref3_back (p : El T_api_Prog) (l : List (El T_api_Access)) (a : Int) : List Bool := rowOf l.length fun b => decide (0 ≤ a ∧ a < (l.length : Int)) && backB p l a.toNat b
def k_ref3_back (p : El T_api_Prog) (l : List (El T_api_Access)) (a : Int) : Bool := smallAll p && same (.sl T_api_Access) l (ofC p)
theorem any_succ {P : Nat → Bool} {k : Nat} : (List.range (k + 1)).any P = ((List.range k).any P || P k) := by
  rw [List.range_succ, List.any_append]; simp
theorem g_ref3_back (p : El T_api_Prog) (l : List (El T_api_Access)) (a : Int) (hk : k_ref3_back p l a = true) : Goes (T_ref3_back p l a) (T0_ref3_back p l a) (v_ref3_back p l a) := by
  unfold k_ref3_back at hk
  rw [Bool.and_eq_true] at hk
  obtain ⟨hs, hsame⟩ := hk
  have hl := same_iff.1 hsame
  have hN := ofC_len hs
  rw [← hl] at hN
  have hfol : ∀ i k, i < l.length → k < l.length → k_ref3_follows p (accA l i) (accA l k) = true ∧ v_ref3_follows p (accA l i) (accA l k) = behB p l i k := fun i k hi hk => by
    rw [hl] at *
    exact follows_eq hs hi hk
  have hmk : ((((Int.ofNat (List.length l)) == (Int.ofNat (List.length l))) && (decide ((0 : Int) ≤ (Int.ofNat (List.length l))))) && (decide (((Int.ofNat (List.length l)) * (1 : Int)) ≤ (limit : Int)))) = true := by
    simp [limit]; omega
  obtain ⟨n, hn⟩ : ∃ n, l.length = n := ⟨_, rfl⟩
  have none : ¬ (0 ≤ a ∧ a < (n : Int)) → List.replicate n false = v_ref3_back p l a := fun h => by
    unfold v_ref3_back
    rw [hn, rowOf_none]
    exact rowOf_congr fun i _ => by rw [decide_eq_false h]; rfl
  obtain ⟨T, hT⟩ : ∃ T, T = T_ref3_back p l a := ⟨_, rfl⟩
  rw [← hT]
  unfold T0_ref3_back
  rw [hn] at hN hfol hmk ⊢
  rw [goes_br, if_pos hmk, goes_br]
  by_cases h0 : a < 0
  · rw [if_pos (decide_eq_true h0), none (fun h => by omega)]; exact .leaf
  rw [if_neg (by simpa using h0), goes_br]
  by_cases h1 : a ≥ Int.ofNat n
  · rw [if_pos (decide_eq_true h1), none (fun h => by simp at h1; omega)]; exact .leaf
  obtain ⟨a, rfl⟩ := Int.eq_ofNat_of_zero_le (show 0 ≤ a by omega)
  have ha : a < n := by simp at h1; omega
  rw [if_neg (by simpa using h1), goes_br, if_pos hmk]
  have hval : v_ref3_back p l (a : Int) = rowOf n (backB p l a) := by
    unfold v_ref3_back
    rw [hn]
    exact rowOf_congr fun i _ => by rw [decide_eq_true ⟨by omega, by omega⟩, Int.toNat_natCast]; rfl
  rw [hval]
  have ea : List.getD l a (dflt T_api_Access) = accA l a := rfl
  have nn : (List.length l) = n := hn
  -- the answer, out of what the chains come to
  have out : Goes T (.jmp (.l31 (rowOf n (isB p l a)) (0 : Int) (List.replicate n false))) (rowOf n (backB p l a)) := by
    have outer : ∀ i, i ≤ n → Goes T (.jmp (.l31 (rowOf n (isB p l a)) (i : Int) (rowOf n fun j => decide (j < i) && backB p l a j))) (rowOf n (backB p l a)) := by
      refine down ?_ fun i hi ih => ?_
      · rw [goes_jmp, hT, T_ref3_back, ← hT, goes_br, nn, if_neg (by simp)]
        rw [show (rowOf n fun j => decide (j < n) && backB p l a j) = rowOf n (backB p l a) from rowOf_congr fun j hj => by rw [decide_eq_true hj]; rfl]
        exact .leaf
      · have inner : ∀ k, k ≤ n → thA l i = thA l a → Goes T (.jmp (.l36 (rowOf n (isB p l a)) (k : Int) (rowOf n fun j => if j = i then (List.range k).any (fun q => isB p l a q && clB l q i) else decide (j < i) && backB p l a j) (i : Int))) (rowOf n (backB p l a)) := by
          refine down ?_ fun k hk ih2 => ?_
          · intro ht
            rw [goes_jmp, hT, T_ref3_back, ← hT, goes_br, nn, if_neg (by simp), wrap_succ (by omega)]
            rw [show (rowOf n fun j => if j = i then (List.range n).any (fun q => isB p l a q && clB l q i) else decide (j < i) && backB p l a j) = (rowOf n fun j => decide (j < i + 1) && backB p l a j) from rowOf_congr fun j hj => by
              by_cases e : j = i
              · subst e
                rw [if_pos rfl, decide_eq_true (by omega), Bool.true_and]
                unfold backB
                rw [ht, beq_self_eq_true, Bool.true_and, hn]
              · rw [if_neg e]
                by_cases e2 : j < i
                · rw [decide_eq_true e2, decide_eq_true (by omega)]
                · rw [decide_eq_false e2, decide_eq_false (by omega)]]
            exact ih
          · intro ht
            have hrow : ∀ M : Nat → Bool, List.getD (rowOf n M) i (dflt .bool) = M i := fun M => rowOf_getD hi
            have hrk : List.getD (rowOf n (isB p l a)) k (dflt .bool) = isB p l a k := rowOf_getD hk
            have et : ((accA l i).1 == (accA l a).1) = true := by show (thA l i == thA l a) = true; rw [ht]; simp
            have ei : List.getD l i (dflt T_api_Access) = accA l i := rfl
            have ek : List.getD l k (dflt T_api_Access) = accA l k := rfl
            have lt1 : ∀ {x : Nat}, x < n → decide ((x : Int) < Int.ofNat n) = true := fun h => decide_eq_true (by simpa using h)
            have key : ∀ b, b = ((List.range (k + 1)).any fun q => isB p l a q && clB l q i) → Goes T (.jmp (.l36 (rowOf n (isB p l a)) ((k + 1 : Nat) : Int) ((rowOf n fun j => if j = i then (List.range k).any (fun q => isB p l a q && clB l q i) else decide (j < i) && backB p l a j).set i b) (i : Int))) (rowOf n (backB p l a)) := fun b hb => by
              rw [rowOf_put, show (rowOf n fun j => if j = i then b else if j = i then (List.range k).any (fun q => isB p l a q && clB l q i) else decide (j < i) && backB p l a j) = (rowOf n fun j => if j = i then (List.range (k + 1)).any (fun q => isB p l a q && clB l q i) else decide (j < i) && backB p l a j) from rowOf_congr fun j _ => by
                by_cases e : j = i
                · rw [if_pos e, if_pos e, hb]
                · rw [if_neg e, if_neg e, if_neg e]]
              exact ih2 ht
            rw [any_succ] at key
            rw [goes_jmp, hT, T_ref3_back, ← hT]
            simp only [goes_br, nn, rowOf_length, lt1 hk, lt1 hi, lt1 ha, nng, Bool.and_self, if_true, Int.toNat_natCast, ei, ek, ea, et, hrow, hrk, refClash_eq, wrap_succ (k := k) (by omega)]
            generalize hq : ((List.range k).any fun q => isB p l a q && clB l q i) = q at *
            cases q with
            | true =>
              rw [if_pos rfl]
              exact key true (by simp)
            | false =>
              rw [if_neg (by decide)]
              cases hb : isB p l a k with
              | true =>
                rw [if_pos rfl]
                exact key _ (by rw [hb]; simp)
              | false =>
                rw [if_neg (by decide)]
                exact key false (by rw [hb]; simp)
        rw [goes_jmp, hT, T_ref3_back, ← hT, goes_br, nn, if_pos (decide_eq_true (by simpa using hi))]
        by_cases ht : thA l i = thA l a
        · have := inner 0 (Nat.zero_le _) ht
          rw [show (rowOf n fun j => if j = i then (List.range 0).any (fun q => isB p l a q && clB l q i) else decide (j < i) && backB p l a j) = (rowOf n fun j => decide (j < i) && backB p l a j) from rowOf_congr fun j _ => by
            by_cases e : j = i
            · subst e; simp
            · rw [if_neg e]] at this
          exact this
        · have lt1 : ∀ {x : Nat}, x < n → decide ((x : Int) < Int.ofNat n) = true := fun h => decide_eq_true (by simpa using h)
          have et : ((accA l i).1 == (accA l a).1) = false := by show (thA l i == thA l a) = false; simpa using ht
          have ei : List.getD l i (dflt T_api_Access) = accA l i := rfl
          have hlt0 : decide ((0 : Int) < Int.ofNat n) = true := decide_eq_true (by simp; omega)
          rw [goes_jmp, hT, T_ref3_back, ← hT]
          simp only [goes_br, nn, hlt0, lt1 hi, lt1 ha, nng, Bool.and_self, if_true, Int.toNat_natCast, ei, ea, et, Bool.false_eq_true, if_false, wrap_succ (k := i) (by omega)]
          rw [show (rowOf n fun j => decide (j < i) && backB p l a j) = (rowOf n fun j => decide (j < i + 1) && backB p l a j) from rowOf_congr fun j _ => by
            by_cases e : j = i
            · subst e
              have : backB p l a j = false := by unfold backB; rw [show (thA l j == thA l a) = false by simpa using ht]; rfl
              rw [this, Bool.and_false, Bool.and_false]
            · by_cases e2 : j < i
              · rw [decide_eq_true e2, decide_eq_true (by omega)]
              · rw [decide_eq_false e2, decide_eq_false (by omega)]]
          exact ih
    have := outer 0 (Nat.zero_le _)
    rw [show (rowOf n fun j => decide (j < 0) && backB p l a j) = List.replicate n false from by
      rw [rowOf_none]; exact rowOf_congr fun j _ => by simp] at this
    exact this
  -- the rounds
  let OK : (Nat → Bool) → (Nat → Bool) → Bool → Prop := fun M0 M moved => (∀ j, chS l a j = true → M j = true) ∧ (∀ j, M j = true → Come (chB p l a) (chS l a) j) ∧ (moved = false → M = M0) ∧ (moved = true → card n M0 < card n M)
  have lt1 : ∀ {x : Nat}, x < n → decide ((x : Int) < Int.ofNat n) = true := fun h => decide_eq_true (by simpa using h)
  have hMlt : ∀ {M : Nat → Bool}, (∀ j, M j = true → Come (chB p l a) (chS l a) j) → ∀ j, M j = true → j < n := fun h j hj => by
    have := is_lt (p := p) (l := l) (a := a) (comeB_iff.2 (h j hj))
    omega
  have loop : ∀ m, ∀ M : Nat → Bool, n - card n M = m → (∀ j, chS l a j = true → M j = true) → (∀ j, M j = true → Come (chB p l a) (chS l a) j) → Goes T (.jmp (.l14 (rowOf n M) true)) (rowOf n (backB p l a)) := by
    intro m
    induction m using Nat.strongRecOn with
    | _ m ih =>
    intro M0 hm hA hC
    have inner : ∀ i, i < n → ∀ Z : Prop, (∀ M moved, OK M0 M moved → (moved = false → Z ∧ (M0 i = true → ∀ j, chB p l a i j = true → M0 j = true)) → Goes T (.jmp (.l19 (rowOf n M) ((i + 1 : Nat) : Int) moved)) (rowOf n (backB p l a))) →
        ∀ k, k ≤ n → ∀ M moved, OK M0 M moved → (moved = false → Z ∧ ∀ x, x < k → M0 i = true → chB p l a i x = true → M0 x = true) → Goes T (.jmp (.l24 (rowOf n M) moved (k : Int) (i : Int))) (rowOf n (backB p l a)) := by
      intro i hi Z hz
      refine down ?_ fun k hk ih2 => ?_
      · intro M moved hok hcl
        rw [goes_jmp, hT, T_ref3_back, ← hT, goes_br, nn, if_neg (by simp), wrap_succ (by omega)]
        refine hz M moved hok fun hm => ⟨(hcl hm).1, fun h1 j hj => (hcl hm).2 j ?_ h1 hj⟩
        unfold chB at hj
        simp only [Bool.and_eq_true, decide_eq_true_eq] at hj
        omega
      · intro M moved hok hcl
        obtain ⟨f1, f2⟩ := hfol i k hi hk
        have hri : List.getD (rowOf n M) i (dflt .bool) = M i := rowOf_getD hi
        have hrk : List.getD (rowOf n M) k (dflt .bool) = M k := rowOf_getD hk
        have ei : List.getD l i (dflt T_api_Access) = accA l i := rfl
        have ek : List.getD l k (dflt T_api_Access) = accA l k := rfl
        have tk : (accA l k).1 = thA l k := rfl
        have ta : (accA l a).1 = thA l a := rfl
        rw [goes_jmp, hT, T_ref3_back, ← hT]
        simp only [goes_br, nn, rowOf_length, lt1 hk, lt1 hi, lt1 ha, nng, Bool.and_self, if_true, Int.toNat_natCast, ei, ek, ea, hri, hrk, refClash_eq, f1, f2, tk, ta, wrap_succ (k := k) (by omega), wrap_succ (k := i) (by omega)]
        cases hMi : M i with
        | false =>
          rw [if_neg (by decide)]
          refine hz M moved hok fun hm => ⟨(hcl hm).1, fun h1 => ?_⟩
          rw [← hok.2.2.1 hm, hMi] at h1; cases h1
        | true =>
          rw [if_pos rfl]
          cases hMk : M k with
          | true =>
            rw [if_neg (by decide)]
            refine ih2 M moved hok fun hm => ⟨(hcl hm).1, fun x hx h1 h2 => ?_⟩
            by_cases e : x = k
            · subst e; rw [← hok.2.2.1 hm]; exact hMk
            · exact (hcl hm).2 x (by omega) h1 h2
          | false =>
            rw [if_pos (by decide)]
            have skip : chB p l a i k = false → Goes T (.jmp (.l24 (rowOf n M) moved ((k + 1 : Nat) : Int) (i : Int))) (rowOf n (backB p l a)) := fun hc => ih2 M moved hok fun hm => ⟨(hcl hm).1, fun x hx h1 h2 => by
              by_cases e : x = k
              · subst e; rw [hc] at h2; cases h2
              · exact (hcl hm).2 x (by omega) h1 h2⟩
            have set : chB p l a i k = true → Goes T (.jmp (.l24 ((rowOf n M).set k true) true ((k + 1 : Nat) : Int) (i : Int))) (rowOf n (backB p l a)) := fun hc => by
              have hca := card_add hMk hk
              rw [rowOf_set]
              refine ih2 _ true ⟨fun x hx => (show (M x || (x == k)) = true by rw [hok.1 x hx]; rfl), fun x hx => ?_, fun h => (by cases h), fun _ => ?_⟩ (fun h => by cases h)
              · simp only [Bool.or_eq_true, beq_iff_eq] at hx
                rcases hx with hx | hx
                · exact hok.2.1 x hx
                · subst hx; exact .step (hok.2.1 i hMi) hc
              · cases moved with
                | true => have := hok.2.2.2 rfl; omega
                | false => rw [hok.2.2.1 rfl] at hca; rw [hok.2.2.1 rfl]; omega
            have hce : chB p l a i k = (!(thA l k == thA l a) && (clB l i k || behB p l i k)) := by unfold chB; rw [hn, decide_eq_true hk, Bool.true_and]
            by_cases c1 : thA l k = thA l a
            · rw [if_neg (by simp [c1])]
              exact skip (by rw [hce]; simp [c1])
            · rw [if_pos (by simpa using c1)]
              have c1b : (thA l k == thA l a) = false := by simpa using c1
              rw [c1b] at hce
              cases c2 : clB l i k with
              | true =>
                rw [if_pos rfl]
                exact set (by rw [hce, c2]; rfl)
              | false =>
                rw [if_neg (by decide)]
                cases c3 : behB p l i k with
                | true =>
                  rw [if_pos rfl]
                  exact set (by rw [hce, c2, c3]; rfl)
                | false =>
                  rw [if_neg (by decide)]
                  exact skip (by rw [hce, c2, c3]; rfl)
    have pass : ∀ i, i ≤ n → ∀ M moved, OK M0 M moved → (moved = false → ∀ i' j, i' < i → M0 i' = true → chB p l a i' j = true → M0 j = true) → Goes T (.jmp (.l19 (rowOf n M) (i : Int) moved)) (rowOf n (backB p l a)) := by
      refine down ?_ fun i hi ih2 => ?_
      · intro M moved hok hcl
        rw [goes_jmp, hT, T_ref3_back, ← hT, goes_br, nn, if_neg (by simp)]
        cases moved with
        | true =>
          have h1 := hok.2.2.2 rfl
          have h2 := @card_le n M
          exact ih (n - card n M) (by omega) M rfl hok.1 hok.2.1
        | false =>
          have e := hok.2.2.1 rfl
          subst e
          rw [goes_jmp, hT, T_ref3_back, ← hT, goes_br, if_neg (by decide), nn]
          rw [show rowOf n M = rowOf n (isB p l a) from rowOf_congr fun j _ => comeB_eq hok.1 (fun k j hk hj => hcl rfl k j (hMlt hok.2.1 k hk) hk hj) hok.2.1 j]
          exact out
      · intro M moved hok hcl
        rw [goes_jmp, hT, T_ref3_back, ← hT, goes_br, nn, if_pos (lt1 hi)]
        refine inner i hi (∀ i' j, i' < i → M0 i' = true → chB p l a i' j = true → M0 j = true) (fun M' moved' hok' hcl' => ih2 M' moved' hok' fun hm i' j hi' h1 hj => ?_) 0 (Nat.zero_le _) M moved hok (fun hm => ⟨hcl hm, fun x hx => by omega⟩)
        by_cases e : i' = i
        · subst e; exact (hcl' hm).2 h1 j hj
        · exact (hcl' hm).1 i' j (by omega) h1 hj
    rw [goes_jmp, hT, T_ref3_back, ← hT, goes_br, if_pos rfl]
    exact pass 0 (Nat.zero_le _) M0 false ⟨hA, hC, fun _ => rfl, fun h => by cases h⟩ fun _ i' j h => by omega
  -- the start
  have start : ∀ i, i ≤ n → Goes T (.jmp (.l8 (i : Int) (rowOf n fun j => decide (j < i) && chS l a j))) (rowOf n (backB p l a)) := by
    refine down ?_ fun i hi ih => ?_
    · rw [goes_jmp, hT, T_ref3_back, ← hT, goes_br, nn, if_neg (by simp)]
      rw [show (rowOf n fun j => decide (j < n) && chS l a j) = rowOf n (chS l a) from rowOf_congr fun j hj => by rw [decide_eq_true hj]; rfl]
      exact loop _ (chS l a) rfl (fun j h => h) (fun j h => .start h)
    · have ei : List.getD l i (dflt T_api_Access) = accA l i := rfl
      rw [goes_jmp, hT, T_ref3_back, ← hT]
      simp only [goes_br, nn, rowOf_length, lt1 hi, lt1 ha, nng, Bool.and_self, if_true, Int.toNat_natCast, ei, ea, refClash_eq, wrap_succ (k := i) (by omega)]
      rw [rowOf_put, show (rowOf n fun j => if j = i then clB l a i else decide (j < i) && chS l a j) = (rowOf n fun j => decide (j < i + 1) && chS l a j) from rowOf_congr fun j hj => by
        by_cases e : j = i
        · subst e
          rw [if_pos rfl, decide_eq_true (by omega), Bool.true_and]
          unfold chS
          rw [hn, decide_eq_true hj, Bool.true_and]
        · rw [if_neg e]
          by_cases e2 : j < i
          · rw [decide_eq_true e2, decide_eq_true (by omega)]
          · rw [decide_eq_false e2, decide_eq_false (by omega)]]
      exact ih
  have := start 0 (Nat.zero_le _)
  rw [show (rowOf n fun j => decide (j < 0) && chS l a j) = List.replicate n false from by
    rw [rowOf_none]; exact rowOf_congr fun j _ => by simp] at this
  exact this
end Go.Ev
end

section
set_option linter.unusedSectionVars false
set_option linter.unusedVariables false
set_option linter.unusedSimpArgs false
set_option maxRecDepth 100000
set_option linter.unusedVariables false
open Go Go.Ev
namespace Go.Ev
noncomputable section
noncomputable def e_ref3_back : Run := entG sg_ref3_back R_ref3_back (fun a => k_ref3_back a.1 a.2.1 a.2.2.1) (fun a => v_ref3_back a.1 a.2.1 a.2.2.1)
theorem ok_ref3_back : EntOK Go.Proofs.Tryz.prog 48 e_ref3_back := entG_ok (tb := tb_ref3_back) (c := c_ref3_back) tk_ref3_back (by kernel_rfl) (by kernel_rfl) (by kernel_rfl) (fun a => by kernel_rfl) fun ⟨p, l, a, _⟩ hk => evF_goes (c := c_ref3_back) (K := fun v => (R_ref3_back v, tps (toForms sg_ref3_back (p, l, a, ())))) (S := S_ref3_back p l a) (by kernel_rfl) (en_ref3_back p l a) (lp_ref3_back p l a) (g_ref3_back p l a hk)
end
end Go.Ev
end

section
set_option linter.unusedSectionVars false
set_option linter.unusedVariables false
set_option linter.unusedSimpArgs false
set_option maxRecDepth 100000
set_option linter.unusedVariables false
open Go Go.Ev
namespace Go.Ev
noncomputable section
/-! ### paling/palingref3.List -/
def sg_ref3_List : Sig := [(false, (.sl .bool))]
noncomputable def t_ref3_List : Tbl := []
theorem tk_ref3_List : ∀ p ∈ t_ref3_List, EntOK Go.Proofs.Tryz.prog p.1 p.2 := tbl_nil
noncomputable def c_ref3_List : Code := Go.Proofs.Tryz.f47.body.getD .skip
def tb_ref3_List : Tb := [(4, ⟨[0, 3, 4], [(4, 74)]⟩)]
inductive J_ref3_List where
  | l4 (i : Int) (out : List Int)
def T_ref3_List (is : List Bool) : J_ref3_List → JT J_ref3_List (List Int)
  | .l4 i out =>
    .br (decide (i < (Int.ofNat (List.length is))))
      (.br ((decide ((0 : Int) ≤ i)) && (decide (i < (Int.ofNat (List.length is)))))
        (.br (List.getD is (Int.toNat i) (dflt .bool))
          (.br (Nat.ble (((List.length out) + 1) * 8) limit)
            (.jmp (.l4 (IntKind.i64.wrap (i + (1 : Int))) (out ++ [i])))
          (.no))
        (.jmp (.l4 (IntKind.i64.wrap (i + (1 : Int))) out)))
      (.no))
    (.leaf out)
def T0_ref3_List (is : List Bool) : JT J_ref3_List (List Int) :=
  .jmp (.l4 (0 : Int) [])
def R_ref3_List : List Int → AV := fun (r : List Int) => .rw 3 (.int .i64) r
def S_ref3_List (is : List Bool) : J_ref3_List → Nat × St
  | .l4 i out => (4, ⟨mkTm 20 [(0, .d (.sl .bool) is), (3, .own 4 0 none), (4, .d (.int .i64) i)], [(4, 0, .row 3 (.int .i64) out false)]⟩)
theorem en_ref3_List (is : List Bool) (L : Lt) : entryA Go.Proofs.Tryz.prog (clOf t_ref3_List) tb_ref3_List Go.Proofs.Tryz.f47 c_ref3_List L (toForms sg_ref3_List (is, ())) = (T0_ref3_List is).run (fun v => some (R_ref3_List v, tps (toForms sg_ref3_List (is, ())))) fun j => L (S_ref3_List is j).1 (S_ref3_List is j).2 := by kernel_rfl
theorem lp_ref3_List (is : List Bool) : ∀ (L : Lt) (j : J_ref3_List), procOf (procsF Go.Proofs.Tryz.prog (clOf t_ref3_List) tb_ref3_List Go.Proofs.Tryz.f47 c_ref3_List (toForms sg_ref3_List (is, ()))) (S_ref3_List is j).1 L (S_ref3_List is j).2 = (T_ref3_List is j).run (fun v => some (R_ref3_List v, tps (toForms sg_ref3_List (is, ())))) fun j => L (S_ref3_List is j).1 (S_ref3_List is j).2
  | L, .l4 i out => by kernel_rfl
end
end Go.Ev
end

section
set_option linter.unusedSectionVars false
set_option linter.unusedVariables false
set_option linter.unusedSimpArgs false
/- Rising lists and lists of places: what chapters 19 to 26 say of them, over lists. -/
set_option linter.unusedVariables false
set_option linter.unusedSimpArgs false
namespace Go.Ev
open Go
/-- Which are so, rising, from k on. -/
def listFrom : Nat → List Bool → List Int
  | _, [] => []
  | k, b :: r => if b then (k : Int) :: listFrom (k + 1) r else listFrom (k + 1) r
/-- A list in order. -/
def risingFrom : Int → List Int → Bool
  | _, [] => true
  | p, n :: r => if n < 0 ∨ 2147483647 < n ∨ n ≤ p then false else risingFrom n r
def rising (l : List Int) : Bool := risingFrom (-1) l
/-- How many are below; how many are not above. -/
def below (l : List Int) (x : Int) : Nat := l.countP fun f => decide (f < x)
end Go.Ev
end

section
set_option linter.unusedSectionVars false
set_option linter.unusedVariables false
set_option linter.unusedSimpArgs false
set_option linter.unusedVariables false
set_option linter.unusedSimpArgs false
open Go
namespace Go.Ev
def v_ref3_List (is : List Bool) : List Int := listFrom 0 is
def k_ref3_List (is : List Bool) : Bool := decide (is.length < 1099511627776)
theorem g_ref3_List (is : List Bool) (hk : k_ref3_List is = true) : Goes (T_ref3_List is) (T0_ref3_List is) (v_ref3_List is) := by
  have hn : is.length < 1099511627776 := of_decide_eq_true hk
  have loop : ∀ k, k ≤ is.length → ∀ out : List Int, out.length ≤ k → Goes (T_ref3_List is) (.jmp (.l4 (k : Int) out)) (out ++ listFrom k (is.drop k)) := by
    refine down ?_ fun k hk ih => ?_
    · intro out ho
      rw [goes_jmp]
      simp only [T_ref3_List, goes_br, lt_len_not (Nat.lt_irrefl _), List.drop_length]
      rw [show listFrom is.length [] = [] from rfl, List.append_nil]
      exact .leaf
    · intro out ho
      rw [goes_jmp, drop_cons hk]
      have b1 : Nat.ble ((out.length + 1) * 8) limit = true := Nat.ble_eq_true_of_le (by unfold limit; omega)
      simp only [T_ref3_List, goes_br, lt_len hk, nng, Bool.and_self, if_true, Int.toNat_natCast, getD_lt hk, wrap_succ (k := k) (by omega), b1]
      unfold listFrom
      split
      · have := ih (out ++ [(k : Int)]) (by rw [List.length_append, List.length_singleton]; omega)
        rw [List.append_assoc] at this
        exact this
      · exact ih out (by omega)
  have := loop 0 (Nat.zero_le _) [] (by simp)
  unfold T0_ref3_List v_ref3_List
  simpa using this
end Go.Ev
end

section
set_option linter.unusedSectionVars false
set_option linter.unusedVariables false
set_option linter.unusedSimpArgs false
set_option maxRecDepth 100000
set_option linter.unusedVariables false
open Go Go.Ev
namespace Go.Ev
noncomputable section
noncomputable def e_ref3_List : Run := entG sg_ref3_List R_ref3_List (fun a => k_ref3_List a.1) (fun a => v_ref3_List a.1)
theorem ok_ref3_List : EntOK Go.Proofs.Tryz.prog 47 e_ref3_List := entG_ok (tb := tb_ref3_List) (c := c_ref3_List) tk_ref3_List (by kernel_rfl) (by kernel_rfl) (by kernel_rfl) (fun a => by kernel_rfl) fun ⟨is, _⟩ hk => evF_goes (c := c_ref3_List) (K := fun v => (R_ref3_List v, tps (toForms sg_ref3_List (is, ())))) (S := S_ref3_List is) (by kernel_rfl) (en_ref3_List is) (lp_ref3_List is) (g_ref3_List is hk)
end
end Go.Ev
end

section
set_option linter.unusedSectionVars false
set_option linter.unusedVariables false
set_option linter.unusedSimpArgs false
set_option maxRecDepth 100000
set_option linter.unusedVariables false
open Go Go.Ev
namespace Go.Ev
noncomputable section
/-! ### paling/palingref3.Back -/
def sg_ref3_Back : Sig := [(true, T_api_Prog), (false, (.int .i64))]
noncomputable def t_ref3_Back : Tbl := [(17, e_ref3_Accesses), (48, e_ref3_back), (47, e_ref3_List)]
theorem tk_ref3_Back : ∀ p ∈ t_ref3_Back, EntOK Go.Proofs.Tryz.prog p.1 p.2 := tbl_cons ok_ref3_Accesses (tbl_cons ok_ref3_back (tbl_cons ok_ref3_List (tbl_nil)))
noncomputable def c_ref3_Back : Code := Go.Proofs.Tryz.f20.body.getD .skip
def tb_ref3_Back : Tb := []
def T_ref3_Back (p : El T_api_Prog) (a : Int) : Empty → JT Empty (List Int) := fun j => nomatch j
def T0_ref3_Back (p : El T_api_Prog) (a : Int) : JT Empty (List Int) :=
  .br (k_ref3_Accesses p)
    (.br (k_ref3_back p (v_ref3_Accesses p) a)
      (.br (k_ref3_List (v_ref3_back p (v_ref3_Accesses p) a))
        (.leaf (v_ref3_List (v_ref3_back p (v_ref3_Accesses p) a)))
      (.no))
    (.no))
  (.no)
def v_ref3_Back (p : El T_api_Prog) (a : Int) : List Int :=
  bif (k_ref3_Accesses p) then
    bif (k_ref3_back p (v_ref3_Accesses p) a) then
      bif (k_ref3_List (v_ref3_back p (v_ref3_Accesses p) a)) then
        (v_ref3_List (v_ref3_back p (v_ref3_Accesses p) a))
      else []
    else []
  else []
def k_ref3_Back (p : El T_api_Prog) (a : Int) : Bool :=
  bif (k_ref3_Accesses p) then
    bif (k_ref3_back p (v_ref3_Accesses p) a) then
      bif (k_ref3_List (v_ref3_back p (v_ref3_Accesses p) a)) then
        true
      else false
    else false
  else false
theorem g_ref3_Back (p : El T_api_Prog) (a : Int) (hk : k_ref3_Back p a = true) : Goes (T_ref3_Back p a) (T0_ref3_Back p a) (v_ref3_Back p a) :=
  Goes.brk hk (fun hk =>
    Goes.brk hk (fun hk =>
      Goes.brk hk (fun hk =>
        Goes.leaf) (fun hk =>
        Goes.nok hk)) (fun hk =>
      Goes.nok hk)) (fun hk =>
    Goes.nok hk)
def R_ref3_Back : List Int → AV := fun (r : List Int) => .rw 3 (.int .i64) r
def S_ref3_Back (p : El T_api_Prog) (a : Int) : Empty → Nat × St := fun j => nomatch j
theorem en_ref3_Back (p : El T_api_Prog) (a : Int) (L : Lt) : entryA Go.Proofs.Tryz.prog (clOf t_ref3_Back) tb_ref3_Back Go.Proofs.Tryz.f20 c_ref3_Back L (toForms sg_ref3_Back (p, a, ())) = (T0_ref3_Back p a).run (fun v => some (R_ref3_Back v, tps (toForms sg_ref3_Back (p, a, ())))) fun j => L (S_ref3_Back p a j).1 (S_ref3_Back p a j).2 := by kernel_rfl
theorem lp_ref3_Back (p : El T_api_Prog) (a : Int) : ∀ (L : Lt) (j : Empty), procOf (procsF Go.Proofs.Tryz.prog (clOf t_ref3_Back) tb_ref3_Back Go.Proofs.Tryz.f20 c_ref3_Back (toForms sg_ref3_Back (p, a, ()))) (S_ref3_Back p a j).1 L (S_ref3_Back p a j).2 = (T_ref3_Back p a j).run (fun v => some (R_ref3_Back v, tps (toForms sg_ref3_Back (p, a, ())))) fun j => L (S_ref3_Back p a j).1 (S_ref3_Back p a j).2 := fun L j => nomatch j
noncomputable def e_ref3_Back : Run := entG sg_ref3_Back R_ref3_Back (fun a => k_ref3_Back a.1 a.2.1) (fun a => v_ref3_Back a.1 a.2.1)
theorem ok_ref3_Back : EntOK Go.Proofs.Tryz.prog 20 e_ref3_Back := entG_ok (tb := tb_ref3_Back) (c := c_ref3_Back) tk_ref3_Back (by kernel_rfl) (by kernel_rfl) (by kernel_rfl) (fun a => by kernel_rfl) fun ⟨p, a, _⟩ hk => evF_goes (c := c_ref3_Back) (K := fun v => (R_ref3_Back v, tps (toForms sg_ref3_Back (p, a, ())))) (S := S_ref3_Back p a) (by kernel_rfl) (en_ref3_Back p a) (lp_ref3_Back p a) (g_ref3_Back p a hk)
end
end Go.Ev
end

section
set_option linter.unusedSectionVars false
set_option linter.unusedVariables false
set_option linter.unusedSimpArgs false
set_option maxRecDepth 100000
set_option linter.unusedVariables false
open Go Go.Ev
namespace Go.Ev
noncomputable section
/-! ### paling/palinglaw23.ClashRaw -/
def sg_law23_ClashRaw : Sig := [(true, T_api_Prog), (false, (.int .i64))]
noncomputable def t_law23_ClashRaw : Tbl := [(15, e_book_Great), (16, e_law23_alive), (19, e_clash_Back), (20, e_ref3_Back), (18, e_book_SameInts)]
theorem tk_law23_ClashRaw : ∀ p ∈ t_law23_ClashRaw, EntOK Go.Proofs.Tryz.prog p.1 p.2 := tbl_cons ok_book_Great (tbl_cons ok_law23_alive (tbl_cons ok_clash_Back (tbl_cons ok_ref3_Back (tbl_cons ok_book_SameInts (tbl_nil)))))
noncomputable def c_law23_ClashRaw : Code := Go.Proofs.Tryz.f5.body.getD .skip
def tb_law23_ClashRaw : Tb := []
def T_law23_ClashRaw (p : El T_api_Prog) (a : Int) : Empty → JT Empty (Bool) := fun j => nomatch j
def T0_law23_ClashRaw (p : El T_api_Prog) (a : Int) : JT Empty (Bool) :=
  .br (v_book_Great p)
    (.br k_law23_alive
      (.leaf v_law23_alive)
    (.no))
  (.br (decide ((Int.ofNat (List.length p.2)) > (6 : Int)))
    (.br k_law23_alive
      (.leaf v_law23_alive)
    (.no))
  (.br (k_clash_Back p a)
    (.br (k_ref3_Back p a)
      (.br (k_book_SameInts (v_clash_Back p a) (v_ref3_Back p a))
        (.br (v_book_SameInts (v_clash_Back p a) (v_ref3_Back p a))
          (.br (k_clash_Back p (0 : Int))
            (.br (k_ref3_Back p (0 : Int))
              (.br (k_book_SameInts (v_clash_Back p (0 : Int)) (v_ref3_Back p (0 : Int)))
                (.br (v_book_SameInts (v_clash_Back p (0 : Int)) (v_ref3_Back p (0 : Int)))
                  (.br k_law23_alive
                    (.leaf v_law23_alive)
                  (.no))
                (.leaf false))
              (.no))
            (.no))
          (.no))
        (.leaf false))
      (.no))
    (.no))
  (.no)))
def v_law23_ClashRaw (p : El T_api_Prog) (a : Int) : Bool :=
  bif (v_book_Great p) then
    bif k_law23_alive then
      v_law23_alive
    else false
  else bif (decide ((Int.ofNat (List.length p.2)) > (6 : Int))) then
    bif k_law23_alive then
      v_law23_alive
    else false
  else bif (k_clash_Back p a) then
    bif (k_ref3_Back p a) then
      bif (k_book_SameInts (v_clash_Back p a) (v_ref3_Back p a)) then
        bif (v_book_SameInts (v_clash_Back p a) (v_ref3_Back p a)) then
          bif (k_clash_Back p (0 : Int)) then
            bif (k_ref3_Back p (0 : Int)) then
              bif (k_book_SameInts (v_clash_Back p (0 : Int)) (v_ref3_Back p (0 : Int))) then
                bif (v_book_SameInts (v_clash_Back p (0 : Int)) (v_ref3_Back p (0 : Int))) then
                  bif k_law23_alive then
                    v_law23_alive
                  else false
                else false
              else false
            else false
          else false
        else false
      else false
    else false
  else false
def k_law23_ClashRaw (p : El T_api_Prog) (a : Int) : Bool :=
  bif (v_book_Great p) then
    bif k_law23_alive then
      true
    else false
  else bif (decide ((Int.ofNat (List.length p.2)) > (6 : Int))) then
    bif k_law23_alive then
      true
    else false
  else bif (k_clash_Back p a) then
    bif (k_ref3_Back p a) then
      bif (k_book_SameInts (v_clash_Back p a) (v_ref3_Back p a)) then
        bif (v_book_SameInts (v_clash_Back p a) (v_ref3_Back p a)) then
          bif (k_clash_Back p (0 : Int)) then
            bif (k_ref3_Back p (0 : Int)) then
              bif (k_book_SameInts (v_clash_Back p (0 : Int)) (v_ref3_Back p (0 : Int))) then
                bif (v_book_SameInts (v_clash_Back p (0 : Int)) (v_ref3_Back p (0 : Int))) then
                  bif k_law23_alive then
                    true
                  else false
                else true
              else false
            else false
          else false
        else true
      else false
    else false
  else false
theorem g_law23_ClashRaw (p : El T_api_Prog) (a : Int) (hk : k_law23_ClashRaw p a = true) : Goes (T_law23_ClashRaw p a) (T0_law23_ClashRaw p a) (v_law23_ClashRaw p a) :=
  Goes.brk hk (fun hk =>
    Goes.brk hk (fun hk =>
      Goes.leaf) (fun hk =>
      Goes.nok hk)) (fun hk =>
    Goes.brk hk (fun hk =>
      Goes.brk hk (fun hk =>
        Goes.leaf) (fun hk =>
        Goes.nok hk)) (fun hk =>
      Goes.brk hk (fun hk =>
        Goes.brk hk (fun hk =>
          Goes.brk hk (fun hk =>
            Goes.brk hk (fun hk =>
              Goes.brk hk (fun hk =>
                Goes.brk hk (fun hk =>
                  Goes.brk hk (fun hk =>
                    Goes.brk hk (fun hk =>
                      Goes.brk hk (fun hk =>
                        Goes.leaf) (fun hk =>
                        Goes.nok hk)) (fun hk =>
                      Goes.leaf)) (fun hk =>
                    Goes.nok hk)) (fun hk =>
                  Goes.nok hk)) (fun hk =>
                Goes.nok hk)) (fun hk =>
              Goes.leaf)) (fun hk =>
            Goes.nok hk)) (fun hk =>
          Goes.nok hk)) (fun hk =>
        Goes.nok hk)))
def R_law23_ClashRaw : Bool → AV := fun (r : Bool) => .d .bool r
def S_law23_ClashRaw (p : El T_api_Prog) (a : Int) : Empty → Nat × St := fun j => nomatch j
theorem en_law23_ClashRaw (p : El T_api_Prog) (a : Int) (L : Lt) : entryA Go.Proofs.Tryz.prog (clOf t_law23_ClashRaw) tb_law23_ClashRaw Go.Proofs.Tryz.f5 c_law23_ClashRaw L (toForms sg_law23_ClashRaw (p, a, ())) = (T0_law23_ClashRaw p a).run (fun v => some (R_law23_ClashRaw v, tps (toForms sg_law23_ClashRaw (p, a, ())))) fun j => L (S_law23_ClashRaw p a j).1 (S_law23_ClashRaw p a j).2 := by kernel_rfl
theorem lp_law23_ClashRaw (p : El T_api_Prog) (a : Int) : ∀ (L : Lt) (j : Empty), procOf (procsF Go.Proofs.Tryz.prog (clOf t_law23_ClashRaw) tb_law23_ClashRaw Go.Proofs.Tryz.f5 c_law23_ClashRaw (toForms sg_law23_ClashRaw (p, a, ()))) (S_law23_ClashRaw p a j).1 L (S_law23_ClashRaw p a j).2 = (T_law23_ClashRaw p a j).run (fun v => some (R_law23_ClashRaw v, tps (toForms sg_law23_ClashRaw (p, a, ())))) fun j => L (S_law23_ClashRaw p a j).1 (S_law23_ClashRaw p a j).2 := fun L j => nomatch j
theorem co_law23_ClashRaw (p : El T_api_Prog) (a : Int) (hk : k_law23_ClashRaw p a = true) : CallOK Go.Proofs.Tryz.prog 5 (toForms sg_law23_ClashRaw (p, a, ())) (R_law23_ClashRaw (v_law23_ClashRaw p a), tps (toForms sg_law23_ClashRaw (p, a, ()))) := by
  obtain ⟨h1, h2⟩ := clOf_ok tk_law23_ClashRaw
  obtain ⟨n, hn⟩ := evF_goes (c := c_law23_ClashRaw) (K := fun v => (R_law23_ClashRaw v, tps (toForms sg_law23_ClashRaw (p, a, ())))) (S := S_law23_ClashRaw p a) (by kernel_rfl) (en_law23_ClashRaw p a) (lp_law23_ClashRaw p a) (g_law23_ClashRaw p a hk)
  exact evF_sound (f := 5) (c := c_law23_ClashRaw) h1 h2 (by kernel_rfl) (by kernel_rfl) (by kernel_rfl) hn
end
end Go.Ev
end

section
set_option linter.unusedSectionVars false
set_option linter.unusedVariables false
set_option linter.unusedSimpArgs false
set_option maxRecDepth 100000
set_option linter.unusedVariables false
open Go Go.Ev
namespace Go.Ev
noncomputable section
end
end Go.Ev
end

section
set_option linter.unusedSectionVars false
set_option linter.unusedVariables false
set_option linter.unusedSimpArgs false
set_option maxRecDepth 100000
set_option linter.unusedVariables false
set_option linter.unusedSimpArgs false
open Go
namespace Go.Ev
end Go.Ev
end

section
set_option linter.unusedSectionVars false
set_option linter.unusedVariables false
set_option linter.unusedSimpArgs false
/- Lists out of rows. -/
set_option linter.unusedVariables false
namespace Go.Ev
open Go
theorem listFrom_rowX (M : Nat → Bool) : ∀ n k : Nat, listFrom k ((List.range' k n).map M) = ((List.range' k n).filter M).map Int.ofNat
  | 0, k => rfl
  | n + 1, k => by
    rw [List.range'_succ, List.map_cons, List.filter_cons]
    unfold listFrom
    rw [listFrom_rowX M n (k + 1)]
    cases M k <;> simp
theorem list_rowX {n : Nat} {M : Nat → Bool} : listFrom 0 (rowOf n M) = listOf n M := by
  have := listFrom_rowX M n 0
  unfold rowOf listOf
  rw [List.range_eq_range']
  exact this
theorem listOf_leX {n : Nat} {M : Nat → Bool} : (listOf n M).length ≤ n := by rw [listOf_length]; exact card_le
end Go.Ev
end

section
set_option linter.unusedSectionVars false
set_option linter.unusedVariables false
set_option linter.unusedSimpArgs false
/- Chapter 23: both texts tell the same. -/
set_option maxRecDepth 100000
set_option linter.unusedVariables false
set_option linter.unusedSimpArgs false
open Go
namespace Go.Ev
theorem back_short (p : El T_api_Prog) (a : Int) : (v_clash_Back p a).length ≤ (ofC p).length := by
  unfold v_clash_Back
  split
  · exact listOf_leX
  · simp
theorem back_eq {p : El T_api_Prog} (h : smallAll p = true) (a : Int) :
    k_clash_Back p a = true ∧ k_ref3_Back p a = true ∧ v_ref3_Back p a = v_clash_Back p a ∧ k_book_SameInts (v_clash_Back p a) (v_clash_Back p a) = true ∧ v_book_SameInts (v_clash_Back p a) (v_clash_Back p a) = true := by
  have hN := ofC_len h
  have k1 : k_ref3_Accesses p = true := h
  have v1 : v_ref3_Accesses p = ofC p := rfl
  have k2 : k_ref3_back p (ofC p) a = true := by unfold k_ref3_back; rw [h, same_iff.2 rfl]; rfl
  have v2 : v_ref3_back p (ofC p) a = rowOf (ofC p).length fun b => decide (0 ≤ a ∧ a < ((ofC p).length : Int)) && backB p (ofC p) a.toNat b := rfl
  have k3 : k_ref3_List (v_ref3_back p (ofC p) a) = true := decide_eq_true (by rw [v2, rowOf_length]; omega)
  have hb := back_short p a
  refine ⟨h, ?_, ?_, decide_eq_true (by omega), decide_eq_true rfl⟩
  · unfold k_ref3_Back; rw [k1, v1, k2, k3]; rfl
  · unfold v_ref3_Back
    rw [k1, v1, k2, k3]
    show listFrom 0 (v_ref3_back p (ofC p) a) = _
    rw [v2, list_rowX]
    unfold v_clash_Back
    by_cases hr : 0 ≤ a ∧ a < ((ofC p).length : Int)
    · rw [if_pos hr]
      exact listOf_congr fun i _ => by rw [decide_eq_true hr]; rfl
    · rw [if_neg hr]
      have : ∀ n, listOf n (fun b => decide (0 ≤ a ∧ a < ((ofC p).length : Int)) && backB p (ofC p) a.toNat b) = [] := fun n => by
        unfold listOf
        rw [List.map_eq_nil_iff, List.filter_eq_nil_iff]
        intro j _ hb
        rw [decide_eq_false hr] at hb
        cases hb
      exact this _
end Go.Ev
end

section
set_option linter.unusedSectionVars false
set_option linter.unusedVariables false
set_option linter.unusedSimpArgs false
/- Chains, for reckoning. -/
set_option linter.unusedVariables false
open Go
namespace Go.Ev
def fromX (t : List (El T_api_Ins)) (i : Int) (j : Nat) : Bool := (comeL (fun k j => nextB t (k : Int) j) (nextB t i) t.length).getD j false
theorem fromX_eq (t : List (El T_api_Ins)) (i : Int) (j : Nat) : fromB t i j = fromX t i j := comeL_eq (fun j => nextB_lt) (fun k j => nextB_lt) j
def behX (p : El T_api_Prog) (l : List Acc) (c d : Nat) : Bool :=
  decide (d < l.length) && (thA l d == thA l c && (d == c || ((inA l d == inA l c && decide (paA l d > paA l c)) || (decide (0 ≤ inA l d) && fromX (thrOf p l c) (inA l c) (inA l d).toNat))))
theorem behX_eq (p : El T_api_Prog) (l : List Acc) (c d : Nat) : behB p l c d = behX p l c d := by
  unfold behB behX
  rw [fromX_eq]
def chX (p : El T_api_Prog) (l : List Acc) (a i k : Nat) : Bool := decide (k < l.length) && (!(thA l k == thA l a) && (clB l i k || behX p l i k))
def isX (p : El T_api_Prog) (l : List Acc) (a k : Nat) : Bool := (comeL (chX p l a) (chS l a) l.length).getD k false
theorem isX_eq (p : El T_api_Prog) (l : List Acc) (a k : Nat) : isB p l a k = isX p l a k := by
  have e : chB p l a = chX p l a := by
    funext i k
    unfold chB chX
    rw [behX_eq]
  unfold isB isX
  rw [e]
  refine comeL_eq (fun j h => ?_) (fun k j h => ?_) k
  · unfold chS at h
    rw [Bool.and_eq_true, decide_eq_true_eq] at h
    exact h.1
  · unfold chX at h
    rw [Bool.and_eq_true, decide_eq_true_eq] at h
    exact h.1
def backX (p : El T_api_Prog) (l : List Acc) (a b : Nat) : Bool := thA l b == thA l a && (List.range l.length).any fun k => isX p l a k && clB l k b
theorem backX_eq (p : El T_api_Prog) (l : List Acc) (a b : Nat) : backB p l a b = backX p l a b := by
  unfold backB backX
  simp only [isX_eq]
end Go.Ev
end

section
set_option linter.unusedSectionVars false
set_option linter.unusedVariables false
set_option linter.unusedSimpArgs false
/- Chapter 23's first calls. -/
set_option maxRecDepth 100000
set_option linter.unusedVariables false
set_option linter.unusedSimpArgs false
open Go
namespace Go.Ev
theorem alive23 : k_law23_alive = true ∧ v_law23_alive = true := by
  have hs : smallAll v_law23_both = true := by decide +kernel
  have hN : (ofC v_law23_both).length = 4 := by decide +kernel
  have kp : k_clash_Pairs v_law23_both = true := by decide +kernel
  have kb : ∀ a, k_clash_Back v_law23_both a = true := fun _ => hs
  have vp : v_clash_Pairs v_law23_both = [(0, 3), (1, 2)] := by decide +kernel
  have bk : ∀ a : Nat, a < 4 → v_clash_Back v_law23_both (a : Int) = listOf 4 (backX v_law23_both (ofC v_law23_both) a) := fun a ha => by
    unfold v_clash_Back
    rw [hN, if_pos ⟨by omega, by omega⟩]
    exact listOf_congr fun i _ => by rw [backX_eq, Int.toNat_natCast]
  have b1 : v_clash_Back v_law23_both 1 = [0, 1] := (bk 1 (by decide)).trans (by decide +kernel)
  have b0 : v_clash_Back v_law23_both 0 = [0] := (bk 0 (by decide)).trans (by decide +kernel)
  have b4 : v_clash_Back v_law23_both 4 = [] := by
    unfold v_clash_Back
    rw [hN, if_neg (by omega)]
  unfold k_law23_alive v_law23_alive
  simp only [kp, kb, vp, b1, b0, b4]
  exact ⟨by decide +kernel, by decide +kernel⟩
end Go.Ev
end

section
set_option linter.unusedSectionVars false
set_option linter.unusedVariables false
set_option linter.unusedSimpArgs false
set_option maxRecDepth 100000
set_option linter.unusedVariables false
open Go Go.Ev
namespace Go.Ev
noncomputable section
end
end Go.Ev
end

section
set_option linter.unusedSectionVars false
set_option linter.unusedVariables false
set_option linter.unusedSimpArgs false
set_option maxRecDepth 100000
set_option linter.unusedVariables false
open Go Go.Ev
namespace Go.Ev
noncomputable section
end
end Go.Ev
end

section
set_option linter.unusedSectionVars false
set_option linter.unusedVariables false
set_option linter.unusedSimpArgs false
/- The helper Pick, and what is made with it. -/
set_option linter.unusedVariables false
namespace Go.Ev
open Go
end Go.Ev
end

section
set_option linter.unusedSectionVars false
set_option linter.unusedVariables false
set_option linter.unusedSimpArgs false
set_option linter.unusedVariables false
open Go
namespace Go.Ev
end Go.Ev
end

section
set_option linter.unusedSectionVars false
set_option linter.unusedVariables false
set_option linter.unusedSimpArgs false
set_option maxRecDepth 100000
set_option linter.unusedVariables false
open Go Go.Ev
namespace Go.Ev
noncomputable section
end
end Go.Ev
end

section
set_option linter.unusedSectionVars false
set_option linter.unusedVariables false
set_option linter.unusedSimpArgs false
set_option maxRecDepth 100000
set_option linter.unusedVariables false
open Go Go.Ev
namespace Go.Ev
noncomputable section
end
end Go.Ev
end

section
set_option linter.unusedSectionVars false
set_option linter.unusedVariables false
set_option linter.unusedSimpArgs false
set_option linter.unusedVariables false
open Go
namespace Go.Ev
end Go.Ev
end

section
set_option linter.unusedSectionVars false
set_option linter.unusedVariables false
set_option linter.unusedSimpArgs false
set_option maxRecDepth 100000
set_option linter.unusedVariables false
open Go Go.Ev
namespace Go.Ev
noncomputable section
end
end Go.Ev
end

section
set_option linter.unusedSectionVars false
set_option linter.unusedVariables false
set_option linter.unusedSimpArgs false
set_option maxRecDepth 100000
set_option linter.unusedVariables false
open Go Go.Ev
namespace Go.Ev
noncomputable section
end
end Go.Ev
end

section
set_option linter.unusedSectionVars false
set_option linter.unusedVariables false
set_option linter.unusedSimpArgs false
set_option linter.unusedVariables false
set_option maxRecDepth 100000
open Go
namespace Go.Ev
end Go.Ev
end

section
set_option linter.unusedSectionVars false
set_option linter.unusedVariables false
set_option linter.unusedSimpArgs false
set_option maxRecDepth 100000
set_option linter.unusedVariables false
open Go Go.Ev
namespace Go.Ev
noncomputable section
end
end Go.Ev
end

section
set_option linter.unusedSectionVars false
set_option linter.unusedVariables false
set_option linter.unusedSimpArgs false
set_option maxRecDepth 100000
set_option linter.unusedVariables false
open Go Go.Ev
namespace Go.Ev
noncomputable section
def u_book_label (i : Int) : ByteArray :=
  bif (decide ((Int.ofNat ((ByteArray.size (bs [108])) + (ByteArray.size (bytesText [(IntKind.u8.wrap (IntKind.i64.wrap ((48 : Int) + (IntKind.i64.wrap (Int.tdiv i (10 : Int)))))), (IntKind.u8.wrap (IntKind.i64.wrap ((48 : Int) + (Int.tmod i (10 : Int)))))])))) > (9223372036854775807 : Int))) then
    (bs [])
  else ((bs [108]) ++ (bytesText [(IntKind.u8.wrap (IntKind.i64.wrap ((48 : Int) + (IntKind.i64.wrap (Int.tdiv i (10 : Int)))))), (IntKind.u8.wrap (IntKind.i64.wrap ((48 : Int) + (Int.tmod i (10 : Int)))))]))
end
end Go.Ev
end

section
set_option linter.unusedSectionVars false
set_option linter.unusedVariables false
set_option linter.unusedSimpArgs false
set_option linter.unusedVariables false
open Go
namespace Go.Ev
def v_book_label (i : Int) : ByteArray := u_book_label i
end Go.Ev
end

section
set_option linter.unusedSectionVars false
set_option linter.unusedVariables false
set_option linter.unusedSimpArgs false
set_option maxRecDepth 100000
set_option linter.unusedVariables false
open Go Go.Ev
namespace Go.Ev
noncomputable section
end
end Go.Ev
end

section
set_option linter.unusedSectionVars false
set_option linter.unusedVariables false
set_option linter.unusedSimpArgs false
set_option maxRecDepth 100000
set_option linter.unusedVariables false
open Go Go.Ev
namespace Go.Ev
noncomputable section
end
end Go.Ev
end

section
set_option linter.unusedSectionVars false
set_option linter.unusedVariables false
set_option linter.unusedSimpArgs false
set_option maxRecDepth 100000
set_option linter.unusedVariables false
open Go Go.Ev
namespace Go.Ev
noncomputable section
end
end Go.Ev
end

section
set_option linter.unusedSectionVars false
set_option linter.unusedVariables false
set_option linter.unusedSimpArgs false
/- The instructions that the book makes may be. -/
set_option maxRecDepth 100000
set_option linter.unusedVariables false
set_option linter.unusedSimpArgs false
namespace Go.Ev
open Go
/-- A symbol's number and place, as the book's memory has them. -/
def placeOK (k s n : Int) : Bool := decide (0 ≤ s) && (decide (s < 3) && (k == 4 || decide (n < [1, 2, 1].getD s.toNat 0)))
/-- What the book makes. -/
structure BookOK (many : Int) (i : El T_api_Ins) : Prop where
  right : v_ins_Right i = 0
  to : ((show Int from i.1) ≠ 10 ∧ (show Int from i.1) ≠ 11 ∧ i.2.2.2.2.2.1 = bs []) ∨ (((show Int from i.1) = 10 ∨ (show Int from i.1) = 11) ∧ ∃ k : Int, 0 ≤ k ∧ k < many ∧ i.2.2.2.2.2.1 = v_book_label k)
  labels : i.2.2.2.2.2.2 = []
  op : (show Int from i.1) ≠ 14
  placeA : ((show Int from i.2.2.2.1.1) = 3 ∨ (show Int from i.2.2.2.1.1) = 4) → placeOK i.2.2.2.1.1 i.2.2.2.1.2.2.1 i.2.2.2.1.2.2.2 = true
  placeB : ((show Int from i.2.2.2.2.1.1) = 3 ∨ (show Int from i.2.2.2.2.1.1) = 4) → placeOK i.2.2.2.2.1.1 i.2.2.2.2.1.2.2.1 i.2.2.2.2.1.2.2.2 = true

theorem label_right {k : Int} (h0 : 0 ≤ k) (h1 : k < 100) : nameRight (v_book_label k) = true ∧ smallText (v_book_label k) = true := by
  have : ∀ k : Fin 100, (nameRight (v_book_label (k.1 : Int)) && smallText (v_book_label (k.1 : Int))) = true := by decide +kernel
  have := this ⟨k.toNat, by omega⟩
  rw [Int.toNat_of_nonneg h0, Bool.and_eq_true] at this
  exact this
theorem BookOK.small {many : Int} (hm : many ≤ 100) {i : El T_api_Ins} (h : BookOK many i) : smallText i.2.2.2.2.2.1 = true := by
  rcases h.to with ⟨_, _, e⟩ | ⟨_, k, h0, h1, e⟩
  · rw [e]; decide
  · rw [e]; exact (label_right h0 (by omega)).2
end Go.Ev
end

section
set_option linter.unusedSectionVars false
set_option linter.unusedVariables false
set_option linter.unusedSimpArgs false
/- Small texts, few labels. -/
set_option maxRecDepth 100000
set_option linter.unusedVariables false
set_option linter.unusedSimpArgs false
namespace Go.Ev
open Go
theorem smallText_of {s : ByteArray} (h : s.size ≤ 60) : smallText s = true := decide_eq_true (by omega)
theorem labels_le {t : List (El T_api_Ins)} {n : Nat} (h : ∀ i ∈ t, i.2.2.2.2.2.2.length ≤ n) : (labels t).length ≤ n * t.length := by
  unfold labels
  induction t with
  | nil => simp
  | cons i t ih =>
    rw [List.flatMap_cons, List.length_append, List.length_cons, Nat.mul_add, Nat.mul_one]
    have h1 := h i (List.mem_cons_self ..)
    have h2 := ih fun j hj => h j (List.mem_cons_of_mem _ hj)
    omega
end Go.Ev
end

section
set_option linter.unusedSectionVars false
set_option linter.unusedVariables false
set_option linter.unusedSimpArgs false
/- Instructions of nothing but their op. -/
set_option maxRecDepth 100000
set_option linter.unusedVariables false
set_option linter.unusedSimpArgs false
namespace Go.Ev
open Go
end Go.Ev
end

section
set_option linter.unusedSectionVars false
set_option linter.unusedVariables false
set_option linter.unusedSimpArgs false
/- The programs that the book makes, over lists. -/
set_option maxRecDepth 100000
set_option linter.unusedVariables false
set_option linter.unusedSimpArgs false
namespace Go.Ev
open Go
end Go.Ev
end

section
set_option linter.unusedSectionVars false
set_option linter.unusedVariables false
set_option linter.unusedSimpArgs false
set_option linter.unusedVariables false
set_option linter.unusedSimpArgs false
open Go
namespace Go.Ev
end Go.Ev
end

section
set_option linter.unusedSectionVars false
set_option linter.unusedVariables false
set_option linter.unusedSimpArgs false
set_option maxRecDepth 100000
set_option linter.unusedVariables false
open Go Go.Ev
namespace Go.Ev
noncomputable section
end
end Go.Ev
end

section
set_option linter.unusedSectionVars false
set_option linter.unusedVariables false
set_option linter.unusedSimpArgs false
/- The programs that the book makes may be. -/
set_option maxRecDepth 100000
set_option linter.unusedVariables false
set_option linter.unusedSimpArgs false
namespace Go.Ev
open Go
end Go.Ev
end

section
set_option linter.unusedSectionVars false
set_option linter.unusedVariables false
set_option linter.unusedSimpArgs false
/- The book's programs are small, all in all. -/
set_option linter.unusedVariables false
namespace Go.Ev
open Go
theorem total_leX {l : List (List (El T_api_Ins))} {n : Nat} (h : ∀ t ∈ l, List.length t ≤ n) : total l ≤ n * l.length := by
  unfold total
  induction l with
  | nil => simp
  | cons t l ih =>
    rw [List.map_cons, List.sum_cons, List.length_cons, Nat.mul_add, Nat.mul_one]
    have h1 := h t (List.mem_cons_self ..)
    have h2 := ih fun x hx => h x (List.mem_cons_of_mem _ hx)
    omega
theorem ofC_le {p : El T_api_Prog} : (ofC p).length ≤ 2 * total p.2 := by
  have := accP_len 0 p.2
  unfold ofC
  split
  · exact this
  · simp
end Go.Ev
end

section
set_option linter.unusedSectionVars false
set_option linter.unusedVariables false
set_option linter.unusedSimpArgs false
/- A thread that is not great is small. -/
set_option maxRecDepth 100000
set_option linter.unusedVariables false
set_option linter.unusedSimpArgs false
namespace Go.Ev
open Go
theorem great_ins {i : El T_api_Ins} (h : v_book_GreatIns i = false) : i.2.2.2.2.2.2.length ≤ 6 ∧ smallText i.2.2.2.2.2.1 = true ∧ ∀ l ∈ i.2.2.2.2.2.2, smallText l = true := by
  unfold v_book_GreatIns at h
  simp only [Bool.or_eq_false_iff, decide_eq_false_iff_not, List.any_eq_false, decide_eq_true_eq] at h
  exact ⟨by omega, smallText_of (by omega), fun l hl => smallText_of (by have := h.2.2 l hl; omega)⟩
theorem great_thread {t : List (El T_api_Ins)} (h : v_book_GreatThread t = false) : smallThread t = true := by
  unfold v_book_GreatThread at h
  simp only [Bool.or_eq_false_iff, decide_eq_false_iff_not, List.any_eq_false, Bool.not_eq_true] at h
  have hl := labels_le (t := t) (n := 6) fun i hi => (great_ins (h.2 i hi)).1
  unfold smallThread
  simp only [Bool.and_eq_true, decide_eq_true_eq, List.all_eq_true]
  exact ⟨by omega, by omega, fun i hi => ⟨(great_ins (h.2 i hi)).2.1, (great_ins (h.2 i hi)).2.2⟩⟩
end Go.Ev
end

section
set_option linter.unusedSectionVars false
set_option linter.unusedVariables false
set_option linter.unusedSimpArgs false
/- Chapter 8: what is not great is small. -/
set_option maxRecDepth 100000
set_option linter.unusedVariables false
set_option linter.unusedSimpArgs false
namespace Go.Ev
open Go
theorem great_prog {p : El T_api_Prog} (h : v_book_Great p = false) : smallProg p = true := by
  unfold v_book_Great at h
  simp only [Bool.or_eq_false_iff, decide_eq_false_iff_not, List.any_eq_false, Bool.not_eq_true] at h
  unfold smallProg
  simp only [Bool.and_eq_true, List.all_eq_true]
  refine ⟨fun s hs => smallText_of ?_, fun t ht => great_thread (h.2.2.2 t ht)⟩
  have := (h.2.2.1 s hs)
  omega
end Go.Ev
end

section
set_option linter.unusedSectionVars false
set_option linter.unusedVariables false
set_option linter.unusedSimpArgs false
/- What is not great is small, all in all. -/
set_option linter.unusedVariables false
namespace Go.Ev
open Go
theorem great_few {p : El T_api_Prog} (h : v_book_Great p = false) : smallAll p = true ∧ (ofC p).length ≤ 1584 := by
  have hp := great_prog h
  unfold v_book_Great at h
  simp only [Bool.or_eq_false_iff, decide_eq_false_iff_not, List.any_eq_false, Bool.not_eq_true] at h
  have ht := total_leX (l := p.2) (n := 12) fun t hm => by
    have := h.2.2.2 t hm
    unfold v_book_GreatThread at this
    simp only [Bool.or_eq_false_iff, decide_eq_false_iff_not] at this
    omega
  have ho := @ofC_le p
  have h2 := h.2.1
  refine ⟨?_, by omega⟩
  unfold smallAll
  simp only [Bool.and_eq_true, decide_eq_true_eq]
  exact ⟨hp, by omega, by omega⟩
end Go.Ev
end

section
set_option linter.unusedSectionVars false
set_option linter.unusedVariables false
set_option linter.unusedSimpArgs false
set_option maxRecDepth 100000
set_option linter.unusedVariables false
set_option linter.unusedSimpArgs false
namespace Go.Ev
open Go
theorem raw_true (p : El T_api_Prog) (a : Int) : k_law23_ClashRaw p a = true ∧ v_law23_ClashRaw p a = true := by
  obtain ⟨ka, va⟩ := alive23
  unfold k_law23_ClashRaw v_law23_ClashRaw
  simp only [ka, va]
  cases hg : v_book_Great p with
  | true => exact ⟨rfl, rfl⟩
  | false =>
    obtain ⟨g1, _⟩ := great_few hg
    obtain ⟨a1, a2, a3, a4, a5⟩ := back_eq g1 a
    obtain ⟨b1, b2, b3, b4, b5⟩ := back_eq g1 0
    simp only [a1, a2, a3, a4, a5, b1, b2, b3, b4, b5, cond_true, cond_false, Bool.cond_self]
    exact ⟨trivial, trivial⟩
theorem call_law23_ClashRaw (a : Args sg_law23_ClashRaw) (ha : smallArgs sg_law23_ClashRaw a) : CallOK Go.Proofs.Tryz.prog fid_law23_ClashRaw (toForms sg_law23_ClashRaw a) (.d .bool true, tps (toForms sg_law23_ClashRaw a)) := by
  obtain ⟨p, a, _⟩ := a
  obtain ⟨hk, hv⟩ := raw_true p a
  have := co_law23_ClashRaw p a hk
  rw [hv] at this
  exact this
end Go.Ev
end

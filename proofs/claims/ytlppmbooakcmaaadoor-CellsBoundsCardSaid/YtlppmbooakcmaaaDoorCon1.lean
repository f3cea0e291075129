/- Part of the proof of: A register tells a cell of a symbol just if its number, without a sign, is below the Size: the law answers true for every input. -/
import Derived.Test.YtlppmbooakcmaaaDoorCon0
section
set_option linter.unusedSectionVars false
set_option linter.unusedVariables false
set_option linter.unusedSimpArgs false
set_option linter.unusedVariables false
set_option linter.unusedSimpArgs false
open Go
namespace Go.Ev
def v_valid_thread (p : El T_api_Prog) (t : List (El T_api_Ins)) : Int := threadC p t
def k_valid_thread (p : El T_api_Prog) (t : List (El T_api_Ins)) : Bool := smallThread t
theorem g_valid_thread (p : El T_api_Prog) (t : List (El T_api_Ins)) (hk : k_valid_thread p t = true) : Goes (T_valid_thread p t) (T0_valid_thread p t) (v_valid_thread p t) := by
  have hS := smallT hk
  have hn := hS.len
  have jmps : ∀ m seen, Seen m seen → (∀ i ∈ t, v_ins_Right i = 0) → ∀ k, k ≤ t.length → Goes (T_valid_thread p t) (.jmp (.l38 (k : Int) m)) (jumpC seen (t.drop k)) := by
    intro m seen hm hr
    refine down ?_ fun k hk ih => ?_
    · rw [goes_jmp]
      simp only [T_valid_thread, goes_br, lt_len_not (Nat.lt_irrefl _), goes_leaf, List.drop_length]
      simp [jumpC]
    · have hmem : t[k] ∈ t := List.getElem_mem hk
      have hto := hS.to _ hmem
      rw [goes_jmp]
      simp only [T_valid_thread, goes_br, lt_len hk, nng, Bool.and_self, if_true, Int.toNat_natCast, getD_lt hk, wrap_succ (k := k) (by omega), (k_reads hto).2.2.1, jumps_is hto (hr _ hmem), hm t[k].2.2.2.2.2.1]
      rw [drop_cons hk]
      unfold jumpC
      by_cases h1 : ((t[k].1 == (10 : Int)) || (t[k].1 == (11 : Int))) = true
      · rw [if_pos h1, if_pos h1]
        by_cases h2 : seen.contains t[k].2.2.2.2.2.1 = true
        · rw [if_pos h2, if_neg (by rw [h2]; decide)]; exact ih
        · rw [if_neg h2, if_pos (by rw [Bool.eq_false_iff.2 h2]; rfl)]; exact .leaf
      · rw [if_neg h1, if_neg h1]; exact ih
  have main : ∀ k, k ≤ t.length → ∀ m seen, Seen m seen → (∀ i ∈ t.take k, v_ins_Right i = 0) → Goes (T_valid_thread p t) (.jmp (.l7 (k : Int) m)) (scanI p (fun seen => endC t (jumpC seen t)) seen (t.drop k)) := by
    refine down ?_ fun k hk ih => ?_
    · intro m seen hm hr
      rw [List.take_length] at hr
      have hj := jmps m seen hm hr 0 (Nat.zero_le _)
      rw [List.drop_zero] at hj
      rw [goes_jmp, List.drop_length]
      unfold scanI
      simp only [T_valid_thread, goes_br, lt_len_not (Nat.lt_irrefl _)]
      rw [if_neg (by decide)]
      by_cases h0 : t.length = 0
      · have : t = [] := List.eq_nil_of_length_eq_zero h0
        rw [this]; simp [goes_leaf, endC]
      · have hp : 0 < t.length := by omega
        rw [if_neg (by simp; exact fun e => h0 (by rw [e]; rfl)), endC_eq hp]
        rw [show Int.ofNat t.length = (t.length : Int) from rfl, wrap_pred (k := t.length) (by omega) hp]
        have hb : (decide (0 ≤ ((t.length - 1 : Nat) : Int)) && decide (((t.length - 1 : Nat) : Int) < (t.length : Int))) = true := by simp; omega
        simp only [hb, if_true, Int.toNat_natCast, getD_lt (show t.length - 1 < t.length by omega)]
        unfold bne
        cases h10 : (t[t.length - 1].1 == (10 : Int)) with
        | true => simpa using hj
        | false =>
          cases h14 : (t[t.length - 1].1 == (14 : Int)) with
          | true => simpa using hj
          | false => simp [goes_leaf]
    · intro m seen hm hr
      have hmem : t[k] ∈ t := List.getElem_mem hk
      have hto := hS.to _ hmem
      have hlab := hS.lab _ hmem
      have hlen := Nat.lt_of_le_of_lt (labels_mem hmem) hS.labs
      have hr' : v_ins_Right t[k] = 0 → ∀ i ∈ t.take (k + 1), v_ins_Right i = 0 := fun h i hi => by
        rw [List.take_add_one, List.getElem?_eq_getElem hk] at hi
        rcases List.mem_append.1 hi with hi | hi
        · exact hr i hi
        · rw [Option.toList_some, List.mem_singleton] at hi; rw [hi]; exact h
      rw [goes_jmp]
      simp only [T_valid_thread, goes_br, lt_len hk, nng, Bool.and_self, if_true, Int.toNat_natCast, getD_lt hk]
      rw [drop_cons hk]
      unfold scanI
      generalize t[k] = i at hto hlab hlen hr'
      obtain ⟨op, lock, cond, ⟨ak, ar, ay, an⟩, ⟨bk, br, bz, bn⟩, to, ls⟩ := i
      dsimp only at hto hlab hlen hr' ⊢
      have inner : ∀ j, j ≤ ls.length → ∀ m seen, Seen m seen → Goes (T_valid_thread p t) (.jmp (.l14 ls (Int.ofNat ls.length) op lock cond ak ar ay an bk br bz bn to ls (j : Int) m (k : Int))) (scanL seen (fun seen => if insC p (op, (lock, (cond, ((ak, (ar, (ay, an))), ((bk, (br, (bz, bn))), (to, ls)))))) ≠ 0 then insC p (op, (lock, (cond, ((ak, (ar, (ay, an))), ((bk, (br, (bz, bn))), (to, ls)))))) else scanI p (fun seen => endC t (jumpC seen t)) seen (t.drop (k + 1))) (ls.drop j)) := by
        refine down ?_ fun j hj ihj => ?_
        · intro m seen hm
          rw [goes_jmp, List.drop_length]
          unfold scanL
          have hkr : k_ins_Right (op, (lock, (cond, ((ak, (ar, (ay, an))), ((bk, (br, (bz, bn))), (to, ls)))))) = true := hto
          simp only [T_valid_thread, goes_br, lt_len_not (Nat.lt_irrefl _), hkr, if_true, v_valid_place, wrap_succ (k := k) (by omega)]
          rw [if_neg (by decide)]
          unfold insC
          dsimp only
          by_cases hr : v_ins_Right (op, (lock, (cond, ((ak, (ar, (ay, an))), ((bk, (br, (bz, bn))), (to, ls)))))) = 0
          · have ih' := ih m seen hm (hr' hr)
            by_cases ha : placeC p (ak, (ar, (ay, an))) = 0
            · by_cases hb : placeC p (bk, (br, (bz, bn))) = 0
              · simp [hr, ha, hb]; exact ih'
              · simp [hr, ha, hb, goes_leaf]
            · simp [hr, ha, goes_leaf]
          · simp [hr, goes_leaf]
        · intro m seen hm
          have hl := hlab ls[j] (List.getElem_mem hj)
          have hkn : k_names_Right ls[j] = true := hl
          rw [goes_jmp]
          simp only [T_valid_thread, goes_br, lt_len hj, nng, Bool.and_self, if_true, Int.toNat_natCast, getD_lt hj, wrap_succ (k := j) (by omega), hkn, hm ls[j]]
          rw [drop_cons hj]
          unfold scanL
          by_cases h1 : nameRight ls[j] = false
          · rw [if_pos h1, if_pos (by show (! nameRight ls[j]) = true; rw [h1]; rfl)]; exact .leaf
          · rw [if_neg h1, if_neg (by show ¬ (! nameRight ls[j]) = true; simpa using h1)]
            by_cases h2 : seen.contains ls[j] = true
            · rw [if_pos h2, if_pos h2]; exact .leaf
            · rw [if_neg h2, if_neg h2]; exact ihj _ _ (hm.put _)
      have := inner 0 (Nat.zero_le _) m seen hm
      rw [List.drop_zero] at this
      exact this
  unfold T0_valid_thread v_valid_thread
  have hkc : k_valid_Count t = true := decide_eq_true hn
  simp only [goes_br, hkc, if_true]
  unfold threadC v_valid_Count
  by_cases h : 4096 < countM t
  · rw [if_pos (by simp; omega), if_pos h]; exact .leaf
  · rw [if_neg (by simp; omega), if_neg h]
    exact main 0 (Nat.zero_le _) [] [] Seen.nil (fun i hi => by simp at hi)
end Go.Ev
end

section
set_option linter.unusedSectionVars false
set_option linter.unusedVariables false
set_option linter.unusedSimpArgs false
set_option maxRecDepth 100000
set_option linter.unusedVariables false
open Go Go.Ev
namespace Go.Ev
noncomputable def e_valid_thread : Run := entG sg_valid_thread R_valid_thread (fun a => k_valid_thread a.1 a.2.1) (fun a => v_valid_thread a.1 a.2.1)
theorem ok_valid_thread : EntOK Go.Proofs.Tryd.prog 57 e_valid_thread := entG_ok (tb := tb_valid_thread) (c := c_valid_thread) tk_valid_thread (by kernel_rfl) (by kernel_rfl) (by kernel_rfl) (fun a => by kernel_rfl) fun ⟨p, t, _⟩ hk => evF_goes (c := c_valid_thread) (K := fun v => (R_valid_thread v, tps (toForms sg_valid_thread (p, t, ())))) (S := S_valid_thread p t) (by kernel_rfl) (en_valid_thread p t) (lp_valid_thread p t) (g_valid_thread p t hk)
end Go.Ev
end

section
set_option linter.unusedSectionVars false
set_option linter.unusedVariables false
set_option linter.unusedSimpArgs false
set_option maxRecDepth 100000
set_option linter.unusedVariables false
open Go Go.Ev
namespace Go.Ev
/-! ### paling/valid.Check -/
def sg_valid_Check : Sig := [(true, T_api_Prog)]
noncomputable def t_valid_Check : Tbl := [(56, e_names_Right), (57, e_valid_thread)]
theorem tk_valid_Check : ∀ p ∈ t_valid_Check, EntOK Go.Proofs.Tryd.prog p.1 p.2 := tbl_cons ok_names_Right (tbl_cons ok_valid_thread (tbl_nil))
noncomputable def c_valid_Check : Code := Go.Proofs.Tryd.f36.body.getD .skip
def tb_valid_Check : Tb := [(7, ⟨[1, 3, 21, 22, 23], []⟩), (21, ⟨[1, 59, 60, 61], []⟩)]
inductive J_valid_Check where
  | l7 (h : Int) (seen : List (ByteArray × Bool))
  | l21 (h : Int)
def T_valid_Check (p : El T_api_Prog) : J_valid_Check → JT J_valid_Check (Int)
  | .l7 h seen =>
    .br (decide (h < (Int.ofNat (List.length p.1))))
      (.br ((decide ((0 : Int) ≤ h)) && (decide (h < (Int.ofNat (List.length p.1)))))
        (.br (k_names_Right (List.getD p.1 (Int.toNat h) (dflt T_api_Sym)).1)
          (.br (! (v_names_Right (List.getD p.1 (Int.toNat h) (dflt T_api_Sym)).1))
            (.leaf (3 : Int))
          (.br (Option.getD (mget (kt := .str) (List.getD p.1 (Int.toNat h) (dflt T_api_Sym)).1 seen) false)
            (.leaf (6 : Int))
          (.br (decide ((List.getD p.1 (Int.toNat h) (dflt T_api_Sym)).2.1 < (1 : Int)))
            (.leaf (5 : Int))
          (.br (decide ((List.getD p.1 (Int.toNat h) (dflt T_api_Sym)).2.1 > (64 : Int)))
            (.leaf (5 : Int))
          (.br (decide ((Int.ofNat (List.length (List.getD p.1 (Int.toNat h) (dflt T_api_Sym)).2.2)) > (List.getD p.1 (Int.toNat h) (dflt T_api_Sym)).2.1))
            (.leaf (5 : Int))
          (.jmp (.l7 (IntKind.i64.wrap (h + (1 : Int))) (mput (kt := .str) (List.getD p.1 (Int.toNat h) (dflt T_api_Sym)).1 true seen))))))))
        (.no))
      (.no))
    (.jmp (.l21 (0 : Int)))
  | .l21 h =>
    .br (decide (h < (Int.ofNat (List.length p.2))))
      (.br ((decide ((0 : Int) ≤ h)) && (decide (h < (Int.ofNat (List.length p.2)))))
        (.br (k_valid_thread p (List.getD p.2 (Int.toNat h) (dflt (.sl (.pr (.int .i64) (.pr .bool (.pr (.int .i64) (.pr (.pr (.int .i64) (.pr (.int .i64) (.pr (.int .i64) (.int .i64)))) (.pr (.pr (.int .i64) (.pr (.int .i64) (.pr (.int .i64) (.int .i64)))) (.pr .str (.sl .str)))))))))))
          (.br ((v_valid_thread p (List.getD p.2 (Int.toNat h) (dflt (.sl (.pr (.int .i64) (.pr .bool (.pr (.int .i64) (.pr (.pr (.int .i64) (.pr (.int .i64) (.pr (.int .i64) (.int .i64)))) (.pr (.pr (.int .i64) (.pr (.int .i64) (.pr (.int .i64) (.int .i64)))) (.pr .str (.sl .str))))))))))) != (0 : Int))
            (.leaf (v_valid_thread p (List.getD p.2 (Int.toNat h) (dflt (.sl (.pr (.int .i64) (.pr .bool (.pr (.int .i64) (.pr (.pr (.int .i64) (.pr (.int .i64) (.pr (.int .i64) (.int .i64)))) (.pr (.pr (.int .i64) (.pr (.int .i64) (.pr (.int .i64) (.int .i64)))) (.pr .str (.sl .str))))))))))))
          (.jmp (.l21 (IntKind.i64.wrap (h + (1 : Int))))))
        (.no))
      (.no))
    (.leaf (0 : Int))
def T0_valid_Check (p : El T_api_Prog) : JT J_valid_Check (Int) :=
  .br (decide ((Int.ofNat (List.length p.1)) > (64 : Int)))
    (.leaf (10 : Int))
  (.br (decide ((Int.ofNat (List.length p.2)) > (64 : Int)))
    (.leaf (10 : Int))
  (.jmp (.l7 (0 : Int) [])))
def R_valid_Check : Int → AV := fun (r : Int) => .d (.int .i64) r
def S_valid_Check (p : El T_api_Prog) : J_valid_Check → Nat × St
  | .l7 h seen => (7, ⟨mkTm 72 [(1, .pt 2 0 0), (3, .mp 4 0), (21, .d (.sl T_api_Sym) p.1), (22, .d (.int .i64) (Int.ofNat (List.length p.1))), (23, .d (.int .i64) h)], [(2, 0, .box 25 [.d (.sl T_api_Sym) p.1, .d (.sl (.sl T_api_Ins)) p.2] none), (4, 0, .map .str .bool seen)]⟩)
  | .l21 h => (21, ⟨mkTm 72 [(1, .pt 2 0 0), (59, .d (.sl (.sl T_api_Ins)) p.2), (60, .d (.int .i64) (Int.ofNat (List.length p.2))), (61, .d (.int .i64) h)], [(2, 0, .box 25 [.d (.sl T_api_Sym) p.1, .d (.sl (.sl T_api_Ins)) p.2] none)]⟩)
theorem en_valid_Check (p : El T_api_Prog) (L : Lt) : entryA Go.Proofs.Tryd.prog (clOf t_valid_Check) tb_valid_Check Go.Proofs.Tryd.f36 c_valid_Check L (toForms sg_valid_Check (p, ())) = (T0_valid_Check p).run (fun v => some (R_valid_Check v, tps (toForms sg_valid_Check (p, ())))) fun j => L (S_valid_Check p j).1 (S_valid_Check p j).2 := by kernel_rfl
theorem lp_valid_Check (p : El T_api_Prog) : ∀ (L : Lt) (j : J_valid_Check), procOf (procsF Go.Proofs.Tryd.prog (clOf t_valid_Check) tb_valid_Check Go.Proofs.Tryd.f36 c_valid_Check (toForms sg_valid_Check (p, ()))) (S_valid_Check p j).1 L (S_valid_Check p j).2 = (T_valid_Check p j).run (fun v => some (R_valid_Check v, tps (toForms sg_valid_Check (p, ())))) fun j => L (S_valid_Check p j).1 (S_valid_Check p j).2
  | L, .l7 h seen => by kernel_rfl
  | L, .l21 h => by kernel_rfl
end Go.Ev
end

section
set_option linter.unusedSectionVars false
set_option linter.unusedVariables false
set_option linter.unusedSimpArgs false
set_option linter.unusedVariables false
set_option linter.unusedSimpArgs false
open Go
namespace Go.Ev
def v_valid_Check (p : El T_api_Prog) : Int := checkC p
def k_valid_Check (p : El T_api_Prog) : Bool := smallProg p
theorem g_valid_Check (p : El T_api_Prog) (hk : k_valid_Check p = true) : Goes (T_valid_Check p) (T0_valid_Check p) (v_valid_Check p) := by
  have hth : ∀ t ∈ p.2, smallThread t = true := by
    unfold k_valid_Check smallProg at hk
    simp only [Bool.and_eq_true, List.all_eq_true] at hk
    exact hk.2
  have hsy : ∀ s ∈ p.1, smallText s.1 = true := by
    unfold k_valid_Check smallProg at hk
    simp only [Bool.and_eq_true, List.all_eq_true] at hk
    exact hk.1
  obtain ⟨sy, th⟩ := p
  dsimp only at hth hsy
  have ths : th.length ≤ 64 → ∀ k, k ≤ th.length → Goes (T_valid_Check (sy, th)) (.jmp (.l21 (k : Int))) (thsC (sy, th) (th.drop k)) := by
    intro hn
    refine down ?_ fun k hk ih => ?_
    · rw [goes_jmp]
      simp only [T_valid_Check, goes_br, lt_len_not (Nat.lt_irrefl _), goes_leaf, List.drop_length]
      simp [thsC]
    · have hkt : k_valid_thread (sy, th) th[k] = true := hth _ (List.getElem_mem hk)
      rw [goes_jmp]
      simp only [T_valid_Check, goes_br, lt_len hk, nng, Bool.and_self, if_true, Int.toNat_natCast, getD_lt hk, wrap_succ (k := k) (by omega), hkt]
      rw [drop_cons hk]
      unfold thsC
      show (if (threadC (sy, th) th[k] != 0) = true then _ else _)
      by_cases h : threadC (sy, th) th[k] = 0
      · rw [if_neg (by simp [h]), if_neg (by simp [h])]; exact ih
      · rw [if_pos (by simp [h]), if_pos h]; exact .leaf

  have main : sy.length ≤ 64 → th.length ≤ 64 → ∀ k, k ≤ sy.length → ∀ m seen, Seen m seen → Goes (T_valid_Check (sy, th)) (.jmp (.l7 (k : Int) m)) (symsC (thsC (sy, th) th) seen (sy.drop k)) := by
    intro hn hm
    refine down ?_ fun k hk ih => ?_
    · intro m seen hs
      rw [goes_jmp, List.drop_length]
      unfold symsC
      simp only [T_valid_Check, goes_br, lt_len_not (Nat.lt_irrefl _)]
      rw [if_neg (by decide)]
      simpa using ths hm 0 (Nat.zero_le _)
    · intro m seen hs
      have hkn : k_names_Right sy[k].1 = true := hsy _ (List.getElem_mem hk)
      rw [goes_jmp]
      simp only [T_valid_Check, goes_br, lt_len hk, nng, Bool.and_self, if_true, Int.toNat_natCast, getD_lt hk, wrap_succ (k := k) (by omega), hkn, hs sy[k].1]
      rw [drop_cons hk]
      unfold symsC
      generalize sy[k] = s at *
      obtain ⟨nm, size, init⟩ := s
      dsimp only
      change Int at size
      by_cases h1 : nameRight nm = false
      · rw [if_pos h1, if_pos (by show (! nameRight nm) = true; rw [h1]; rfl)]; exact .leaf
      rw [if_neg h1, if_neg (by show ¬ (! nameRight nm) = true; simpa using h1)]
      by_cases h2 : seen.contains nm = true
      · rw [if_pos h2, if_pos h2]; exact .leaf
      rw [if_neg h2, if_neg h2]
      by_cases h3 : size < 1
      · rw [if_pos (decide_eq_true h3), if_pos (.inl h3)]; exact .leaf
      rw [if_neg (by simpa using h3)]
      by_cases h4 : 64 < size
      · rw [if_pos (decide_eq_true h4), if_pos (.inr (.inl h4))]; exact .leaf
      rw [if_neg (by simpa using h4)]
      by_cases h5 : size < (List.length init : Int)
      · rw [if_pos (show decide (Int.ofNat (List.length init) > size) = true from decide_eq_true h5), if_pos (.inr (.inr h5))]; exact .leaf
      rw [if_neg (show ¬ decide (Int.ofNat (List.length init) > size) = true by simpa using h5), if_neg (by rintro (h | h | h) <;> contradiction)]
      exact ih _ _ (hs.put nm)
  unfold T0_valid_Check v_valid_Check checkC
  simp only [goes_br]
  by_cases h : 64 < sy.length
  · rw [if_pos (by simp; omega), if_pos (.inl h)]; exact .leaf
  rw [if_neg (by simp; omega)]
  by_cases h2 : 64 < th.length
  · rw [if_pos (by simp; omega), if_pos (.inr h2)]; exact .leaf
  rw [if_neg (by simp; omega), if_neg (by rintro (h | h) <;> contradiction)]
  exact main (by omega) (by omega) 0 (Nat.zero_le _) [] [] Seen.nil
end Go.Ev
end

section
set_option linter.unusedSectionVars false
set_option linter.unusedVariables false
set_option linter.unusedSimpArgs false
set_option maxRecDepth 100000
set_option linter.unusedVariables false
open Go Go.Ev
namespace Go.Ev
noncomputable def e_valid_Check : Run := entG sg_valid_Check R_valid_Check (fun a => k_valid_Check a.1) (fun a => v_valid_Check a.1)
theorem ok_valid_Check : EntOK Go.Proofs.Tryd.prog 36 e_valid_Check := entG_ok (tb := tb_valid_Check) (c := c_valid_Check) tk_valid_Check (by kernel_rfl) (by kernel_rfl) (by kernel_rfl) (fun a => by kernel_rfl) fun ⟨p, _⟩ hk => evF_goes (c := c_valid_Check) (K := fun v => (R_valid_Check v, tps (toForms sg_valid_Check (p, ())))) (S := S_valid_Check p) (by kernel_rfl) (en_valid_Check p) (lp_valid_Check p) (g_valid_Check p hk)
end Go.Ev
end

section
set_option linter.unusedSectionVars false
set_option linter.unusedVariables false
set_option linter.unusedSimpArgs false
set_option maxRecDepth 100000
set_option linter.unusedVariables false
open Go Go.Ev
namespace Go.Ev
/-! ### paling/cells.ahead -/
def sg_cells_ahead : Sig := [(true, T_api_Prog), (false, (.int .i64))]
noncomputable def t_cells_ahead : Tbl := []
theorem tk_cells_ahead : ∀ p ∈ t_cells_ahead, EntOK Go.Proofs.Tryd.prog p.1 p.2 := tbl_nil
noncomputable def c_cells_ahead : Code := Go.Proofs.Tryd.f53.body.getD .skip
def tb_cells_ahead : Tb := [(4, ⟨[5, 11, 12, 13], []⟩)]
inductive J_cells_ahead where
  | l4 (at_ : Int) (h : Int)
def T_cells_ahead (p : El T_api_Prog) (n : Int) : J_cells_ahead → JT J_cells_ahead (Int)
  | .l4 at_ h =>
    .br (decide (h < (Int.ofNat (List.length (List.take (Int.toNat n) p.1)))))
      (.br ((decide ((0 : Int) ≤ h)) && (decide (h < (Int.ofNat (List.length (List.take (Int.toNat n) p.1))))))
        (.jmp (.l4 (IntKind.i64.wrap (at_ + (List.getD (List.take (Int.toNat n) p.1) (Int.toNat h) (dflt T_api_Sym)).2.1)) (IntKind.i64.wrap (h + (1 : Int)))))
      (.no))
    (.leaf at_)
def T0_cells_ahead (p : El T_api_Prog) (n : Int) : JT J_cells_ahead (Int) :=
  .br ((((decide ((0 : Int) ≤ n)) && (decide (n ≤ (Int.ofNat (List.length p.1))))) && true) && (decide ((0 : Int) ≤ n)))
    (.jmp (.l4 (0 : Int) (0 : Int)))
  (.no)
def R_cells_ahead : Int → AV := fun (r : Int) => .d (.int .i64) r
def S_cells_ahead (p : El T_api_Prog) (n : Int) : J_cells_ahead → Nat × St
  | .l4 at_ h => (4, ⟨mkTm 23 [(5, .d (.int .i64) at_), (11, .d (.sl T_api_Sym) (List.take (Int.toNat n) p.1)), (12, .d (.int .i64) (Int.ofNat (List.length (List.take (Int.toNat n) p.1)))), (13, .d (.int .i64) h)], []⟩)
theorem en_cells_ahead (p : El T_api_Prog) (n : Int) (L : Lt) : entryA Go.Proofs.Tryd.prog (clOf t_cells_ahead) tb_cells_ahead Go.Proofs.Tryd.f53 c_cells_ahead L (toForms sg_cells_ahead (p, n, ())) = (T0_cells_ahead p n).run (fun v => some (R_cells_ahead v, tps (toForms sg_cells_ahead (p, n, ())))) fun j => L (S_cells_ahead p n j).1 (S_cells_ahead p n j).2 := by kernel_rfl
theorem lp_cells_ahead (p : El T_api_Prog) (n : Int) : ∀ (L : Lt) (j : J_cells_ahead), procOf (procsF Go.Proofs.Tryd.prog (clOf t_cells_ahead) tb_cells_ahead Go.Proofs.Tryd.f53 c_cells_ahead (toForms sg_cells_ahead (p, n, ()))) (S_cells_ahead p n j).1 L (S_cells_ahead p n j).2 = (T_cells_ahead p n j).run (fun v => some (R_cells_ahead v, tps (toForms sg_cells_ahead (p, n, ())))) fun j => L (S_cells_ahead p n j).1 (S_cells_ahead p n j).2
  | L, .l4 at_ h => by kernel_rfl
end Go.Ev
end

section
set_option linter.unusedSectionVars false
set_option linter.unusedVariables false
set_option linter.unusedSimpArgs false
/- Chapter 11's cells, over lists. -/
set_option linter.unusedVariables false
set_option linter.unusedSimpArgs false
namespace Go.Ev
open Go
/-- The cells of the first symbols, as both texts add them up. -/
def aheadW : Int → List (El T_api_Sym) → Int
  | a, [] => a
  | a, s :: r => aheadW (IntKind.i64.wrap (a + s.2.1)) r
def symW : Int → Nat → List (El T_api_Sym) → Int
  | _, _, [] => -1
  | a, k, s :: r => if decide (a < s.2.1) = true then (k : Int) else symW (IntKind.i64.wrap (a - s.2.1)) (k + 1) r
def cellsC (s : El T_api_Sym) : List Int := s.2.2 ++ List.replicate (s.2.1 - (List.length s.2.2 : Int)).toNat (0 : Int)
theorem getApp1 {a b : List Int} {j : Nat} (h : j < (a ++ b).length) (hj : j < a.length) : (a ++ b)[j] = a[j] := List.getElem_append_left hj
theorem getApp2 {a : List Int} {n j : Nat} (h : j < (a ++ List.replicate n (0 : Int)).length) (hj : ¬ j < a.length) : (a ++ List.replicate n (0 : Int))[j] = 0 := by
  rw [List.getElem_append_right (by omega), List.getElem_replicate]
def startC (l : List (El T_api_Sym)) : List Int := l.flatMap cellsC
structure SymsOK (l : List (El T_api_Sym)) : Prop where
  len : l.length ≤ 64
  lo : ∀ s ∈ l, (1 : Int) ≤ s.2.1
  hi : ∀ s ∈ l, (show Int from s.2.1) ≤ 64
  init : ∀ s ∈ l, (List.length s.2.2 : Int) ≤ s.2.1
theorem symsC_zero {K : Int} : ∀ {l : List (El T_api_Sym)} {seen : List ByteArray}, symsC K seen l = 0 → ∀ s ∈ l, ¬ (s.2.1 < (1 : Int) ∨ (64 : Int) < s.2.1 ∨ s.2.1 < (List.length s.2.2 : Int))
  | [], _, _ => by simp
  | x :: l, seen, h => by
    unfold symsC at h
    split at h
    · exact absurd h (by decide)
    · split at h
      · exact absurd h (by decide)
      · split at h
        · exact absurd h (by decide)
        · rename_i h1
          intro s hs
          rcases List.mem_cons.1 hs with rfl | hs
          · exact h1
          · exact symsC_zero h s hs
theorem symsOK_of {p : El T_api_Prog} (h : checkC p = 0) : SymsOK p.1 := by
  unfold checkC at h
  split at h
  · exact absurd h (by decide)
  · rename_i h0
    have hs := symsC_zero h
    have cut : ∀ (x y : Int), ¬ (x < 1 ∨ 64 < x ∨ x < y) → 1 ≤ x ∧ x ≤ 64 ∧ y ≤ x := fun x y h => by omega
    exact ⟨by omega, fun s hs' => (cut _ _ (hs s hs')).1, fun s hs' => (cut _ _ (hs s hs')).2.1, fun s hs' => (cut _ _ (hs s hs')).2.2⟩
theorem SymsOK.tail {s : El T_api_Sym} {l : List (El T_api_Sym)} (h : SymsOK (s :: l)) : SymsOK l :=
  ⟨by have := h.len; simp at this; omega, fun x hx => h.lo x (List.mem_cons_of_mem _ hx), fun x hx => h.hi x (List.mem_cons_of_mem _ hx), fun x hx => h.init x (List.mem_cons_of_mem _ hx)⟩
theorem SymsOK.drop {l : List (El T_api_Sym)} (h : SymsOK l) (k : Nat) : SymsOK (l.drop k) :=
  ⟨by have := h.len; rw [List.length_drop]; omega, fun x hx => h.lo x (List.mem_of_mem_drop hx), fun x hx => h.hi x (List.mem_of_mem_drop hx), fun x hx => h.init x (List.mem_of_mem_drop hx)⟩
theorem cellsC_len {s : El T_api_Sym} (h : (List.length s.2.2 : Int) ≤ s.2.1) : ((cellsC s).length : Int) = s.2.1 := by
  unfold cellsC
  rw [List.length_append, List.length_replicate]
  have : ∀ (a b : Int), b ≤ a → 0 ≤ b → b + ((a - b).toNat : Int) = a := fun a b h1 h2 => by omega
  have := this s.2.1 (List.length s.2.2) h (by omega)
  omega
theorem startC_len : ∀ {l : List (El T_api_Sym)}, SymsOK l → (startC l).length ≤ 64 * l.length
  | [], _ => by simp [startC]
  | s :: l, h => by
    have h1 := cellsC_len (h.init s (by simp))
    have h2 : (show Int from s.2.1) ≤ 64 := h.hi s (by simp)
    change ((cellsC s).length : Int) = (show Int from s.2.1) at h1
    have h3 := startC_len h.tail
    unfold startC at *
    rw [List.flatMap_cons, List.length_append, List.length_cons]
    omega
/-- The exact number of cells. -/
def aheadC (l : List (El T_api_Sym)) : Int := (l.map fun s => (show Int from s.2.1)).sum
theorem aheadC_bounds : ∀ {l : List (El T_api_Sym)}, SymsOK l → 0 ≤ aheadC l ∧ aheadC l ≤ 64 * l.length
  | [], _ => by simp [aheadC]
  | s :: l, h => by
    have h1 : (1 : Int) ≤ (show Int from s.2.1) := h.lo s (by simp)
    have h2 : (show Int from s.2.1) ≤ 64 := h.hi s (by simp)
    have h3 := aheadC_bounds h.tail
    unfold aheadC at *
    rw [List.map_cons, List.sum_cons, List.length_cons]
    omega
theorem aheadW_eq : ∀ {l : List (El T_api_Sym)} {a : Int}, SymsOK l → 0 ≤ a → a + 64 * l.length ≤ 1073741824 → aheadW a l = a + aheadC l
  | [], a, _, _, _ => by simp [aheadW, aheadC]
  | s :: l, a, h, h0, ha => by
    have h1 : (1 : Int) ≤ (show Int from s.2.1) := h.lo s (by simp)
    have h2 : (show Int from s.2.1) ≤ 64 := h.hi s (by simp)
    have ih : ∀ b : Int, 0 ≤ b → b + 64 * l.length ≤ 1073741824 → aheadW b l = b + aheadC l := fun b => aheadW_eq h.tail
    rw [List.length_cons] at ha
    have go : ∀ (x c : Int), 1 ≤ x → x ≤ 64 → aheadW (IntKind.i64.wrap (a + x)) l = a + (x + aheadC l) := fun x c hx1 hx2 => by
      rw [wrap_i64 (by omega) (by omega), ih (a + x) (by omega) (by omega)]
      omega
    unfold aheadW
    exact go _ 0 h1 h2
end Go.Ev
end

section
set_option linter.unusedSectionVars false
set_option linter.unusedVariables false
set_option linter.unusedSimpArgs false
set_option linter.unusedVariables false
set_option linter.unusedSimpArgs false
open Go
namespace Go.Ev
def v_cells_ahead (p : El T_api_Prog) (n : Int) : Int := aheadW 0 (List.take n.toNat p.1)
def k_cells_ahead (p : El T_api_Prog) (n : Int) : Bool := decide (0 ≤ n) && (decide (n ≤ (List.length p.1 : Int)) && decide (List.length p.1 < 4611686018427387904))
theorem g_cells_ahead (p : El T_api_Prog) (n : Int) (hk : k_cells_ahead p n = true) : Goes (T_cells_ahead p n) (T0_cells_ahead p n) (v_cells_ahead p n) := by
  unfold k_cells_ahead at hk
  simp only [Bool.and_eq_true, decide_eq_true_eq] at hk
  obtain ⟨h0, h1, h2⟩ := hk
  obtain ⟨l, hl⟩ : ∃ l, List.take n.toNat p.1 = l := ⟨_, rfl⟩
  have hll : l.length < 4611686018427387904 := by rw [← hl, List.length_take]; omega
  have loop : ∀ k, k ≤ l.length → ∀ a : Int, Goes (T_cells_ahead p n) (.jmp (.l4 a (k : Int))) (aheadW a (l.drop k)) := by
    refine down ?_ fun k hk ih => ?_
    · intro a
      rw [goes_jmp]
      simp only [T_cells_ahead, goes_br, hl, lt_len_not (Nat.lt_irrefl _), List.drop_length]
      exact .leaf
    · intro a
      rw [goes_jmp]
      simp only [T_cells_ahead, goes_br, hl, lt_len hk, nng, Bool.and_self, if_true, Int.toNat_natCast, getD_lt hk, wrap_succ (k := k) (by omega)]
      rw [drop_cons hk]
      exact ih _
  have := loop 0 (Nat.zero_le _) 0
  unfold T0_cells_ahead v_cells_ahead
  rw [goes_br, if_pos (by simp; omega), hl]
  simpa using this
end Go.Ev
end

section
set_option linter.unusedSectionVars false
set_option linter.unusedVariables false
set_option linter.unusedSimpArgs false
set_option maxRecDepth 100000
set_option linter.unusedVariables false
open Go Go.Ev
namespace Go.Ev
noncomputable def e_cells_ahead : Run := entG sg_cells_ahead R_cells_ahead (fun a => k_cells_ahead a.1 a.2.1) (fun a => v_cells_ahead a.1 a.2.1)
theorem ok_cells_ahead : EntOK Go.Proofs.Tryd.prog 53 e_cells_ahead := entG_ok (tb := tb_cells_ahead) (c := c_cells_ahead) tk_cells_ahead (by kernel_rfl) (by kernel_rfl) (by kernel_rfl) (fun a => by kernel_rfl) fun ⟨p, n, _⟩ hk => evF_goes (c := c_cells_ahead) (K := fun v => (R_cells_ahead v, tps (toForms sg_cells_ahead (p, n, ())))) (S := S_cells_ahead p n) (by kernel_rfl) (en_cells_ahead p n) (lp_cells_ahead p n) (g_cells_ahead p n hk)
end Go.Ev
end

section
set_option linter.unusedSectionVars false
set_option linter.unusedVariables false
set_option linter.unusedSimpArgs false
set_option maxRecDepth 100000
set_option linter.unusedVariables false
open Go Go.Ev
namespace Go.Ev
/-! ### paling/cells.Addr -/
def sg_cells_Addr : Sig := [(true, T_api_Prog), (true, T_api_Opd), (true, (.pr (.int .i64) (.pr (.int .i64) (.pr (.int .i64) T_book_Act))))]
noncomputable def t_cells_Addr : Tbl := [(54, e_opnd_Right), (36, e_valid_Check), (53, e_cells_ahead)]
theorem tk_cells_Addr : ∀ p ∈ t_cells_Addr, EntOK Go.Proofs.Tryd.prog p.1 p.2 := tbl_cons ok_opnd_Right (tbl_cons ok_valid_Check (tbl_cons ok_cells_ahead (tbl_nil)))
noncomputable def c_cells_Addr : Code := Go.Proofs.Tryd.f31.body.getD .skip
def tb_cells_Addr : Tb := [(2, ⟨[3, 4, 5, 34], []⟩), (5, ⟨[3, 4, 8], []⟩)]
inductive J_cells_Addr where
  | l2 (h : Bool)
  | l5 (n : Int)
def T_cells_Addr (p : El T_api_Prog) (o : El T_api_Opd) (regs : Int × Int × Int × El T_book_Act) : J_cells_Addr → JT J_cells_Addr (Int × Bool)
  | .l2 h =>
    .br h
      (.leaf ((0 : Int), false))
    (.br (o.1 == (4 : Int))
      (.br (o.2.1 == (7 : Int))
        (.jmp (.l5 regs.2.2.2.2.2.2.2))
      (.br (o.2.1 == (6 : Int))
        (.jmp (.l5 regs.2.2.2.2.2.2.1))
      (.br (o.2.1 == (5 : Int))
        (.jmp (.l5 regs.2.2.2.2.2.1))
      (.br (o.2.1 == (4 : Int))
        (.jmp (.l5 regs.2.2.2.2.1))
      (.br (o.2.1 == (3 : Int))
        (.jmp (.l5 regs.2.2.2.1))
      (.br (o.2.1 == (2 : Int))
        (.jmp (.l5 regs.2.2.1))
      (.br (o.2.1 == (1 : Int))
        (.jmp (.l5 regs.2.1))
      (.br (o.2.1 == (0 : Int))
        (.jmp (.l5 regs.1))
      (.no)))))))))
    (.jmp (.l5 o.2.2.2)))
  | .l5 n =>
    .br ((decide ((0 : Int) ≤ o.2.2.1)) && (decide (o.2.2.1 < (Int.ofNat (List.length p.1)))))
      (.br (decide ((IntKind.u64.wrap n) ≥ (IntKind.u64.wrap (List.getD p.1 (Int.toNat o.2.2.1) (dflt T_api_Sym)).2.1)))
        (.leaf ((0 : Int), false))
      (.br (k_cells_ahead p o.2.2.1)
        (.leaf ((IntKind.i64.wrap ((v_cells_ahead p o.2.2.1) + n)), true))
      (.no)))
    (.no)
def T0_cells_Addr (p : El T_api_Prog) (o : El T_api_Opd) (regs : Int × Int × Int × El T_book_Act) : JT J_cells_Addr (Int × Bool) :=
  .br (! (v_opnd_Right o))
    (.jmp (.l2 true))
  (.br (o.1 != (3 : Int))
    (.br (o.1 != (4 : Int))
      (.jmp (.l2 true))
    (.br (decide (o.2.2.1 ≥ (Int.ofNat (List.length p.1))))
      (.jmp (.l2 true))
    (.br (k_valid_Check p)
      (.jmp (.l2 ((v_valid_Check p) != (0 : Int))))
    (.no))))
  (.br (decide (o.2.2.1 ≥ (Int.ofNat (List.length p.1))))
    (.jmp (.l2 true))
  (.br (k_valid_Check p)
    (.jmp (.l2 ((v_valid_Check p) != (0 : Int))))
  (.no))))
def v_cells_Addr_l5 (p : El T_api_Prog) (o : El T_api_Opd) (regs : Int × Int × Int × El T_book_Act) (n : Int) : Int × Bool :=
  bif ((decide ((0 : Int) ≤ o.2.2.1)) && (decide (o.2.2.1 < (Int.ofNat (List.length p.1))))) then
    bif (decide ((IntKind.u64.wrap n) ≥ (IntKind.u64.wrap (List.getD p.1 (Int.toNat o.2.2.1) (dflt T_api_Sym)).2.1))) then
      ((0 : Int), false)
    else bif (k_cells_ahead p o.2.2.1) then
      ((IntKind.i64.wrap ((v_cells_ahead p o.2.2.1) + n)), true)
    else ((0 : Int), false)
  else ((0 : Int), false)
def k_cells_Addr_l5 (p : El T_api_Prog) (o : El T_api_Opd) (regs : Int × Int × Int × El T_book_Act) (n : Int) : Bool :=
  bif ((decide ((0 : Int) ≤ o.2.2.1)) && (decide (o.2.2.1 < (Int.ofNat (List.length p.1))))) then
    bif (decide ((IntKind.u64.wrap n) ≥ (IntKind.u64.wrap (List.getD p.1 (Int.toNat o.2.2.1) (dflt T_api_Sym)).2.1))) then
      true
    else bif (k_cells_ahead p o.2.2.1) then
      true
    else false
  else false
theorem g_cells_Addr_l5 (p : El T_api_Prog) (o : El T_api_Opd) (regs : Int × Int × Int × El T_book_Act) (n : Int) (hk : k_cells_Addr_l5 p o regs n = true) : Goes (T_cells_Addr p o regs) (.jmp (.l5 n)) (v_cells_Addr_l5 p o regs n) :=
  Goes.jmp (Goes.brk hk (fun hk =>
    Goes.brk hk (fun hk =>
      Goes.leaf) (fun hk =>
      Goes.brk hk (fun hk =>
        Goes.leaf) (fun hk =>
        Goes.nok hk))) (fun hk =>
    Goes.nok hk))
def v_cells_Addr_l2 (p : El T_api_Prog) (o : El T_api_Opd) (regs : Int × Int × Int × El T_book_Act) (h : Bool) : Int × Bool :=
  bif h then
    ((0 : Int), false)
  else bif (o.1 == (4 : Int)) then
    bif (o.2.1 == (7 : Int)) then
      v_cells_Addr_l5 p o regs regs.2.2.2.2.2.2.2
    else bif (o.2.1 == (6 : Int)) then
      v_cells_Addr_l5 p o regs regs.2.2.2.2.2.2.1
    else bif (o.2.1 == (5 : Int)) then
      v_cells_Addr_l5 p o regs regs.2.2.2.2.2.1
    else bif (o.2.1 == (4 : Int)) then
      v_cells_Addr_l5 p o regs regs.2.2.2.2.1
    else bif (o.2.1 == (3 : Int)) then
      v_cells_Addr_l5 p o regs regs.2.2.2.1
    else bif (o.2.1 == (2 : Int)) then
      v_cells_Addr_l5 p o regs regs.2.2.1
    else bif (o.2.1 == (1 : Int)) then
      v_cells_Addr_l5 p o regs regs.2.1
    else bif (o.2.1 == (0 : Int)) then
      v_cells_Addr_l5 p o regs regs.1
    else ((0 : Int), false)
  else v_cells_Addr_l5 p o regs o.2.2.2
def k_cells_Addr_l2 (p : El T_api_Prog) (o : El T_api_Opd) (regs : Int × Int × Int × El T_book_Act) (h : Bool) : Bool :=
  bif h then
    true
  else bif (o.1 == (4 : Int)) then
    bif (o.2.1 == (7 : Int)) then
      k_cells_Addr_l5 p o regs regs.2.2.2.2.2.2.2
    else bif (o.2.1 == (6 : Int)) then
      k_cells_Addr_l5 p o regs regs.2.2.2.2.2.2.1
    else bif (o.2.1 == (5 : Int)) then
      k_cells_Addr_l5 p o regs regs.2.2.2.2.2.1
    else bif (o.2.1 == (4 : Int)) then
      k_cells_Addr_l5 p o regs regs.2.2.2.2.1
    else bif (o.2.1 == (3 : Int)) then
      k_cells_Addr_l5 p o regs regs.2.2.2.1
    else bif (o.2.1 == (2 : Int)) then
      k_cells_Addr_l5 p o regs regs.2.2.1
    else bif (o.2.1 == (1 : Int)) then
      k_cells_Addr_l5 p o regs regs.2.1
    else bif (o.2.1 == (0 : Int)) then
      k_cells_Addr_l5 p o regs regs.1
    else false
  else k_cells_Addr_l5 p o regs o.2.2.2
theorem g_cells_Addr_l2 (p : El T_api_Prog) (o : El T_api_Opd) (regs : Int × Int × Int × El T_book_Act) (h : Bool) (hk : k_cells_Addr_l2 p o regs h = true) : Goes (T_cells_Addr p o regs) (.jmp (.l2 h)) (v_cells_Addr_l2 p o regs h) :=
  Goes.jmp (Goes.brk hk (fun hk =>
    Goes.leaf) (fun hk =>
    Goes.brk hk (fun hk =>
      Goes.brk hk (fun hk =>
        g_cells_Addr_l5 p o regs regs.2.2.2.2.2.2.2 hk) (fun hk =>
        Goes.brk hk (fun hk =>
          g_cells_Addr_l5 p o regs regs.2.2.2.2.2.2.1 hk) (fun hk =>
          Goes.brk hk (fun hk =>
            g_cells_Addr_l5 p o regs regs.2.2.2.2.2.1 hk) (fun hk =>
            Goes.brk hk (fun hk =>
              g_cells_Addr_l5 p o regs regs.2.2.2.2.1 hk) (fun hk =>
              Goes.brk hk (fun hk =>
                g_cells_Addr_l5 p o regs regs.2.2.2.1 hk) (fun hk =>
                Goes.brk hk (fun hk =>
                  g_cells_Addr_l5 p o regs regs.2.2.1 hk) (fun hk =>
                  Goes.brk hk (fun hk =>
                    g_cells_Addr_l5 p o regs regs.2.1 hk) (fun hk =>
                    Goes.brk hk (fun hk =>
                      g_cells_Addr_l5 p o regs regs.1 hk) (fun hk =>
                      Goes.nok hk))))))))) (fun hk =>
      g_cells_Addr_l5 p o regs o.2.2.2 hk)))
def v_cells_Addr (p : El T_api_Prog) (o : El T_api_Opd) (regs : Int × Int × Int × El T_book_Act) : Int × Bool :=
  bif (! (v_opnd_Right o)) then
    v_cells_Addr_l2 p o regs true
  else bif (o.1 != (3 : Int)) then
    bif (o.1 != (4 : Int)) then
      v_cells_Addr_l2 p o regs true
    else bif (decide (o.2.2.1 ≥ (Int.ofNat (List.length p.1)))) then
      v_cells_Addr_l2 p o regs true
    else bif (k_valid_Check p) then
      v_cells_Addr_l2 p o regs ((v_valid_Check p) != (0 : Int))
    else ((0 : Int), false)
  else bif (decide (o.2.2.1 ≥ (Int.ofNat (List.length p.1)))) then
    v_cells_Addr_l2 p o regs true
  else bif (k_valid_Check p) then
    v_cells_Addr_l2 p o regs ((v_valid_Check p) != (0 : Int))
  else ((0 : Int), false)
def k_cells_Addr (p : El T_api_Prog) (o : El T_api_Opd) (regs : Int × Int × Int × El T_book_Act) : Bool :=
  bif (! (v_opnd_Right o)) then
    k_cells_Addr_l2 p o regs true
  else bif (o.1 != (3 : Int)) then
    bif (o.1 != (4 : Int)) then
      k_cells_Addr_l2 p o regs true
    else bif (decide (o.2.2.1 ≥ (Int.ofNat (List.length p.1)))) then
      k_cells_Addr_l2 p o regs true
    else bif (k_valid_Check p) then
      k_cells_Addr_l2 p o regs ((v_valid_Check p) != (0 : Int))
    else false
  else bif (decide (o.2.2.1 ≥ (Int.ofNat (List.length p.1)))) then
    k_cells_Addr_l2 p o regs true
  else bif (k_valid_Check p) then
    k_cells_Addr_l2 p o regs ((v_valid_Check p) != (0 : Int))
  else false
theorem g_cells_Addr (p : El T_api_Prog) (o : El T_api_Opd) (regs : Int × Int × Int × El T_book_Act) (hk : k_cells_Addr p o regs = true) : Goes (T_cells_Addr p o regs) (T0_cells_Addr p o regs) (v_cells_Addr p o regs) :=
  Goes.brk hk (fun hk =>
    g_cells_Addr_l2 p o regs true hk) (fun hk =>
    Goes.brk hk (fun hk =>
      Goes.brk hk (fun hk =>
        g_cells_Addr_l2 p o regs true hk) (fun hk =>
        Goes.brk hk (fun hk =>
          g_cells_Addr_l2 p o regs true hk) (fun hk =>
          Goes.brk hk (fun hk =>
            g_cells_Addr_l2 p o regs ((v_valid_Check p) != (0 : Int)) hk) (fun hk =>
            Goes.nok hk)))) (fun hk =>
      Goes.brk hk (fun hk =>
        g_cells_Addr_l2 p o regs true hk) (fun hk =>
        Goes.brk hk (fun hk =>
          g_cells_Addr_l2 p o regs ((v_valid_Check p) != (0 : Int)) hk) (fun hk =>
          Goes.nok hk))))
def R_cells_Addr : Int × Bool → AV := fun (r : Int × Bool) => .tu [.d (.int .i64) r.1, .d .bool r.2]
def S_cells_Addr (p : El T_api_Prog) (o : El T_api_Opd) (regs : Int × Int × Int × El T_book_Act) : J_cells_Addr → Nat × St
  | .l2 h => (2, ⟨mkTm 61 [(3, .pt 4 0 0), (4, .pt 5 0 0), (5, .pt 6 0 0), (34, .d .bool h)], [(4, 0, .box 25 [.d (.sl T_api_Sym) p.1, .d (.sl (.sl T_api_Ins)) p.2] none), (5, 0, .box 42 [.d (.int .i64) o.1, .d (.int .i64) o.2.1, .d (.int .i64) o.2.2.1, .d (.int .i64) o.2.2.2] none), (6, 0, .box 54 [.d (.int .i64) regs.1, .d (.int .i64) regs.2.1, .d (.int .i64) regs.2.2.1, .d (.int .i64) regs.2.2.2.1, .d (.int .i64) regs.2.2.2.2.1, .d (.int .i64) regs.2.2.2.2.2.1, .d (.int .i64) regs.2.2.2.2.2.2.1, .d (.int .i64) regs.2.2.2.2.2.2.2] none)]⟩)
  | .l5 n => (5, ⟨mkTm 61 [(3, .pt 4 0 0), (4, .pt 5 0 0), (8, .d (.int .i64) n)], [(4, 0, .box 25 [.d (.sl T_api_Sym) p.1, .d (.sl (.sl T_api_Ins)) p.2] none), (5, 0, .box 42 [.d (.int .i64) o.1, .d (.int .i64) o.2.1, .d (.int .i64) o.2.2.1, .d (.int .i64) o.2.2.2] none)]⟩)
theorem en_cells_Addr (p : El T_api_Prog) (o : El T_api_Opd) (regs : Int × Int × Int × El T_book_Act) (L : Lt) : entryA Go.Proofs.Tryd.prog (clOf t_cells_Addr) tb_cells_Addr Go.Proofs.Tryd.f31 c_cells_Addr L (toForms sg_cells_Addr (p, o, regs, ())) = (T0_cells_Addr p o regs).run (fun v => some (R_cells_Addr v, tps (toForms sg_cells_Addr (p, o, regs, ())))) fun j => L (S_cells_Addr p o regs j).1 (S_cells_Addr p o regs j).2 := by kernel_rfl
theorem lp_cells_Addr (p : El T_api_Prog) (o : El T_api_Opd) (regs : Int × Int × Int × El T_book_Act) : ∀ (L : Lt) (j : J_cells_Addr), procOf (procsF Go.Proofs.Tryd.prog (clOf t_cells_Addr) tb_cells_Addr Go.Proofs.Tryd.f31 c_cells_Addr (toForms sg_cells_Addr (p, o, regs, ()))) (S_cells_Addr p o regs j).1 L (S_cells_Addr p o regs j).2 = (T_cells_Addr p o regs j).run (fun v => some (R_cells_Addr v, tps (toForms sg_cells_Addr (p, o, regs, ())))) fun j => L (S_cells_Addr p o regs j).1 (S_cells_Addr p o regs j).2
  | L, .l2 h => by kernel_rfl
  | L, .l5 n => by kernel_rfl
noncomputable def e_cells_Addr : Run := entG sg_cells_Addr R_cells_Addr (fun a => k_cells_Addr a.1 a.2.1 a.2.2.1) (fun a => v_cells_Addr a.1 a.2.1 a.2.2.1)
theorem ok_cells_Addr : EntOK Go.Proofs.Tryd.prog 31 e_cells_Addr := entG_ok (tb := tb_cells_Addr) (c := c_cells_Addr) tk_cells_Addr (by kernel_rfl) (by kernel_rfl) (by kernel_rfl) (fun a => by kernel_rfl) fun ⟨p, o, regs, _⟩ hk => evF_goes (c := c_cells_Addr) (K := fun v => (R_cells_Addr v, tps (toForms sg_cells_Addr (p, o, regs, ())))) (S := S_cells_Addr p o regs) (by kernel_rfl) (en_cells_Addr p o regs) (lp_cells_Addr p o regs) (g_cells_Addr p o regs hk)
end Go.Ev
end

section
set_option linter.unusedSectionVars false
set_option linter.unusedVariables false
set_option linter.unusedSimpArgs false
set_option maxRecDepth 100000
set_option linter.unusedVariables false
open Go Go.Ev
namespace Go.Ev
/-! ### paling/palingref1.Count -/
def sg_ref1_Count : Sig := [(true, (.sl T_api_Ins))]
noncomputable def t_ref1_Count : Tbl := []
theorem tk_ref1_Count : ∀ p ∈ t_ref1_Count, EntOK Go.Proofs.Tryd.prog p.1 p.2 := tbl_nil
noncomputable def c_ref1_Count : Code := Go.Proofs.Tryd.f85.body.getD .skip
def tb_ref1_Count : Tb := [(4, ⟨[1, 3, 4], []⟩)]
inductive J_ref1_Count where
  | l4 (n : Int) (i : Int)
def T_ref1_Count (t : List (El T_api_Ins)) : J_ref1_Count → JT J_ref1_Count (Int)
  | .l4 n i =>
    .br (decide (i < (Int.ofNat (List.length t))))
      (.br ((decide ((0 : Int) ≤ i)) && (decide (i < (Int.ofNat (List.length t)))))
        (.br ((List.getD t (Int.toNat i) (dflt T_api_Ins)).1 != (12 : Int))
          (.jmp (.l4 (IntKind.i64.wrap (n + (1 : Int))) (IntKind.i64.wrap (i + (1 : Int)))))
        (.jmp (.l4 n (IntKind.i64.wrap (i + (1 : Int))))))
      (.no))
    (.leaf n)
def T0_ref1_Count (t : List (El T_api_Ins)) : JT J_ref1_Count (Int) :=
  .jmp (.l4 (0 : Int) (0 : Int))
def R_ref1_Count : Int → AV := fun (r : Int) => .d (.int .i64) r
def S_ref1_Count (t : List (El T_api_Ins)) : J_ref1_Count → Nat × St
  | .l4 n i => (4, ⟨mkTm 22 [(1, .pt 2 0 0), (3, .d (.int .i64) n), (4, .d (.int .i64) i)], [(2, 0, .box 40 [.d (.sl T_api_Ins) t] none)]⟩)
theorem en_ref1_Count (t : List (El T_api_Ins)) (L : Lt) : entryA Go.Proofs.Tryd.prog (clOf t_ref1_Count) tb_ref1_Count Go.Proofs.Tryd.f85 c_ref1_Count L (toForms sg_ref1_Count (t, ())) = (T0_ref1_Count t).run (fun v => some (R_ref1_Count v, tps (toForms sg_ref1_Count (t, ())))) fun j => L (S_ref1_Count t j).1 (S_ref1_Count t j).2 := by kernel_rfl
theorem lp_ref1_Count (t : List (El T_api_Ins)) : ∀ (L : Lt) (j : J_ref1_Count), procOf (procsF Go.Proofs.Tryd.prog (clOf t_ref1_Count) tb_ref1_Count Go.Proofs.Tryd.f85 c_ref1_Count (toForms sg_ref1_Count (t, ()))) (S_ref1_Count t j).1 L (S_ref1_Count t j).2 = (T_ref1_Count t j).run (fun v => some (R_ref1_Count v, tps (toForms sg_ref1_Count (t, ())))) fun j => L (S_ref1_Count t j).1 (S_ref1_Count t j).2
  | L, .l4 n i => by kernel_rfl
end Go.Ev
end

section
set_option linter.unusedSectionVars false
set_option linter.unusedVariables false
set_option linter.unusedSimpArgs false
set_option linter.unusedVariables false
set_option linter.unusedSimpArgs false
open Go
namespace Go.Ev
def v_ref1_Count (t : List (El T_api_Ins)) : Int := (countM t : Int)
def k_ref1_Count (t : List (El T_api_Ins)) : Bool := decide (t.length < 1099511627776)
theorem g_ref1_Count (t : List (El T_api_Ins)) (hk : k_ref1_Count t = true) : Goes (T_ref1_Count t) (T0_ref1_Count t) (v_ref1_Count t) := by
  have hn : t.length < 1099511627776 := of_decide_eq_true hk
  have loop : ∀ k, k ≤ t.length → ∀ n : Nat, n ≤ k → Goes (T_ref1_Count t) (.jmp (.l4 (n : Int) (k : Int))) ((n + countM (t.drop k) : Nat) : Int) := by
    refine down ?_ fun k hk ih => ?_
    · intro n hnk
      rw [goes_jmp]
      simp only [T_ref1_Count, goes_br, lt_len_not (Nat.lt_irrefl _), goes_leaf, List.drop_length]
      simp [countM]
    · intro n hnk
      rw [goes_jmp]
      simp only [T_ref1_Count, goes_br, lt_len hk, nng, Bool.and_self, if_true, Int.toNat_natCast, getD_lt hk, wrap_succ (k := k) (by omega), wrap_succ (k := n) (by omega)]
      rw [drop_cons hk]
      unfold countM
      rw [List.filter_cons]
      split
      · rename_i h
        have := ih (n + 1) (by omega)
        unfold countM at this
        rw [List.length_cons, show n + ((List.filter (fun i => i.1 != (12 : Int)) (List.drop (k + 1) t)).length + 1) = n + 1 + (List.filter (fun i => i.1 != (12 : Int)) (List.drop (k + 1) t)).length by omega]
        exact this
      · exact ih n (by omega)
  have := loop 0 (Nat.zero_le _) 0 (Nat.le_refl _)
  unfold T0_ref1_Count v_ref1_Count
  simpa using this
end Go.Ev
end

section
set_option linter.unusedSectionVars false
set_option linter.unusedVariables false
set_option linter.unusedSimpArgs false
set_option maxRecDepth 100000
set_option linter.unusedVariables false
open Go Go.Ev
namespace Go.Ev
noncomputable def e_ref1_Count : Run := entG sg_ref1_Count R_ref1_Count (fun a => k_ref1_Count a.1) (fun a => v_ref1_Count a.1)
theorem ok_ref1_Count : EntOK Go.Proofs.Tryd.prog 85 e_ref1_Count := entG_ok (tb := tb_ref1_Count) (c := c_ref1_Count) tk_ref1_Count (by kernel_rfl) (by kernel_rfl) (by kernel_rfl) (fun a => by kernel_rfl) fun ⟨t, _⟩ hk => evF_goes (c := c_ref1_Count) (K := fun v => (R_ref1_Count v, tps (toForms sg_ref1_Count (t, ())))) (S := S_ref1_Count t) (by kernel_rfl) (en_ref1_Count t) (lp_ref1_Count t) (g_ref1_Count t hk)
end Go.Ev
end

section
set_option linter.unusedSectionVars false
set_option linter.unusedVariables false
set_option linter.unusedSimpArgs false
set_option maxRecDepth 100000
set_option linter.unusedVariables false
open Go Go.Ev
namespace Go.Ev
/-! ### paling/palingref1.operand -/
def sg_ref1_operand : Sig := [(true, T_api_Prog), (true, T_api_Opd)]
noncomputable def t_ref1_operand : Tbl := [(46, e_ref1_Memory)]
theorem tk_ref1_operand : ∀ p ∈ t_ref1_operand, EntOK Go.Proofs.Tryd.prog p.1 p.2 := tbl_cons ok_ref1_Memory (tbl_nil)
noncomputable def c_ref1_operand : Code := Go.Proofs.Tryd.f87.body.getD .skip
def tb_ref1_operand : Tb := []
def T_ref1_operand (p : El T_api_Prog) (o : El T_api_Opd) : Empty → JT Empty (Int) := fun j => nomatch j
def T0_ref1_operand (p : El T_api_Prog) (o : El T_api_Opd) : JT Empty (Int) :=
  .br (! (v_ref1_Memory o))
    (.leaf (0 : Int))
  (.br (decide (o.2.2.1 ≥ (Int.ofNat (List.length p.1))))
    (.leaf (7 : Int))
  (.br (o.1 == (3 : Int))
    (.br ((decide ((0 : Int) ≤ o.2.2.1)) && (decide (o.2.2.1 < (Int.ofNat (List.length p.1)))))
      (.br (decide (o.2.2.2 ≥ (List.getD p.1 (Int.toNat o.2.2.1) (dflt T_api_Sym)).2.1))
        (.leaf (8 : Int))
      (.leaf (0 : Int)))
    (.no))
  (.leaf (0 : Int))))
def v_ref1_operand (p : El T_api_Prog) (o : El T_api_Opd) : Int :=
  bif (! (v_ref1_Memory o)) then
    (0 : Int)
  else bif (decide (o.2.2.1 ≥ (Int.ofNat (List.length p.1)))) then
    (7 : Int)
  else bif (o.1 == (3 : Int)) then
    bif ((decide ((0 : Int) ≤ o.2.2.1)) && (decide (o.2.2.1 < (Int.ofNat (List.length p.1))))) then
      bif (decide (o.2.2.2 ≥ (List.getD p.1 (Int.toNat o.2.2.1) (dflt T_api_Sym)).2.1)) then
        (8 : Int)
      else (0 : Int)
    else (0 : Int)
  else (0 : Int)
def k_ref1_operand (p : El T_api_Prog) (o : El T_api_Opd) : Bool :=
  bif (! (v_ref1_Memory o)) then
    true
  else bif (decide (o.2.2.1 ≥ (Int.ofNat (List.length p.1)))) then
    true
  else bif (o.1 == (3 : Int)) then
    bif ((decide ((0 : Int) ≤ o.2.2.1)) && (decide (o.2.2.1 < (Int.ofNat (List.length p.1))))) then
      bif (decide (o.2.2.2 ≥ (List.getD p.1 (Int.toNat o.2.2.1) (dflt T_api_Sym)).2.1)) then
        true
      else true
    else false
  else true
theorem g_ref1_operand (p : El T_api_Prog) (o : El T_api_Opd) (hk : k_ref1_operand p o = true) : Goes (T_ref1_operand p o) (T0_ref1_operand p o) (v_ref1_operand p o) :=
  Goes.brk hk (fun hk =>
    Goes.leaf) (fun hk =>
    Goes.brk hk (fun hk =>
      Goes.leaf) (fun hk =>
      Goes.brk hk (fun hk =>
        Goes.brk hk (fun hk =>
          Goes.brk hk (fun hk =>
            Goes.leaf) (fun hk =>
            Goes.leaf)) (fun hk =>
          Goes.nok hk)) (fun hk =>
        Goes.leaf)))
def R_ref1_operand : Int → AV := fun (r : Int) => .d (.int .i64) r
def S_ref1_operand (p : El T_api_Prog) (o : El T_api_Opd) : Empty → Nat × St := fun j => nomatch j
theorem en_ref1_operand (p : El T_api_Prog) (o : El T_api_Opd) (L : Lt) : entryA Go.Proofs.Tryd.prog (clOf t_ref1_operand) tb_ref1_operand Go.Proofs.Tryd.f87 c_ref1_operand L (toForms sg_ref1_operand (p, o, ())) = (T0_ref1_operand p o).run (fun v => some (R_ref1_operand v, tps (toForms sg_ref1_operand (p, o, ())))) fun j => L (S_ref1_operand p o j).1 (S_ref1_operand p o j).2 := by kernel_rfl
theorem lp_ref1_operand (p : El T_api_Prog) (o : El T_api_Opd) : ∀ (L : Lt) (j : Empty), procOf (procsF Go.Proofs.Tryd.prog (clOf t_ref1_operand) tb_ref1_operand Go.Proofs.Tryd.f87 c_ref1_operand (toForms sg_ref1_operand (p, o, ()))) (S_ref1_operand p o j).1 L (S_ref1_operand p o j).2 = (T_ref1_operand p o j).run (fun v => some (R_ref1_operand v, tps (toForms sg_ref1_operand (p, o, ())))) fun j => L (S_ref1_operand p o j).1 (S_ref1_operand p o j).2 := fun L j => nomatch j
noncomputable def e_ref1_operand : Run := entG sg_ref1_operand R_ref1_operand (fun a => k_ref1_operand a.1 a.2.1) (fun a => v_ref1_operand a.1 a.2.1)
theorem ok_ref1_operand : EntOK Go.Proofs.Tryd.prog 87 e_ref1_operand := entG_ok (tb := tb_ref1_operand) (c := c_ref1_operand) tk_ref1_operand (by kernel_rfl) (by kernel_rfl) (by kernel_rfl) (fun a => by kernel_rfl) fun ⟨p, o, _⟩ hk => evF_goes (c := c_ref1_operand) (K := fun v => (R_ref1_operand v, tps (toForms sg_ref1_operand (p, o, ())))) (S := S_ref1_operand p o) (by kernel_rfl) (en_ref1_operand p o) (lp_ref1_operand p o) (g_ref1_operand p o hk)
end Go.Ev
end

section
set_option linter.unusedSectionVars false
set_option linter.unusedVariables false
set_option linter.unusedSimpArgs false
set_option maxRecDepth 100000
set_option linter.unusedVariables false
open Go Go.Ev
namespace Go.Ev
/-! ### paling/palingref1.Find -/
def sg_ref1_Find : Sig := [(true, (.sl T_api_Ins)), (false, .str)]
noncomputable def t_ref1_Find : Tbl := [(86, e_ref1_index)]
theorem tk_ref1_Find : ∀ p ∈ t_ref1_Find, EntOK Go.Proofs.Tryd.prog p.1 p.2 := tbl_cons ok_ref1_index (tbl_nil)
noncomputable def c_ref1_Find : Code := Go.Proofs.Tryd.f88.body.getD .skip
def tb_ref1_Find : Tb := [(3, ⟨[1, 2, 5], []⟩)]
inductive J_ref1_Find where
  | l3 (i : Int)
def T_ref1_Find (t : List (El T_api_Ins)) (label : ByteArray) : J_ref1_Find → JT J_ref1_Find (Int)
  | .l3 i =>
    .br (decide (i < (Int.ofNat (List.length t))))
      (.br ((decide ((0 : Int) ≤ i)) && (decide (i < (Int.ofNat (List.length t)))))
        (.br (k_ref1_index (List.getD t (Int.toNat i) (dflt T_api_Ins)).2.2.2.2.2.2 label)
          (.br (decide ((v_ref1_index (List.getD t (Int.toNat i) (dflt T_api_Ins)).2.2.2.2.2.2 label) ≥ (0 : Int)))
            (.leaf i)
          (.jmp (.l3 (IntKind.i64.wrap (i + (1 : Int))))))
        (.no))
      (.no))
    (.leaf (-1 : Int))
def T0_ref1_Find (t : List (El T_api_Ins)) (label : ByteArray) : JT J_ref1_Find (Int) :=
  .jmp (.l3 (0 : Int))
def R_ref1_Find : Int → AV := fun (r : Int) => .d (.int .i64) r
def S_ref1_Find (t : List (El T_api_Ins)) (label : ByteArray) : J_ref1_Find → Nat × St
  | .l3 i => (3, ⟨mkTm 23 [(1, .d .str label), (2, .pt 3 0 0), (5, .d (.int .i64) i)], [(3, 0, .box 40 [.d (.sl T_api_Ins) t] none)]⟩)
theorem en_ref1_Find (t : List (El T_api_Ins)) (label : ByteArray) (L : Lt) : entryA Go.Proofs.Tryd.prog (clOf t_ref1_Find) tb_ref1_Find Go.Proofs.Tryd.f88 c_ref1_Find L (toForms sg_ref1_Find (t, label, ())) = (T0_ref1_Find t label).run (fun v => some (R_ref1_Find v, tps (toForms sg_ref1_Find (t, label, ())))) fun j => L (S_ref1_Find t label j).1 (S_ref1_Find t label j).2 := by kernel_rfl
theorem lp_ref1_Find (t : List (El T_api_Ins)) (label : ByteArray) : ∀ (L : Lt) (j : J_ref1_Find), procOf (procsF Go.Proofs.Tryd.prog (clOf t_ref1_Find) tb_ref1_Find Go.Proofs.Tryd.f88 c_ref1_Find (toForms sg_ref1_Find (t, label, ()))) (S_ref1_Find t label j).1 L (S_ref1_Find t label j).2 = (T_ref1_Find t label j).run (fun v => some (R_ref1_Find v, tps (toForms sg_ref1_Find (t, label, ())))) fun j => L (S_ref1_Find t label j).1 (S_ref1_Find t label j).2
  | L, .l3 i => by kernel_rfl
end Go.Ev
end

section
set_option linter.unusedSectionVars false
set_option linter.unusedVariables false
set_option linter.unusedSimpArgs false
set_option linter.unusedVariables false
set_option linter.unusedSimpArgs false
open Go
namespace Go.Ev
def v_ref1_Find (t : List (El T_api_Ins)) (label : ByteArray) : Int := findI label t 0
def k_ref1_Find (t : List (El T_api_Ins)) (label : ByteArray) : Bool := decide (t.length < 1099511627776) && t.all fun i => decide (i.2.2.2.2.2.2.length < 1099511627776)
theorem g_ref1_Find (t : List (El T_api_Ins)) (label : ByteArray) (hk : k_ref1_Find t label = true) : Goes (T_ref1_Find t label) (T0_ref1_Find t label) (v_ref1_Find t label) := by
  unfold k_ref1_Find at hk
  simp only [Bool.and_eq_true, decide_eq_true_eq, List.all_eq_true] at hk
  obtain ⟨hn, hl⟩ := hk
  have loop : ∀ k, k ≤ t.length → Goes (T_ref1_Find t label) (.jmp (.l3 (k : Int))) (findI label (t.drop k) k) := by
    refine down ?_ fun k hk ih => ?_
    · rw [goes_jmp]
      simp only [T_ref1_Find, goes_br, lt_len_not (Nat.lt_irrefl _), goes_leaf, List.drop_length]
      simp [findI]
    · have hli := hl t[k] (List.getElem_mem hk)
      have hki : k_ref1_index t[k].2.2.2.2.2.2 label = true := decide_eq_true (by omega)
      rw [goes_jmp]
      simp only [T_ref1_Find, goes_br, lt_len hk, nng, Bool.and_self, if_true, Int.toNat_natCast, getD_lt hk, wrap_succ (k := k) (by omega), hki]
      rw [drop_cons hk]
      unfold findI
      have hi : decide (v_ref1_index t[k].2.2.2.2.2.2 label ≥ 0) = t[k].2.2.2.2.2.2.contains label := by
        rw [← findFrom_contains (k := 0)]
        unfold v_ref1_index
        cases h : findFrom label t[k].2.2.2.2.2.2 0 with
        | none => rfl
        | some n => simp
      rw [hi]
      split
      · exact .leaf
      · exact ih
  unfold T0_ref1_Find v_ref1_Find
  simpa using loop 0 (Nat.zero_le _)
end Go.Ev
end

section
set_option linter.unusedSectionVars false
set_option linter.unusedVariables false
set_option linter.unusedSimpArgs false
set_option maxRecDepth 100000
set_option linter.unusedVariables false
open Go Go.Ev
namespace Go.Ev
noncomputable def e_ref1_Find : Run := entG sg_ref1_Find R_ref1_Find (fun a => k_ref1_Find a.1 a.2.1) (fun a => v_ref1_Find a.1 a.2.1)
theorem ok_ref1_Find : EntOK Go.Proofs.Tryd.prog 88 e_ref1_Find := entG_ok (tb := tb_ref1_Find) (c := c_ref1_Find) tk_ref1_Find (by kernel_rfl) (by kernel_rfl) (by kernel_rfl) (fun a => by kernel_rfl) fun ⟨t, label, _⟩ hk => evF_goes (c := c_ref1_Find) (K := fun v => (R_ref1_Find v, tps (toForms sg_ref1_Find (t, label, ())))) (S := S_ref1_Find t label) (by kernel_rfl) (en_ref1_Find t label) (lp_ref1_Find t label) (g_ref1_Find t label hk)
end Go.Ev
end

section
set_option linter.unusedSectionVars false
set_option linter.unusedVariables false
set_option linter.unusedSimpArgs false
set_option maxRecDepth 100000
set_option linter.unusedVariables false
open Go Go.Ev
namespace Go.Ev
/-! ### paling/palingref1.thread -/
def sg_ref1_thread : Sig := [(true, T_api_Prog), (true, (.sl T_api_Ins))]
noncomputable def t_ref1_thread : Tbl := [(85, e_ref1_Count), (60, e_ref1_Right), (86, e_ref1_index), (45, e_ref1_InsRight), (87, e_ref1_operand), (66, e_ref1_Jumps), (88, e_ref1_Find)]
theorem tk_ref1_thread : ∀ p ∈ t_ref1_thread, EntOK Go.Proofs.Tryd.prog p.1 p.2 := tbl_cons ok_ref1_Count (tbl_cons ok_ref1_Right (tbl_cons ok_ref1_index (tbl_cons ok_ref1_InsRight (tbl_cons ok_ref1_operand (tbl_cons ok_ref1_Jumps (tbl_cons ok_ref1_Find (tbl_nil)))))))
noncomputable def c_ref1_thread : Code := Go.Proofs.Tryd.f61.body.getD .skip
def tb_ref1_thread : Tb := [(7, ⟨[2, 3, 5, 6, 94, 95, 112, 113, 114, 115, 116, 117, 118, 119, 120], [(6, 90)]⟩), (14, ⟨[2, 3, 5, 6, 7, 8, 94, 95, 112, 113, 114, 115, 116, 117, 118, 119, 120], [(6, 90)]⟩), (44, ⟨[3, 13], []⟩)]
inductive J_ref1_thread where
  | l7 (i : Int) (seen : List ByteArray)
  | l14 (x : Int) (x1 : Bool) (x2 : Int) (x3 : Int) (x4 : Int) (x5 : Int) (x6 : Int) (x7 : Int) (x8 : Int) (x9 : Int) (x10 : Int) (x11 : ByteArray) (x12 : List ByteArray) (k : Int) (seen : List ByteArray) (i : Int)
  | l44 (i : Int)
def T_ref1_thread (p : El T_api_Prog) (t : List (El T_api_Ins)) : J_ref1_thread → JT J_ref1_thread (Int)
  | .l7 i seen =>
    .br (decide (i < (Int.ofNat (List.length t))))
      (.br ((decide ((0 : Int) ≤ i)) && (decide (i < (Int.ofNat (List.length t)))))
        (.jmp (.l14 (List.getD t (Int.toNat i) (dflt T_api_Ins)).1 (List.getD t (Int.toNat i) (dflt T_api_Ins)).2.1 (List.getD t (Int.toNat i) (dflt T_api_Ins)).2.2.1 (List.getD t (Int.toNat i) (dflt T_api_Ins)).2.2.2.1.1 (List.getD t (Int.toNat i) (dflt T_api_Ins)).2.2.2.1.2.1 (List.getD t (Int.toNat i) (dflt T_api_Ins)).2.2.2.1.2.2.1 (List.getD t (Int.toNat i) (dflt T_api_Ins)).2.2.2.1.2.2.2 (List.getD t (Int.toNat i) (dflt T_api_Ins)).2.2.2.2.1.1 (List.getD t (Int.toNat i) (dflt T_api_Ins)).2.2.2.2.1.2.1 (List.getD t (Int.toNat i) (dflt T_api_Ins)).2.2.2.2.1.2.2.1 (List.getD t (Int.toNat i) (dflt T_api_Ins)).2.2.2.2.1.2.2.2 (List.getD t (Int.toNat i) (dflt T_api_Ins)).2.2.2.2.2.1 (List.getD t (Int.toNat i) (dflt T_api_Ins)).2.2.2.2.2.2 (0 : Int) seen i))
      (.no))
    (.br ((Int.ofNat (List.length t)) == (0 : Int))
      (.leaf (9 : Int))
    (.br ((decide ((0 : Int) ≤ (IntKind.i64.wrap ((Int.ofNat (List.length t)) - (1 : Int))))) && (decide ((IntKind.i64.wrap ((Int.ofNat (List.length t)) - (1 : Int))) < (Int.ofNat (List.length t)))))
      (.br ((List.getD t (Int.toNat (IntKind.i64.wrap ((Int.ofNat (List.length t)) - (1 : Int)))) (dflt T_api_Ins)).1 != (10 : Int))
        (.br ((List.getD t (Int.toNat (IntKind.i64.wrap ((Int.ofNat (List.length t)) - (1 : Int)))) (dflt T_api_Ins)).1 != (14 : Int))
          (.leaf (9 : Int))
        (.jmp (.l44 (0 : Int))))
      (.jmp (.l44 (0 : Int))))
    (.no)))
  | .l14 x x1 x2 x3 x4 x5 x6 x7 x8 x9 x10 x11 x12 k seen i =>
    .br (decide (k < (Int.ofNat (List.length x12))))
      (.br ((decide ((0 : Int) ≤ k)) && (decide (k < (Int.ofNat (List.length x12)))))
        (.br (k_ref1_Right (List.getD x12 (Int.toNat k) (dflt .str)))
          (.br (! (v_ref1_Right (List.getD x12 (Int.toNat k) (dflt .str))))
            (.leaf (3 : Int))
          (.br ((decide ((0 : Int) ≤ k)) && (decide (k < (Int.ofNat (List.length x12)))))
            (.br (k_ref1_index seen (List.getD x12 (Int.toNat k) (dflt .str)))
              (.br (decide ((v_ref1_index seen (List.getD x12 (Int.toNat k) (dflt .str))) ≥ (0 : Int)))
                (.leaf (6 : Int))
              (.br ((decide ((0 : Int) ≤ k)) && (decide (k < (Int.ofNat (List.length x12)))))
                (.br (Nat.ble (((List.length seen) + 1) * 16) limit)
                  (.jmp (.l14 x x1 x2 x3 x4 x5 x6 x7 x8 x9 x10 x11 x12 (IntKind.i64.wrap (k + (1 : Int))) (seen ++ [(List.getD x12 (Int.toNat k) (dflt .str))]) i))
                (.no))
              (.no)))
            (.no))
          (.no)))
        (.no))
      (.no))
    (.br (k_ref1_InsRight (x, (x1, (x2, ((x3, (x4, (x5, x6))), ((x7, (x8, (x9, x10))), (x11, x12)))))))
      (.br ((v_ref1_InsRight (x, (x1, (x2, ((x3, (x4, (x5, x6))), ((x7, (x8, (x9, x10))), (x11, x12))))))) != (0 : Int))
        (.leaf (v_ref1_InsRight (x, (x1, (x2, ((x3, (x4, (x5, x6))), ((x7, (x8, (x9, x10))), (x11, x12))))))))
      (.br (k_ref1_operand p (x3, (x4, (x5, x6))))
        (.br ((v_ref1_operand p (x3, (x4, (x5, x6)))) != (0 : Int))
          (.leaf (v_ref1_operand p (x3, (x4, (x5, x6)))))
        (.br (k_ref1_operand p (x7, (x8, (x9, x10))))
          (.br ((v_ref1_operand p (x7, (x8, (x9, x10)))) != (0 : Int))
            (.leaf (v_ref1_operand p (x7, (x8, (x9, x10)))))
          (.jmp (.l7 (IntKind.i64.wrap (i + (1 : Int))) seen)))
        (.no)))
      (.no)))
    (.no))
  | .l44 i =>
    .br (decide (i < (Int.ofNat (List.length t))))
      (.br ((decide ((0 : Int) ≤ i)) && (decide (i < (Int.ofNat (List.length t)))))
        (.br (v_ref1_Jumps (List.getD t (Int.toNat i) (dflt T_api_Ins)).1)
          (.br ((decide ((0 : Int) ≤ i)) && (decide (i < (Int.ofNat (List.length t)))))
            (.br (k_ref1_Find t (List.getD t (Int.toNat i) (dflt T_api_Ins)).2.2.2.2.2.1)
              (.br (decide ((v_ref1_Find t (List.getD t (Int.toNat i) (dflt T_api_Ins)).2.2.2.2.2.1) < (0 : Int)))
                (.leaf (7 : Int))
              (.jmp (.l44 (IntKind.i64.wrap (i + (1 : Int))))))
            (.no))
          (.no))
        (.jmp (.l44 (IntKind.i64.wrap (i + (1 : Int))))))
      (.no))
    (.leaf (0 : Int))
def T0_ref1_thread (p : El T_api_Prog) (t : List (El T_api_Ins)) : JT J_ref1_thread (Int) :=
  .br (k_ref1_Count t)
    (.br (decide ((v_ref1_Count t) > (4096 : Int)))
      (.leaf (10 : Int))
    (.jmp (.l7 (0 : Int) [])))
  (.no)
def R_ref1_thread : Int → AV := fun (r : Int) => .d (.int .i64) r
def S_ref1_thread (p : El T_api_Prog) (t : List (El T_api_Ins)) : J_ref1_thread → Nat × St
  | .l7 i seen => (7, ⟨mkTm 122 [(2, .pt 3 0 0), (3, .pt 4 0 0), (5, .own 6 0 none), (6, .d (.int .i64) i)], [(3, 0, .box 25 [.d (.sl T_api_Sym) p.1, .d (.sl (.sl T_api_Ins)) p.2] none), (4, 0, .box 40 [.d (.sl T_api_Ins) t] none), (6, 0, .row 9 .str seen false)]⟩)
  | .l14 x x1 x2 x3 x4 x5 x6 x7 x8 x9 x10 x11 x12 k seen i => (14, ⟨mkTm 122 [(2, .pt 3 0 0), (3, .pt 4 0 0), (5, .own 6 0 none), (6, .d (.int .i64) i), (7, .pt 8 0 0), (8, .d (.int .i64) k)], [(3, 0, .box 25 [.d (.sl T_api_Sym) p.1, .d (.sl (.sl T_api_Ins)) p.2] none), (4, 0, .box 40 [.d (.sl T_api_Ins) t] none), (6, 0, .row 9 .str seen false), (8, 0, .box 47 [.d (.int .i64) x, .d .bool x1, .d (.int .i64) x2, .d (.int .i64) x3, .d (.int .i64) x4, .d (.int .i64) x5, .d (.int .i64) x6, .d (.int .i64) x7, .d (.int .i64) x8, .d (.int .i64) x9, .d (.int .i64) x10, .d .str x11, .d (.sl .str) x12] none)]⟩)
  | .l44 i => (44, ⟨mkTm 122 [(3, .pt 4 0 0), (13, .d (.int .i64) i)], [(4, 0, .box 40 [.d (.sl T_api_Ins) t] none)]⟩)
theorem en_ref1_thread (p : El T_api_Prog) (t : List (El T_api_Ins)) (L : Lt) : entryA Go.Proofs.Tryd.prog (clOf t_ref1_thread) tb_ref1_thread Go.Proofs.Tryd.f61 c_ref1_thread L (toForms sg_ref1_thread (p, t, ())) = (T0_ref1_thread p t).run (fun v => some (R_ref1_thread v, tps (toForms sg_ref1_thread (p, t, ())))) fun j => L (S_ref1_thread p t j).1 (S_ref1_thread p t j).2 := by kernel_rfl
theorem lp_ref1_thread (p : El T_api_Prog) (t : List (El T_api_Ins)) : ∀ (L : Lt) (j : J_ref1_thread), procOf (procsF Go.Proofs.Tryd.prog (clOf t_ref1_thread) tb_ref1_thread Go.Proofs.Tryd.f61 c_ref1_thread (toForms sg_ref1_thread (p, t, ()))) (S_ref1_thread p t j).1 L (S_ref1_thread p t j).2 = (T_ref1_thread p t j).run (fun v => some (R_ref1_thread v, tps (toForms sg_ref1_thread (p, t, ())))) fun j => L (S_ref1_thread p t j).1 (S_ref1_thread p t j).2
  | L, .l7 i seen => by kernel_rfl
  | L, .l14 x x1 x2 x3 x4 x5 x6 x7 x8 x9 x10 x11 x12 k seen i => by kernel_rfl
  | L, .l44 i => by kernel_rfl
end Go.Ev
end

section
set_option linter.unusedSectionVars false
set_option linter.unusedVariables false
set_option linter.unusedSimpArgs false
set_option linter.unusedVariables false
set_option linter.unusedSimpArgs false
open Go
namespace Go.Ev
def v_ref1_thread (p : El T_api_Prog) (t : List (El T_api_Ins)) : Int := threadC p t
def k_ref1_thread (p : El T_api_Prog) (t : List (El T_api_Ins)) : Bool := smallThread t
theorem operand_eq' (len : Nat) (size : Int → Int) (k s n : Int) (h : (k = 3 ∨ k = 4) → 0 ≤ s) :
  (bif (! (decide (k = 3) || decide (k = 4))) then
    (0 : Int)
  else bif (decide (s ≥ (Int.ofNat len))) then
    (7 : Int)
  else bif (k == (3 : Int)) then
    bif ((decide ((0 : Int) ≤ s)) && (decide (s < (Int.ofNat len)))) then
      bif (decide (n ≥ size s)) then
        (8 : Int)
      else (0 : Int)
    else (0 : Int)
  else (0 : Int)) = placeN len size k s n ∧
  (bif (! (decide (k = 3) || decide (k = 4))) then
    true
  else bif (decide (s ≥ (Int.ofNat len))) then
    true
  else bif (k == (3 : Int)) then
    bif ((decide ((0 : Int) ≤ s)) && (decide (s < (Int.ofNat len)))) then
      bif (decide (n ≥ size s)) then
        true
      else true
    else false
  else true) = true := by
  unfold placeN
  by_cases h3 : k = 3
  · have h0 := h (.inl h3)
    subst h3
    by_cases hl : (len : Int) ≤ s
    · simp [hl]
    have h2 : s < (len : Int) := by omega
    have h1 : ¬ s < 0 := by omega
    by_cases hn : size s ≤ n
    · simp [hl, hn, h0, h1, h2]
    · simp [hl, hn, h0, h1, h2]
  by_cases h4 : k = 4
  · have h0 := h (.inr h4)
    subst h4
    have h1 : ¬ s < 0 := by omega
    by_cases hl : (len : Int) ≤ s
    · simp [hl]
    simp [hl, h1]
  simp [h3, h4]
theorem operand_eq (p : El T_api_Prog) (o : El T_api_Opd) (h : ∀ k s : Int, o.1 = k → o.2.2.1 = s → (k = 3 ∨ k = 4) → 0 ≤ s) : v_ref1_operand p o = placeC p o ∧ k_ref1_operand p o = true := by
  have := operand_eq' p.1.length (fun s => (List.getD p.1 s.toNat (dflt T_api_Sym)).2.1) o.1 o.2.2.1 o.2.2.2 (h _ _ rfl rfl)
  unfold v_ref1_operand k_ref1_operand
  rw [refMemory_eq]
  exact this
theorem right_sym' {k r s n : Int} (h : v_opnd_Right (k, r, s, n) = true) (hk : k = 3 ∨ k = 4) : 0 ≤ s := by
  unfold v_opnd_Right at h
  rcases hk with rfl | rfl
  · by_cases hs : 0 ≤ s
    · exact hs
    · simp [hs] at h
  · by_cases hs : 0 ≤ s
    · exact hs
    · simp [hs] at h
theorem opds_ok {i : El T_api_Ins} (hr : v_ins_Right i = 0) : (∀ k s : Int, i.2.2.2.1.1 = k → i.2.2.2.1.2.2.1 = s → (k = 3 ∨ k = 4) → 0 ≤ s) ∧ ∀ k s : Int, i.2.2.2.2.1.1 = k → i.2.2.2.2.1.2.2.1 = s → (k = 3 ∨ k = 4) → 0 ≤ s := by
  obtain ⟨h1, h14, hrow⟩ := right0_row hr
  rcases nine i.1 with ⟨h9, _⟩ | ⟨h9, _⟩
  · obtain ⟨a, b⟩ := row_low hrow h1 h9
    exact ⟨fun k s hk hs h => hs ▸ right_sym' (k := i.2.2.2.1.1) (r := i.2.2.2.1.2.1) (s := i.2.2.2.1.2.2.1) (n := i.2.2.2.1.2.2.2) a (hk ▸ h), fun k s hk hs h => hs ▸ right_sym' (k := i.2.2.2.2.1.1) (r := i.2.2.2.2.1.2.1) (s := i.2.2.2.2.1.2.2.1) (n := i.2.2.2.2.1.2.2.2) b (hk ▸ h)⟩
  · obtain ⟨a, b⟩ := row_high hrow h9
    refine ⟨fun k s hk hs h => ?_, fun k s hk hs h => ?_⟩
    · have : k = 0 := hk ▸ a
      omega
    · have : k = 0 := hk ▸ b
      omega
theorem g_ref1_thread (p : El T_api_Prog) (t : List (El T_api_Ins)) (hk : k_ref1_thread p t = true) : Goes (T_ref1_thread p t) (T0_ref1_thread p t) (v_ref1_thread p t) := by
  have hS := smallT hk
  have hn := hS.len
  have hkf : ∀ l, k_ref1_Find t l = true := fun l => by
    unfold k_ref1_Find
    simp only [Bool.and_eq_true, decide_eq_true_eq, List.all_eq_true]
    exact ⟨hn, fun i hi => Nat.lt_of_le_of_lt (labels_mem hi) hS.labs⟩
  have jmps : ∀ k, k ≤ t.length → Goes (T_ref1_thread p t) (.jmp (.l44 (k : Int))) (jumpC (labels t) (t.drop k)) := by
    refine down ?_ fun k hk ih => ?_
    · rw [goes_jmp]
      simp only [T_ref1_thread, goes_br, lt_len_not (Nat.lt_irrefl _), goes_leaf, List.drop_length]
      simp [jumpC]
    · rw [goes_jmp]
      simp only [T_ref1_thread, goes_br, lt_len hk, nng, Bool.and_self, if_true, Int.toNat_natCast, getD_lt hk, wrap_succ (k := k) (by omega), hkf, jumps_eq]
      have hfi : decide (v_ref1_Find t t[k].2.2.2.2.2.1 < 0) = ! (labels t).contains t[k].2.2.2.2.2.1 := findI_neg
      rw [hfi, drop_cons hk]
      unfold jumpC
      by_cases h1 : ((t[k].1 == (10 : Int)) || (t[k].1 == (11 : Int))) = true
      · rw [if_pos h1, if_pos h1]
        by_cases h2 : (labels t).contains t[k].2.2.2.2.2.1 = true
        · rw [if_pos h2, if_neg (by rw [h2]; decide)]; exact ih
        · rw [if_neg h2, if_pos (by rw [Bool.eq_false_iff.2 h2]; rfl)]; exact .leaf
      · rw [if_neg h1, if_neg h1]; exact ih
  have main : ∀ k, k ≤ t.length → Goes (T_ref1_thread p t) (.jmp (.l7 (k : Int) (labels (t.take k)))) (scanI p (fun seen => endC t (jumpC seen t)) (labels (t.take k)) (t.drop k)) := by
    refine down ?_ fun k hk ih => ?_
    · have hj := jmps 0 (Nat.zero_le _)
      rw [List.drop_zero] at hj
      rw [goes_jmp, List.drop_length, List.take_length]
      unfold scanI
      simp only [T_ref1_thread, goes_br, lt_len_not (Nat.lt_irrefl _)]
      rw [if_neg (by decide)]
      by_cases h0 : t.length = 0
      · have : t = [] := List.eq_nil_of_length_eq_zero h0
        rw [this]; simp [goes_leaf, endC]
      · have hp : 0 < t.length := by omega
        rw [if_neg (by simp; exact fun e => h0 (by rw [e]; rfl)), endC_eq hp]
        rw [show Int.ofNat t.length = (t.length : Int) from rfl, wrap_pred (k := t.length) (by omega) hp]
        have hb : (decide (0 ≤ ((t.length - 1 : Nat) : Int)) && decide (((t.length - 1 : Nat) : Int) < (t.length : Int))) = true := by simp; omega
        simp only [hb, if_true, Int.toNat_natCast, getD_lt (show t.length - 1 < t.length by omega)]
        unfold bne
        cases h10 : (t[t.length - 1].1 == (10 : Int)) with
        | true => simpa using hj
        | false =>
          cases h14 : (t[t.length - 1].1 == (14 : Int)) with
          | true => simpa using hj
          | false => simp [goes_leaf]
    · have hmem : t[k] ∈ t := List.getElem_mem hk
      have hto := hS.to _ hmem
      have hlab := hS.lab _ hmem
      have hlen := Nat.lt_of_le_of_lt (labels_mem hmem) hS.labs
      have htk : labels (t.take (k + 1)) = labels (t.take k) ++ t[k].2.2.2.2.2.2 := by
        unfold labels
        rw [List.take_add_one, List.getElem?_eq_getElem hk, List.flatMap_append]
        simp
      have hall : labels t = labels (t.take (k + 1)) ++ labels (t.drop (k + 1)) := by
        unfold labels
        rw [← List.flatMap_append, List.take_append_drop]
      have hlt : (labels (t.take (k + 1))).length < 1099511627776 := by
        have := hS.labs
        rw [hall, List.length_append] at this
        omega
      rw [goes_jmp]
      simp only [T_ref1_thread, goes_br, lt_len hk, nng, Bool.and_self, if_true, Int.toNat_natCast, getD_lt hk]
      rw [drop_cons hk]
      unfold scanI
      rw [htk] at ih hlt
      generalize t[k] = i at hto hlab hlen htk ih hlt
      obtain ⟨op, lock, cond, ⟨ak, ar, ay, an⟩, ⟨bk, br, bz, bn⟩, to, ls⟩ := i
      dsimp only at hto hlab hlen htk ih hlt ⊢
      have inner : ∀ j, j ≤ ls.length → Goes (T_ref1_thread p t) (.jmp (.l14 op lock cond ak ar ay an bk br bz bn to ls (j : Int) (labels (t.take k) ++ ls.take j) (k : Int))) (scanL (labels (t.take k) ++ ls.take j) (fun seen => if insC p (op, (lock, (cond, ((ak, (ar, (ay, an))), ((bk, (br, (bz, bn))), (to, ls)))))) ≠ 0 then insC p (op, (lock, (cond, ((ak, (ar, (ay, an))), ((bk, (br, (bz, bn))), (to, ls)))))) else scanI p (fun seen => endC t (jumpC seen t)) seen (t.drop (k + 1))) (ls.drop j)) := by
        refine down ?_ fun j hj ihj => ?_
        · rw [goes_jmp, List.drop_length, List.take_length]
          unfold scanL
          have hkr : k_ref1_InsRight (op, (lock, (cond, ((ak, (ar, (ay, an))), ((bk, (br, (bz, bn))), (to, ls)))))) = true := hto
          simp only [T_ref1_thread, goes_br, lt_len_not (Nat.lt_irrefl _), hkr, if_true, wrap_succ (k := k) (by omega)]
          rw [if_neg (by decide)]
          unfold insC v_ref1_InsRight
          dsimp only
          by_cases hr : v_ins_Right (op, (lock, (cond, ((ak, (ar, (ay, an))), ((bk, (br, (bz, bn))), (to, ls)))))) = 0
          · obtain ⟨oa, ob⟩ := opds_ok hr
            obtain ⟨a1, a2⟩ := operand_eq p (ak, (ar, (ay, an))) oa
            obtain ⟨b1, b2⟩ := operand_eq p (bk, (br, (bz, bn))) ob
            by_cases ha : placeC p (ak, (ar, (ay, an))) = 0
            · by_cases hb : placeC p (bk, (br, (bz, bn))) = 0
              · simp [hr, ha, hb, a1, a2, b1, b2]; exact ih
              · simp [hr, ha, hb, a1, a2, b1, b2, goes_leaf]
            · simp [hr, ha, a1, a2, goes_leaf]
          · simp [hr, goes_leaf]
        · have hl := hlab ls[j] (List.getElem_mem hj)
          have hkn : k_ref1_Right ls[j] = true := hl
          have hsl : (labels (t.take k) ++ ls.take j).length < 1099511627776 := by
            rw [List.length_append] at hlt ⊢
            rw [List.length_take]
            omega
          have hki : k_ref1_index (labels (t.take k) ++ ls.take j) ls[j] = true := decide_eq_true (by omega)
          have hap : Nat.ble (((labels (t.take k) ++ ls.take j).length + 1) * 16) limit = true := by apply Nat.ble_eq_true_of_le; unfold limit; omega
          have htj : labels (t.take k) ++ ls.take (j + 1) = (labels (t.take k) ++ ls.take j) ++ [ls[j]] := by
            rw [List.take_add_one, List.getElem?_eq_getElem hj, List.append_assoc]; rfl
          rw [htj] at ihj
          rw [goes_jmp]
          simp only [T_ref1_thread, goes_br, lt_len hj, nng, Bool.and_self, if_true, Int.toNat_natCast, getD_lt hj, wrap_succ (k := j) (by omega), hkn, hki, hap, index_contains]
          rw [drop_cons hj]
          unfold scanL
          by_cases h1 : nameRight ls[j] = false
          · rw [if_pos h1, if_pos (by show (! nameRight ls[j]) = true; rw [h1]; rfl)]; exact .leaf
          · rw [if_neg h1, if_neg (by show ¬ (! nameRight ls[j]) = true; simpa using h1)]
            by_cases h2 : (labels (t.take k) ++ ls.take j).contains ls[j] = true
            · rw [if_pos h2, if_pos h2]; exact .leaf
            · rw [if_neg h2, if_neg h2]; exact ihj
      have := inner 0 (Nat.zero_le _)
      rw [List.drop_zero, List.take_zero, List.append_nil] at this
      exact this
  unfold T0_ref1_thread v_ref1_thread
  have hkc : k_ref1_Count t = true := decide_eq_true hn
  simp only [goes_br, hkc, if_true]
  unfold threadC v_ref1_Count
  by_cases h : 4096 < countM t
  · rw [if_pos (by simp; omega), if_pos h]; exact .leaf
  · rw [if_neg (by simp; omega), if_neg h]
    exact main 0 (Nat.zero_le _)
end Go.Ev
end

section
set_option linter.unusedSectionVars false
set_option linter.unusedVariables false
set_option linter.unusedSimpArgs false
set_option maxRecDepth 100000
set_option linter.unusedVariables false
open Go Go.Ev
namespace Go.Ev
noncomputable def e_ref1_thread : Run := entG sg_ref1_thread R_ref1_thread (fun a => k_ref1_thread a.1 a.2.1) (fun a => v_ref1_thread a.1 a.2.1)
theorem ok_ref1_thread : EntOK Go.Proofs.Tryd.prog 61 e_ref1_thread := entG_ok (tb := tb_ref1_thread) (c := c_ref1_thread) tk_ref1_thread (by kernel_rfl) (by kernel_rfl) (by kernel_rfl) (fun a => by kernel_rfl) fun ⟨p, t, _⟩ hk => evF_goes (c := c_ref1_thread) (K := fun v => (R_ref1_thread v, tps (toForms sg_ref1_thread (p, t, ())))) (S := S_ref1_thread p t) (by kernel_rfl) (en_ref1_thread p t) (lp_ref1_thread p t) (g_ref1_thread p t hk)
end Go.Ev
end

section
set_option linter.unusedSectionVars false
set_option linter.unusedVariables false
set_option linter.unusedSimpArgs false
set_option maxRecDepth 100000
set_option linter.unusedVariables false
open Go Go.Ev
namespace Go.Ev
/-! ### paling/palingref1.Check -/
def sg_ref1_Check : Sig := [(true, T_api_Prog)]
noncomputable def t_ref1_Check : Tbl := [(60, e_ref1_Right), (61, e_ref1_thread)]
theorem tk_ref1_Check : ∀ p ∈ t_ref1_Check, EntOK Go.Proofs.Tryd.prog p.1 p.2 := tbl_cons ok_ref1_Right (tbl_cons ok_ref1_thread (tbl_nil))
noncomputable def c_ref1_Check : Code := Go.Proofs.Tryd.f40.body.getD .skip
def tb_ref1_Check : Tb := [(6, ⟨[1, 3], []⟩), (16, ⟨[1, 3, 4, 5, 52, 53, 54, 57, 58, 59, 60, 61, 62], []⟩), (26, ⟨[1, 6], []⟩)]
inductive J_ref1_Check where
  | l6 (i : Int)
  | l16 (x : ByteArray) (x1 : Int) (x2 : List Int) (i : Int) (k : Int)
  | l26 (i : Int)
def T_ref1_Check (p : El T_api_Prog) : J_ref1_Check → JT J_ref1_Check (Int)
  | .l6 i =>
    .br (decide (i < (Int.ofNat (List.length p.1))))
      (.br ((decide ((0 : Int) ≤ i)) && (decide (i < (Int.ofNat (List.length p.1)))))
        (.br (k_ref1_Right (List.getD p.1 (Int.toNat i) (dflt T_api_Sym)).1)
          (.br (! (v_ref1_Right (List.getD p.1 (Int.toNat i) (dflt T_api_Sym)).1))
            (.leaf (3 : Int))
          (.jmp (.l16 (List.getD p.1 (Int.toNat i) (dflt T_api_Sym)).1 (List.getD p.1 (Int.toNat i) (dflt T_api_Sym)).2.1 (List.getD p.1 (Int.toNat i) (dflt T_api_Sym)).2.2 i (0 : Int))))
        (.no))
      (.no))
    (.jmp (.l26 (0 : Int)))
  | .l16 x x1 x2 i k =>
    .br (decide (k < i))
      (.br ((decide ((0 : Int) ≤ k)) && (decide (k < (Int.ofNat (List.length p.1)))))
        (.br (eqB (List.getD p.1 (Int.toNat k) (dflt T_api_Sym)).1 x)
          (.leaf (6 : Int))
        (.jmp (.l16 x x1 x2 i (IntKind.i64.wrap (k + (1 : Int))))))
      (.no))
    (.br (decide (x1 < (1 : Int)))
      (.leaf (5 : Int))
    (.br (decide (x1 > (64 : Int)))
      (.leaf (5 : Int))
    (.br (decide ((Int.ofNat (List.length x2)) > x1))
      (.leaf (5 : Int))
    (.jmp (.l6 (IntKind.i64.wrap (i + (1 : Int))))))))
  | .l26 i =>
    .br (decide (i < (Int.ofNat (List.length p.2))))
      (.br ((decide ((0 : Int) ≤ i)) && (decide (i < (Int.ofNat (List.length p.2)))))
        (.br (k_ref1_thread p (List.getD p.2 (Int.toNat i) (dflt (.sl (.pr (.int .i64) (.pr .bool (.pr (.int .i64) (.pr (.pr (.int .i64) (.pr (.int .i64) (.pr (.int .i64) (.int .i64)))) (.pr (.pr (.int .i64) (.pr (.int .i64) (.pr (.int .i64) (.int .i64)))) (.pr .str (.sl .str)))))))))))
          (.br ((v_ref1_thread p (List.getD p.2 (Int.toNat i) (dflt (.sl (.pr (.int .i64) (.pr .bool (.pr (.int .i64) (.pr (.pr (.int .i64) (.pr (.int .i64) (.pr (.int .i64) (.int .i64)))) (.pr (.pr (.int .i64) (.pr (.int .i64) (.pr (.int .i64) (.int .i64)))) (.pr .str (.sl .str))))))))))) != (0 : Int))
            (.leaf (v_ref1_thread p (List.getD p.2 (Int.toNat i) (dflt (.sl (.pr (.int .i64) (.pr .bool (.pr (.int .i64) (.pr (.pr (.int .i64) (.pr (.int .i64) (.pr (.int .i64) (.int .i64)))) (.pr (.pr (.int .i64) (.pr (.int .i64) (.pr (.int .i64) (.int .i64)))) (.pr .str (.sl .str))))))))))))
          (.jmp (.l26 (IntKind.i64.wrap (i + (1 : Int))))))
        (.no))
      (.no))
    (.leaf (0 : Int))
def T0_ref1_Check (p : El T_api_Prog) : JT J_ref1_Check (Int) :=
  .br (decide ((Int.ofNat (List.length p.1)) > (64 : Int)))
    (.leaf (10 : Int))
  (.br (decide ((Int.ofNat (List.length p.2)) > (64 : Int)))
    (.leaf (10 : Int))
  (.jmp (.l6 (0 : Int))))
def R_ref1_Check : Int → AV := fun (r : Int) => .d (.int .i64) r
def S_ref1_Check (p : El T_api_Prog) : J_ref1_Check → Nat × St
  | .l6 i => (6, ⟨mkTm 81 [(1, .pt 2 0 0), (3, .d (.int .i64) i)], [(2, 0, .box 25 [.d (.sl T_api_Sym) p.1, .d (.sl (.sl T_api_Ins)) p.2] none)]⟩)
  | .l16 x x1 x2 i k => (16, ⟨mkTm 81 [(1, .pt 2 0 0), (3, .d (.int .i64) i), (4, .pt 5 0 0), (5, .d (.int .i64) k)], [(2, 0, .box 25 [.d (.sl T_api_Sym) p.1, .d (.sl (.sl T_api_Ins)) p.2] none), (5, 0, .box 59 [.d .str x, .d (.int .i64) x1, .d (.sl (.int .i64)) x2] none)]⟩)
  | .l26 i => (26, ⟨mkTm 81 [(1, .pt 2 0 0), (6, .d (.int .i64) i)], [(2, 0, .box 25 [.d (.sl T_api_Sym) p.1, .d (.sl (.sl T_api_Ins)) p.2] none)]⟩)
theorem en_ref1_Check (p : El T_api_Prog) (L : Lt) : entryA Go.Proofs.Tryd.prog (clOf t_ref1_Check) tb_ref1_Check Go.Proofs.Tryd.f40 c_ref1_Check L (toForms sg_ref1_Check (p, ())) = (T0_ref1_Check p).run (fun v => some (R_ref1_Check v, tps (toForms sg_ref1_Check (p, ())))) fun j => L (S_ref1_Check p j).1 (S_ref1_Check p j).2 := by kernel_rfl
theorem lp_ref1_Check (p : El T_api_Prog) : ∀ (L : Lt) (j : J_ref1_Check), procOf (procsF Go.Proofs.Tryd.prog (clOf t_ref1_Check) tb_ref1_Check Go.Proofs.Tryd.f40 c_ref1_Check (toForms sg_ref1_Check (p, ()))) (S_ref1_Check p j).1 L (S_ref1_Check p j).2 = (T_ref1_Check p j).run (fun v => some (R_ref1_Check v, tps (toForms sg_ref1_Check (p, ())))) fun j => L (S_ref1_Check p j).1 (S_ref1_Check p j).2
  | L, .l6 i => by kernel_rfl
  | L, .l16 x x1 x2 i k => by kernel_rfl
  | L, .l26 i => by kernel_rfl
end Go.Ev
end

section
set_option linter.unusedSectionVars false
set_option linter.unusedVariables false
set_option linter.unusedSimpArgs false
set_option linter.unusedVariables false
set_option linter.unusedSimpArgs false
open Go
namespace Go.Ev
def v_ref1_Check (p : El T_api_Prog) : Int := checkC p
def k_ref1_Check (p : El T_api_Prog) : Bool := smallProg p
theorem g_ref1_Check (p : El T_api_Prog) (hk : k_ref1_Check p = true) : Goes (T_ref1_Check p) (T0_ref1_Check p) (v_ref1_Check p) := by
  have hth : ∀ t ∈ p.2, smallThread t = true := by
    unfold k_ref1_Check smallProg at hk
    simp only [Bool.and_eq_true, List.all_eq_true] at hk
    exact hk.2
  have hsy : ∀ s ∈ p.1, smallText s.1 = true := by
    unfold k_ref1_Check smallProg at hk
    simp only [Bool.and_eq_true, List.all_eq_true] at hk
    exact hk.1
  obtain ⟨sy, th⟩ := p
  dsimp only at hth hsy
  have ths : th.length ≤ 64 → ∀ k, k ≤ th.length → Goes (T_ref1_Check (sy, th)) (.jmp (.l26 (k : Int))) (thsC (sy, th) (th.drop k)) := by
    intro hn
    refine down ?_ fun k hk ih => ?_
    · rw [goes_jmp]
      simp only [T_ref1_Check, goes_br, lt_len_not (Nat.lt_irrefl _), goes_leaf, List.drop_length]
      simp [thsC]
    · have hkt : k_ref1_thread (sy, th) th[k] = true := hth _ (List.getElem_mem hk)
      rw [goes_jmp]
      simp only [T_ref1_Check, goes_br, lt_len hk, nng, Bool.and_self, if_true, Int.toNat_natCast, getD_lt hk, wrap_succ (k := k) (by omega), hkt]
      rw [drop_cons hk]
      unfold thsC
      show (if (threadC (sy, th) th[k] != 0) = true then _ else _)
      by_cases h : threadC (sy, th) th[k] = 0
      · rw [if_neg (by simp [h]), if_neg (by simp [h])]; exact ih
      · rw [if_pos (by simp [h]), if_pos h]; exact .leaf

  have main : sy.length ≤ 64 → th.length ≤ 64 → ∀ k, k ≤ sy.length → Goes (T_ref1_Check (sy, th)) (.jmp (.l6 (k : Int))) (symsC (thsC (sy, th) th) ((sy.take k).map fun s => s.1) (sy.drop k)) := by
    intro hn hm
    refine down ?_ fun k hk ih => ?_
    · rw [goes_jmp, List.drop_length]
      unfold symsC
      simp only [T_ref1_Check, goes_br, lt_len_not (Nat.lt_irrefl _)]
      rw [if_neg (by decide)]
      simpa using ths hm 0 (Nat.zero_le _)
    · have hkn : k_ref1_Right sy[k].1 = true := hsy _ (List.getElem_mem hk)
      have htk : (sy.take (k + 1)).map (fun s => s.1) = (sy.take k).map (fun s => s.1) ++ [sy[k].1] := by
        rw [List.take_add_one, List.getElem?_eq_getElem hk, List.map_append]; rfl
      rw [htk] at ih
      rw [goes_jmp]
      simp only [T_ref1_Check, goes_br, lt_len hk, nng, Bool.and_self, if_true, Int.toNat_natCast, getD_lt hk, hkn]
      rw [drop_cons hk]
      unfold symsC
      generalize sy[k] = s at ih hkn
      obtain ⟨nm, size, init⟩ := s
      dsimp only at ih hkn ⊢
      change Int at size
      by_cases h1 : nameRight nm = false
      · rw [if_pos h1, if_pos (by show (! nameRight nm) = true; rw [h1]; rfl)]; exact .leaf
      rw [if_neg h1, if_neg (by show ¬ (! nameRight nm) = true; simpa using h1)]
      have inner : ∀ j, j ≤ k → Goes (T_ref1_Check (sy, th)) (.jmp (.l16 nm size init (k : Int) (j : Int))) (if (((sy.take k).drop j).map (fun s => s.1)).contains nm = true then 6 else if size < (1 : Int) ∨ (64 : Int) < size ∨ size < (List.length init : Int) then 5 else symsC (thsC (sy, th) th) ((sy.take k).map (fun s => s.1) ++ [nm]) (sy.drop (k + 1))) := by
        refine down ?_ fun j hj ihj => ?_
        · rw [goes_jmp]
          have : (sy.take k).drop k = [] := List.drop_eq_nil_of_le (by rw [List.length_take]; omega)
          rw [this]
          simp only [T_ref1_Check, goes_br, wrap_succ (k := k) (by omega)]
          rw [if_neg (by simp)]
          simp only [List.map_nil, List.contains_nil, Bool.false_eq_true, if_false]
          by_cases h3 : size < 1
          · rw [if_pos (decide_eq_true h3), if_pos (.inl h3)]; exact .leaf
          rw [if_neg (by simpa using h3)]
          by_cases h4 : 64 < size
          · rw [if_pos (decide_eq_true h4), if_pos (.inr (.inl h4))]; exact .leaf
          rw [if_neg (by simpa using h4)]
          by_cases h5 : size < (List.length init : Int)
          · rw [if_pos (show decide (Int.ofNat (List.length init) > size) = true from decide_eq_true h5), if_pos (.inr (.inr h5))]; exact .leaf
          rw [if_neg (show ¬ decide (Int.ofNat (List.length init) > size) = true by simpa using h5), if_neg (by rintro (h | h | h) <;> contradiction)]
          exact ih
        · have hjs : j < sy.length := by omega
          have hjt : j < (sy.take k).length := by rw [List.length_take]; omega
          rw [goes_jmp, drop_cons hjt, List.map_cons, List.contains_cons, List.getElem_take]
          simp only [T_ref1_Check, goes_br, lt_len hjs, nng, Bool.and_self, if_true, Int.toNat_natCast, getD_lt hjs, wrap_succ (k := j) (by omega), eqB_iff]
          rw [if_pos (by simp; omega)]
          by_cases h2 : sy[j].1 = nm
          · rw [if_pos h2, if_pos (by rw [h2]; simp)]; exact .leaf
          · rw [if_neg h2, beq_false_of_ne (Ne.symm h2), Bool.false_or]; exact ihj
      simpa using inner 0 (Nat.zero_le _)
  unfold T0_ref1_Check v_ref1_Check checkC
  simp only [goes_br]
  by_cases h : 64 < sy.length
  · rw [if_pos (by simp; omega), if_pos (.inl h)]; exact .leaf
  rw [if_neg (by simp; omega)]
  by_cases h2 : 64 < th.length
  · rw [if_pos (by simp; omega), if_pos (.inr h2)]; exact .leaf
  rw [if_neg (by simp; omega), if_neg (by rintro (h | h) <;> contradiction)]
  exact main (by omega) (by omega) 0 (Nat.zero_le _)
end Go.Ev
end

section
set_option linter.unusedSectionVars false
set_option linter.unusedVariables false
set_option linter.unusedSimpArgs false
set_option maxRecDepth 100000
set_option linter.unusedVariables false
open Go Go.Ev
namespace Go.Ev
noncomputable def e_ref1_Check : Run := entG sg_ref1_Check R_ref1_Check (fun a => k_ref1_Check a.1) (fun a => v_ref1_Check a.1)
theorem ok_ref1_Check : EntOK Go.Proofs.Tryd.prog 40 e_ref1_Check := entG_ok (tb := tb_ref1_Check) (c := c_ref1_Check) tk_ref1_Check (by kernel_rfl) (by kernel_rfl) (by kernel_rfl) (fun a => by kernel_rfl) fun ⟨p, _⟩ hk => evF_goes (c := c_ref1_Check) (K := fun v => (R_ref1_Check v, tps (toForms sg_ref1_Check (p, ())))) (S := S_ref1_Check p) (by kernel_rfl) (en_ref1_Check p) (lp_ref1_Check p) (g_ref1_Check p hk)
end Go.Ev
end

section
set_option linter.unusedSectionVars false
set_option linter.unusedVariables false
set_option linter.unusedSimpArgs false
set_option maxRecDepth 100000
set_option linter.unusedVariables false
open Go Go.Ev
namespace Go.Ev
/-! ### paling/palingref2.base -/
def sg_ref2_base : Sig := [(true, T_api_Prog), (false, (.int .i64))]
noncomputable def t_ref2_base : Tbl := []
theorem tk_ref2_base : ∀ p ∈ t_ref2_base, EntOK Go.Proofs.Tryd.prog p.1 p.2 := tbl_nil
noncomputable def c_ref2_base : Code := Go.Proofs.Tryd.f68.body.getD .skip
def tb_ref2_base : Tb := [(4, ⟨[1, 2, 5, 6], []⟩)]
inductive J_ref2_base where
  | l4 (n : Int) (i : Int)
def T_ref2_base (p : El T_api_Prog) (sym : Int) : J_ref2_base → JT J_ref2_base (Int)
  | .l4 n i =>
    .br (decide (i < sym))
      (.br ((decide ((0 : Int) ≤ i)) && (decide (i < (Int.ofNat (List.length p.1)))))
        (.jmp (.l4 (IntKind.i64.wrap (n + (List.getD p.1 (Int.toNat i) (dflt T_api_Sym)).2.1)) (IntKind.i64.wrap (i + (1 : Int)))))
      (.no))
    (.leaf n)
def T0_ref2_base (p : El T_api_Prog) (sym : Int) : JT J_ref2_base (Int) :=
  .jmp (.l4 (0 : Int) (0 : Int))
def R_ref2_base : Int → AV := fun (r : Int) => .d (.int .i64) r
def S_ref2_base (p : El T_api_Prog) (sym : Int) : J_ref2_base → Nat × St
  | .l4 n i => (4, ⟨mkTm 21 [(1, .d (.int .i64) sym), (2, .pt 3 0 0), (5, .d (.int .i64) n), (6, .d (.int .i64) i)], [(3, 0, .box 25 [.d (.sl T_api_Sym) p.1, .d (.sl (.sl T_api_Ins)) p.2] none)]⟩)
theorem en_ref2_base (p : El T_api_Prog) (sym : Int) (L : Lt) : entryA Go.Proofs.Tryd.prog (clOf t_ref2_base) tb_ref2_base Go.Proofs.Tryd.f68 c_ref2_base L (toForms sg_ref2_base (p, sym, ())) = (T0_ref2_base p sym).run (fun v => some (R_ref2_base v, tps (toForms sg_ref2_base (p, sym, ())))) fun j => L (S_ref2_base p sym j).1 (S_ref2_base p sym j).2 := by kernel_rfl
theorem lp_ref2_base (p : El T_api_Prog) (sym : Int) : ∀ (L : Lt) (j : J_ref2_base), procOf (procsF Go.Proofs.Tryd.prog (clOf t_ref2_base) tb_ref2_base Go.Proofs.Tryd.f68 c_ref2_base (toForms sg_ref2_base (p, sym, ()))) (S_ref2_base p sym j).1 L (S_ref2_base p sym j).2 = (T_ref2_base p sym j).run (fun v => some (R_ref2_base v, tps (toForms sg_ref2_base (p, sym, ())))) fun j => L (S_ref2_base p sym j).1 (S_ref2_base p sym j).2
  | L, .l4 n i => by kernel_rfl
end Go.Ev
end

section
set_option linter.unusedSectionVars false
set_option linter.unusedVariables false
set_option linter.unusedSimpArgs false
set_option linter.unusedVariables false
set_option linter.unusedSimpArgs false
open Go
namespace Go.Ev
def v_ref2_base (p : El T_api_Prog) (sym : Int) : Int := aheadW 0 (List.take sym.toNat p.1)
def k_ref2_base (p : El T_api_Prog) (sym : Int) : Bool := decide (sym ≤ (List.length p.1 : Int)) && decide (List.length p.1 < 4611686018427387904)
theorem g_ref2_base (p : El T_api_Prog) (sym : Int) (hk : k_ref2_base p sym = true) : Goes (T_ref2_base p sym) (T0_ref2_base p sym) (v_ref2_base p sym) := by
  unfold k_ref2_base at hk
  simp only [Bool.and_eq_true, decide_eq_true_eq] at hk
  obtain ⟨h1, h2⟩ := hk
  unfold T0_ref2_base v_ref2_base
  by_cases h0 : 0 ≤ sym
  · obtain ⟨m, rfl⟩ := Int.eq_ofNat_of_zero_le h0
    have hm : m ≤ List.length p.1 := by omega
    rw [Int.toNat_natCast]
    have loop : ∀ k, k ≤ m → ∀ a : Int, Goes (T_ref2_base p (m : Int)) (.jmp (.l4 a (k : Int))) (aheadW a ((p.1.take m).drop k)) := by
      refine down ?_ fun k hk ih => ?_
      · intro a
        rw [goes_jmp]
        have e : decide ((m : Int) < (m : Int)) = false := by simp
        have e2 : List.drop m (List.take m p.1) = [] := List.drop_eq_nil_of_le (by rw [List.length_take]; omega)
        simp only [T_ref2_base, goes_br, e, e2]
        exact .leaf
      · intro a
        rw [goes_jmp]
        have hkp : k < List.length p.1 := by omega
        have e : decide ((k : Int) < (m : Int)) = true := by simp; omega
        simp only [T_ref2_base, goes_br, e, lt_len hkp, nng, Bool.and_self, if_true, Int.toNat_natCast, getD_lt hkp, wrap_succ (k := k) (by omega)]
        have hkt : k < (List.take m p.1).length := by rw [List.length_take]; omega
        rw [drop_cons hkt, List.getElem_take]
        exact ih _
    exact loop 0 (Nat.zero_le _) 0
  · rw [Int.toNat_of_nonpos (by omega), goes_jmp]
    have e : decide ((0 : Int) < sym) = false := by simp; omega
    simp only [T_ref2_base, goes_br, e]
    exact .leaf
end Go.Ev
end

section
set_option linter.unusedSectionVars false
set_option linter.unusedVariables false
set_option linter.unusedSimpArgs false
set_option maxRecDepth 100000
set_option linter.unusedVariables false
open Go Go.Ev
namespace Go.Ev
noncomputable def e_ref2_base : Run := entG sg_ref2_base R_ref2_base (fun a => k_ref2_base a.1 a.2.1) (fun a => v_ref2_base a.1 a.2.1)
theorem ok_ref2_base : EntOK Go.Proofs.Tryd.prog 68 e_ref2_base := entG_ok (tb := tb_ref2_base) (c := c_ref2_base) tk_ref2_base (by kernel_rfl) (by kernel_rfl) (by kernel_rfl) (fun a => by kernel_rfl) fun ⟨p, sym, _⟩ hk => evF_goes (c := c_ref2_base) (K := fun v => (R_ref2_base v, tps (toForms sg_ref2_base (p, sym, ())))) (S := S_ref2_base p sym) (by kernel_rfl) (en_ref2_base p sym) (lp_ref2_base p sym) (g_ref2_base p sym hk)
end Go.Ev
end

section
set_option linter.unusedSectionVars false
set_option linter.unusedVariables false
set_option linter.unusedSimpArgs false
set_option maxRecDepth 100000
set_option linter.unusedVariables false
open Go Go.Ev
namespace Go.Ev
/-! ### paling/palingref2.address -/
def sg_ref2_address : Sig := [(true, T_api_Prog), (true, T_api_Opd), (true, (.pr (.int .i64) (.pr (.int .i64) (.pr (.int .i64) T_book_Act))))]
noncomputable def t_ref2_address : Tbl := [(89, e_ref1_OpdRight), (46, e_ref1_Memory), (68, e_ref2_base)]
theorem tk_ref2_address : ∀ p ∈ t_ref2_address, EntOK Go.Proofs.Tryd.prog p.1 p.2 := tbl_cons ok_ref1_OpdRight (tbl_cons ok_ref1_Memory (tbl_cons ok_ref2_base (tbl_nil)))
noncomputable def c_ref2_address : Code := Go.Proofs.Tryd.f67.body.getD .skip
def tb_ref2_address : Tb := [(5, ⟨[3, 4, 8, 37, 38, 39, 40, 41, 42, 43, 44, 45], []⟩)]
inductive J_ref2_address where
  | l5 (n : Int)
def T_ref2_address (p : El T_api_Prog) (o : El T_api_Opd) (regs : Int × Int × Int × El T_book_Act) : J_ref2_address → JT J_ref2_address (Int × Bool)
  | .l5 n =>
    .br (decide (n < (0 : Int)))
      (.leaf ((0 : Int), false))
    (.br ((decide ((0 : Int) ≤ o.2.2.1)) && (decide (o.2.2.1 < (Int.ofNat (List.length p.1)))))
      (.br (decide (n ≥ (List.getD p.1 (Int.toNat o.2.2.1) (dflt T_api_Sym)).2.1))
        (.leaf ((0 : Int), false))
      (.br (k_ref2_base p o.2.2.1)
        (.leaf ((IntKind.i64.wrap ((v_ref2_base p o.2.2.1) + n)), true))
      (.no)))
    (.no))
def T0_ref2_address (p : El T_api_Prog) (o : El T_api_Opd) (regs : Int × Int × Int × El T_book_Act) : JT J_ref2_address (Int × Bool) :=
  .br (! (v_ref1_OpdRight o))
    (.leaf ((0 : Int), false))
  (.br (! (v_ref1_Memory o))
    (.leaf ((0 : Int), false))
  (.br (decide (o.2.2.1 ≥ (Int.ofNat (List.length p.1))))
    (.leaf ((0 : Int), false))
  (.br (o.1 == (4 : Int))
    (.br (o.2.1 == (7 : Int))
      (.jmp (.l5 regs.2.2.2.2.2.2.2))
    (.br (o.2.1 == (6 : Int))
      (.jmp (.l5 regs.2.2.2.2.2.2.1))
    (.br (o.2.1 == (5 : Int))
      (.jmp (.l5 regs.2.2.2.2.2.1))
    (.br (o.2.1 == (4 : Int))
      (.jmp (.l5 regs.2.2.2.2.1))
    (.br (o.2.1 == (3 : Int))
      (.jmp (.l5 regs.2.2.2.1))
    (.br (o.2.1 == (2 : Int))
      (.jmp (.l5 regs.2.2.1))
    (.br (o.2.1 == (1 : Int))
      (.jmp (.l5 regs.2.1))
    (.br (o.2.1 == (0 : Int))
      (.jmp (.l5 regs.1))
    (.no)))))))))
  (.jmp (.l5 o.2.2.2)))))
def v_ref2_address_l5 (p : El T_api_Prog) (o : El T_api_Opd) (regs : Int × Int × Int × El T_book_Act) (n : Int) : Int × Bool :=
  bif (decide (n < (0 : Int))) then
    ((0 : Int), false)
  else bif ((decide ((0 : Int) ≤ o.2.2.1)) && (decide (o.2.2.1 < (Int.ofNat (List.length p.1))))) then
    bif (decide (n ≥ (List.getD p.1 (Int.toNat o.2.2.1) (dflt T_api_Sym)).2.1)) then
      ((0 : Int), false)
    else bif (k_ref2_base p o.2.2.1) then
      ((IntKind.i64.wrap ((v_ref2_base p o.2.2.1) + n)), true)
    else ((0 : Int), false)
  else ((0 : Int), false)
def k_ref2_address_l5 (p : El T_api_Prog) (o : El T_api_Opd) (regs : Int × Int × Int × El T_book_Act) (n : Int) : Bool :=
  bif (decide (n < (0 : Int))) then
    true
  else bif ((decide ((0 : Int) ≤ o.2.2.1)) && (decide (o.2.2.1 < (Int.ofNat (List.length p.1))))) then
    bif (decide (n ≥ (List.getD p.1 (Int.toNat o.2.2.1) (dflt T_api_Sym)).2.1)) then
      true
    else bif (k_ref2_base p o.2.2.1) then
      true
    else false
  else false
theorem g_ref2_address_l5 (p : El T_api_Prog) (o : El T_api_Opd) (regs : Int × Int × Int × El T_book_Act) (n : Int) (hk : k_ref2_address_l5 p o regs n = true) : Goes (T_ref2_address p o regs) (.jmp (.l5 n)) (v_ref2_address_l5 p o regs n) :=
  Goes.jmp (Goes.brk hk (fun hk =>
    Goes.leaf) (fun hk =>
    Goes.brk hk (fun hk =>
      Goes.brk hk (fun hk =>
        Goes.leaf) (fun hk =>
        Goes.brk hk (fun hk =>
          Goes.leaf) (fun hk =>
          Goes.nok hk))) (fun hk =>
      Goes.nok hk)))
def v_ref2_address (p : El T_api_Prog) (o : El T_api_Opd) (regs : Int × Int × Int × El T_book_Act) : Int × Bool :=
  bif (! (v_ref1_OpdRight o)) then
    ((0 : Int), false)
  else bif (! (v_ref1_Memory o)) then
    ((0 : Int), false)
  else bif (decide (o.2.2.1 ≥ (Int.ofNat (List.length p.1)))) then
    ((0 : Int), false)
  else bif (o.1 == (4 : Int)) then
    bif (o.2.1 == (7 : Int)) then
      v_ref2_address_l5 p o regs regs.2.2.2.2.2.2.2
    else bif (o.2.1 == (6 : Int)) then
      v_ref2_address_l5 p o regs regs.2.2.2.2.2.2.1
    else bif (o.2.1 == (5 : Int)) then
      v_ref2_address_l5 p o regs regs.2.2.2.2.2.1
    else bif (o.2.1 == (4 : Int)) then
      v_ref2_address_l5 p o regs regs.2.2.2.2.1
    else bif (o.2.1 == (3 : Int)) then
      v_ref2_address_l5 p o regs regs.2.2.2.1
    else bif (o.2.1 == (2 : Int)) then
      v_ref2_address_l5 p o regs regs.2.2.1
    else bif (o.2.1 == (1 : Int)) then
      v_ref2_address_l5 p o regs regs.2.1
    else bif (o.2.1 == (0 : Int)) then
      v_ref2_address_l5 p o regs regs.1
    else ((0 : Int), false)
  else v_ref2_address_l5 p o regs o.2.2.2
def k_ref2_address (p : El T_api_Prog) (o : El T_api_Opd) (regs : Int × Int × Int × El T_book_Act) : Bool :=
  bif (! (v_ref1_OpdRight o)) then
    true
  else bif (! (v_ref1_Memory o)) then
    true
  else bif (decide (o.2.2.1 ≥ (Int.ofNat (List.length p.1)))) then
    true
  else bif (o.1 == (4 : Int)) then
    bif (o.2.1 == (7 : Int)) then
      k_ref2_address_l5 p o regs regs.2.2.2.2.2.2.2
    else bif (o.2.1 == (6 : Int)) then
      k_ref2_address_l5 p o regs regs.2.2.2.2.2.2.1
    else bif (o.2.1 == (5 : Int)) then
      k_ref2_address_l5 p o regs regs.2.2.2.2.2.1
    else bif (o.2.1 == (4 : Int)) then
      k_ref2_address_l5 p o regs regs.2.2.2.2.1
    else bif (o.2.1 == (3 : Int)) then
      k_ref2_address_l5 p o regs regs.2.2.2.1
    else bif (o.2.1 == (2 : Int)) then
      k_ref2_address_l5 p o regs regs.2.2.1
    else bif (o.2.1 == (1 : Int)) then
      k_ref2_address_l5 p o regs regs.2.1
    else bif (o.2.1 == (0 : Int)) then
      k_ref2_address_l5 p o regs regs.1
    else false
  else k_ref2_address_l5 p o regs o.2.2.2
theorem g_ref2_address (p : El T_api_Prog) (o : El T_api_Opd) (regs : Int × Int × Int × El T_book_Act) (hk : k_ref2_address p o regs = true) : Goes (T_ref2_address p o regs) (T0_ref2_address p o regs) (v_ref2_address p o regs) :=
  Goes.brk hk (fun hk =>
    Goes.leaf) (fun hk =>
    Goes.brk hk (fun hk =>
      Goes.leaf) (fun hk =>
      Goes.brk hk (fun hk =>
        Goes.leaf) (fun hk =>
        Goes.brk hk (fun hk =>
          Goes.brk hk (fun hk =>
            g_ref2_address_l5 p o regs regs.2.2.2.2.2.2.2 hk) (fun hk =>
            Goes.brk hk (fun hk =>
              g_ref2_address_l5 p o regs regs.2.2.2.2.2.2.1 hk) (fun hk =>
              Goes.brk hk (fun hk =>
                g_ref2_address_l5 p o regs regs.2.2.2.2.2.1 hk) (fun hk =>
                Goes.brk hk (fun hk =>
                  g_ref2_address_l5 p o regs regs.2.2.2.2.1 hk) (fun hk =>
                  Goes.brk hk (fun hk =>
                    g_ref2_address_l5 p o regs regs.2.2.2.1 hk) (fun hk =>
                    Goes.brk hk (fun hk =>
                      g_ref2_address_l5 p o regs regs.2.2.1 hk) (fun hk =>
                      Goes.brk hk (fun hk =>
                        g_ref2_address_l5 p o regs regs.2.1 hk) (fun hk =>
                        Goes.brk hk (fun hk =>
                          g_ref2_address_l5 p o regs regs.1 hk) (fun hk =>
                          Goes.nok hk))))))))) (fun hk =>
          g_ref2_address_l5 p o regs o.2.2.2 hk))))
def R_ref2_address : Int × Bool → AV := fun (r : Int × Bool) => .tu [.d (.int .i64) r.1, .d .bool r.2]
def S_ref2_address (p : El T_api_Prog) (o : El T_api_Opd) (regs : Int × Int × Int × El T_book_Act) : J_ref2_address → Nat × St
  | .l5 n => (5, ⟨mkTm 53 [(3, .pt 4 0 0), (4, .pt 5 0 0), (8, .d (.int .i64) n)], [(4, 0, .box 25 [.d (.sl T_api_Sym) p.1, .d (.sl (.sl T_api_Ins)) p.2] none), (5, 0, .box 42 [.d (.int .i64) o.1, .d (.int .i64) o.2.1, .d (.int .i64) o.2.2.1, .d (.int .i64) o.2.2.2] none)]⟩)
theorem en_ref2_address (p : El T_api_Prog) (o : El T_api_Opd) (regs : Int × Int × Int × El T_book_Act) (L : Lt) : entryA Go.Proofs.Tryd.prog (clOf t_ref2_address) tb_ref2_address Go.Proofs.Tryd.f67 c_ref2_address L (toForms sg_ref2_address (p, o, regs, ())) = (T0_ref2_address p o regs).run (fun v => some (R_ref2_address v, tps (toForms sg_ref2_address (p, o, regs, ())))) fun j => L (S_ref2_address p o regs j).1 (S_ref2_address p o regs j).2 := by kernel_rfl
theorem lp_ref2_address (p : El T_api_Prog) (o : El T_api_Opd) (regs : Int × Int × Int × El T_book_Act) : ∀ (L : Lt) (j : J_ref2_address), procOf (procsF Go.Proofs.Tryd.prog (clOf t_ref2_address) tb_ref2_address Go.Proofs.Tryd.f67 c_ref2_address (toForms sg_ref2_address (p, o, regs, ()))) (S_ref2_address p o regs j).1 L (S_ref2_address p o regs j).2 = (T_ref2_address p o regs j).run (fun v => some (R_ref2_address v, tps (toForms sg_ref2_address (p, o, regs, ())))) fun j => L (S_ref2_address p o regs j).1 (S_ref2_address p o regs j).2
  | L, .l5 n => by kernel_rfl
noncomputable def e_ref2_address : Run := entG sg_ref2_address R_ref2_address (fun a => k_ref2_address a.1 a.2.1 a.2.2.1) (fun a => v_ref2_address a.1 a.2.1 a.2.2.1)
theorem ok_ref2_address : EntOK Go.Proofs.Tryd.prog 67 e_ref2_address := entG_ok (tb := tb_ref2_address) (c := c_ref2_address) tk_ref2_address (by kernel_rfl) (by kernel_rfl) (by kernel_rfl) (fun a => by kernel_rfl) fun ⟨p, o, regs, _⟩ hk => evF_goes (c := c_ref2_address) (K := fun v => (R_ref2_address v, tps (toForms sg_ref2_address (p, o, regs, ())))) (S := S_ref2_address p o regs) (by kernel_rfl) (en_ref2_address p o regs) (lp_ref2_address p o regs) (g_ref2_address p o regs hk)
end Go.Ev
end

section
set_option linter.unusedSectionVars false
set_option linter.unusedVariables false
set_option linter.unusedSimpArgs false
set_option maxRecDepth 100000
set_option linter.unusedVariables false
open Go Go.Ev
namespace Go.Ev
/-! ### paling/palingref2.Addr -/
def sg_ref2_Addr : Sig := [(true, T_api_Prog), (true, T_api_Opd), (true, (.pr (.int .i64) (.pr (.int .i64) (.pr (.int .i64) T_book_Act))))]
noncomputable def t_ref2_Addr : Tbl := [(40, e_ref1_Check), (67, e_ref2_address)]
theorem tk_ref2_Addr : ∀ p ∈ t_ref2_Addr, EntOK Go.Proofs.Tryd.prog p.1 p.2 := tbl_cons ok_ref1_Check (tbl_cons ok_ref2_address (tbl_nil))
noncomputable def c_ref2_Addr : Code := Go.Proofs.Tryd.f48.body.getD .skip
def tb_ref2_Addr : Tb := []
def T_ref2_Addr (p : El T_api_Prog) (o : El T_api_Opd) (regs : Int × Int × Int × El T_book_Act) : Empty → JT Empty (Int × Bool) := fun j => nomatch j
def T0_ref2_Addr (p : El T_api_Prog) (o : El T_api_Opd) (regs : Int × Int × Int × El T_book_Act) : JT Empty (Int × Bool) :=
  .br (k_ref1_Check p)
    (.br ((v_ref1_Check p) != (0 : Int))
      (.leaf ((0 : Int), false))
    (.br (k_ref2_address p o regs)
      (.leaf ((v_ref2_address p o regs).1, (v_ref2_address p o regs).2))
    (.no)))
  (.no)
def v_ref2_Addr (p : El T_api_Prog) (o : El T_api_Opd) (regs : Int × Int × Int × El T_book_Act) : Int × Bool :=
  bif (k_ref1_Check p) then
    bif ((v_ref1_Check p) != (0 : Int)) then
      ((0 : Int), false)
    else bif (k_ref2_address p o regs) then
      ((v_ref2_address p o regs).1, (v_ref2_address p o regs).2)
    else ((0 : Int), false)
  else ((0 : Int), false)
def k_ref2_Addr (p : El T_api_Prog) (o : El T_api_Opd) (regs : Int × Int × Int × El T_book_Act) : Bool :=
  bif (k_ref1_Check p) then
    bif ((v_ref1_Check p) != (0 : Int)) then
      true
    else bif (k_ref2_address p o regs) then
      true
    else false
  else false
theorem g_ref2_Addr (p : El T_api_Prog) (o : El T_api_Opd) (regs : Int × Int × Int × El T_book_Act) (hk : k_ref2_Addr p o regs = true) : Goes (T_ref2_Addr p o regs) (T0_ref2_Addr p o regs) (v_ref2_Addr p o regs) :=
  Goes.brk hk (fun hk =>
    Goes.brk hk (fun hk =>
      Goes.leaf) (fun hk =>
      Goes.brk hk (fun hk =>
        Goes.leaf) (fun hk =>
        Goes.nok hk))) (fun hk =>
    Goes.nok hk)
def R_ref2_Addr : Int × Bool → AV := fun (r : Int × Bool) => .tu [.d (.int .i64) r.1, .d .bool r.2]
def S_ref2_Addr (p : El T_api_Prog) (o : El T_api_Opd) (regs : Int × Int × Int × El T_book_Act) : Empty → Nat × St := fun j => nomatch j
theorem en_ref2_Addr (p : El T_api_Prog) (o : El T_api_Opd) (regs : Int × Int × Int × El T_book_Act) (L : Lt) : entryA Go.Proofs.Tryd.prog (clOf t_ref2_Addr) tb_ref2_Addr Go.Proofs.Tryd.f48 c_ref2_Addr L (toForms sg_ref2_Addr (p, o, regs, ())) = (T0_ref2_Addr p o regs).run (fun v => some (R_ref2_Addr v, tps (toForms sg_ref2_Addr (p, o, regs, ())))) fun j => L (S_ref2_Addr p o regs j).1 (S_ref2_Addr p o regs j).2 := by kernel_rfl
theorem lp_ref2_Addr (p : El T_api_Prog) (o : El T_api_Opd) (regs : Int × Int × Int × El T_book_Act) : ∀ (L : Lt) (j : Empty), procOf (procsF Go.Proofs.Tryd.prog (clOf t_ref2_Addr) tb_ref2_Addr Go.Proofs.Tryd.f48 c_ref2_Addr (toForms sg_ref2_Addr (p, o, regs, ()))) (S_ref2_Addr p o regs j).1 L (S_ref2_Addr p o regs j).2 = (T_ref2_Addr p o regs j).run (fun v => some (R_ref2_Addr v, tps (toForms sg_ref2_Addr (p, o, regs, ())))) fun j => L (S_ref2_Addr p o regs j).1 (S_ref2_Addr p o regs j).2 := fun L j => nomatch j
noncomputable def e_ref2_Addr : Run := entG sg_ref2_Addr R_ref2_Addr (fun a => k_ref2_Addr a.1 a.2.1 a.2.2.1) (fun a => v_ref2_Addr a.1 a.2.1 a.2.2.1)
theorem ok_ref2_Addr : EntOK Go.Proofs.Tryd.prog 48 e_ref2_Addr := entG_ok (tb := tb_ref2_Addr) (c := c_ref2_Addr) tk_ref2_Addr (by kernel_rfl) (by kernel_rfl) (by kernel_rfl) (fun a => by kernel_rfl) fun ⟨p, o, regs, _⟩ hk => evF_goes (c := c_ref2_Addr) (K := fun v => (R_ref2_Addr v, tps (toForms sg_ref2_Addr (p, o, regs, ())))) (S := S_ref2_Addr p o regs) (by kernel_rfl) (en_ref2_Addr p o regs) (lp_ref2_Addr p o regs) (g_ref2_Addr p o regs hk)
end Go.Ev
end

section
set_option linter.unusedSectionVars false
set_option linter.unusedVariables false
set_option linter.unusedSimpArgs false
set_option maxRecDepth 100000
set_option linter.unusedVariables false
open Go Go.Ev
namespace Go.Ev
/-! ### paling/cells.Size -/
def sg_cells_Size : Sig := [(true, T_api_Prog)]
noncomputable def t_cells_Size : Tbl := [(36, e_valid_Check), (53, e_cells_ahead)]
theorem tk_cells_Size : ∀ p ∈ t_cells_Size, EntOK Go.Proofs.Tryd.prog p.1 p.2 := tbl_cons ok_valid_Check (tbl_cons ok_cells_ahead (tbl_nil))
noncomputable def c_cells_Size : Code := Go.Proofs.Tryd.f33.body.getD .skip
def tb_cells_Size : Tb := []
def T_cells_Size (p : El T_api_Prog) : Empty → JT Empty (Int) := fun j => nomatch j
def T0_cells_Size (p : El T_api_Prog) : JT Empty (Int) :=
  .br (k_valid_Check p)
    (.br ((v_valid_Check p) != (0 : Int))
      (.leaf (0 : Int))
    (.br (k_cells_ahead p (Int.ofNat (List.length p.1)))
      (.leaf (v_cells_ahead p (Int.ofNat (List.length p.1))))
    (.no)))
  (.no)
def v_cells_Size (p : El T_api_Prog) : Int :=
  bif (k_valid_Check p) then
    bif ((v_valid_Check p) != (0 : Int)) then
      (0 : Int)
    else bif (k_cells_ahead p (Int.ofNat (List.length p.1))) then
      (v_cells_ahead p (Int.ofNat (List.length p.1)))
    else (0 : Int)
  else (0 : Int)
def k_cells_Size (p : El T_api_Prog) : Bool :=
  bif (k_valid_Check p) then
    bif ((v_valid_Check p) != (0 : Int)) then
      true
    else bif (k_cells_ahead p (Int.ofNat (List.length p.1))) then
      true
    else false
  else false
theorem g_cells_Size (p : El T_api_Prog) (hk : k_cells_Size p = true) : Goes (T_cells_Size p) (T0_cells_Size p) (v_cells_Size p) :=
  Goes.brk hk (fun hk =>
    Goes.brk hk (fun hk =>
      Goes.leaf) (fun hk =>
      Goes.brk hk (fun hk =>
        Goes.leaf) (fun hk =>
        Goes.nok hk))) (fun hk =>
    Goes.nok hk)
def R_cells_Size : Int → AV := fun (r : Int) => .d (.int .i64) r
def S_cells_Size (p : El T_api_Prog) : Empty → Nat × St := fun j => nomatch j
theorem en_cells_Size (p : El T_api_Prog) (L : Lt) : entryA Go.Proofs.Tryd.prog (clOf t_cells_Size) tb_cells_Size Go.Proofs.Tryd.f33 c_cells_Size L (toForms sg_cells_Size (p, ())) = (T0_cells_Size p).run (fun v => some (R_cells_Size v, tps (toForms sg_cells_Size (p, ())))) fun j => L (S_cells_Size p j).1 (S_cells_Size p j).2 := by kernel_rfl
theorem lp_cells_Size (p : El T_api_Prog) : ∀ (L : Lt) (j : Empty), procOf (procsF Go.Proofs.Tryd.prog (clOf t_cells_Size) tb_cells_Size Go.Proofs.Tryd.f33 c_cells_Size (toForms sg_cells_Size (p, ()))) (S_cells_Size p j).1 L (S_cells_Size p j).2 = (T_cells_Size p j).run (fun v => some (R_cells_Size v, tps (toForms sg_cells_Size (p, ())))) fun j => L (S_cells_Size p j).1 (S_cells_Size p j).2 := fun L j => nomatch j
noncomputable def e_cells_Size : Run := entG sg_cells_Size R_cells_Size (fun a => k_cells_Size a.1) (fun a => v_cells_Size a.1)
theorem ok_cells_Size : EntOK Go.Proofs.Tryd.prog 33 e_cells_Size := entG_ok (tb := tb_cells_Size) (c := c_cells_Size) tk_cells_Size (by kernel_rfl) (by kernel_rfl) (by kernel_rfl) (fun a => by kernel_rfl) fun ⟨p, _⟩ hk => evF_goes (c := c_cells_Size) (K := fun v => (R_cells_Size v, tps (toForms sg_cells_Size (p, ())))) (S := S_cells_Size p) (by kernel_rfl) (en_cells_Size p) (lp_cells_Size p) (g_cells_Size p hk)
end Go.Ev
end

section
set_option linter.unusedSectionVars false
set_option linter.unusedVariables false
set_option linter.unusedSimpArgs false
set_option maxRecDepth 100000
set_option linter.unusedVariables false
open Go Go.Ev
namespace Go.Ev
/-! ### paling/palingref2.Size -/
def sg_ref2_Size : Sig := [(true, T_api_Prog)]
noncomputable def t_ref2_Size : Tbl := [(40, e_ref1_Check), (68, e_ref2_base)]
theorem tk_ref2_Size : ∀ p ∈ t_ref2_Size, EntOK Go.Proofs.Tryd.prog p.1 p.2 := tbl_cons ok_ref1_Check (tbl_cons ok_ref2_base (tbl_nil))
noncomputable def c_ref2_Size : Code := Go.Proofs.Tryd.f49.body.getD .skip
def tb_ref2_Size : Tb := []
def T_ref2_Size (p : El T_api_Prog) : Empty → JT Empty (Int) := fun j => nomatch j
def T0_ref2_Size (p : El T_api_Prog) : JT Empty (Int) :=
  .br (k_ref1_Check p)
    (.br ((v_ref1_Check p) != (0 : Int))
      (.leaf (0 : Int))
    (.br (k_ref2_base p (Int.ofNat (List.length p.1)))
      (.leaf (v_ref2_base p (Int.ofNat (List.length p.1))))
    (.no)))
  (.no)
def v_ref2_Size (p : El T_api_Prog) : Int :=
  bif (k_ref1_Check p) then
    bif ((v_ref1_Check p) != (0 : Int)) then
      (0 : Int)
    else bif (k_ref2_base p (Int.ofNat (List.length p.1))) then
      (v_ref2_base p (Int.ofNat (List.length p.1)))
    else (0 : Int)
  else (0 : Int)
def k_ref2_Size (p : El T_api_Prog) : Bool :=
  bif (k_ref1_Check p) then
    bif ((v_ref1_Check p) != (0 : Int)) then
      true
    else bif (k_ref2_base p (Int.ofNat (List.length p.1))) then
      true
    else false
  else false
theorem g_ref2_Size (p : El T_api_Prog) (hk : k_ref2_Size p = true) : Goes (T_ref2_Size p) (T0_ref2_Size p) (v_ref2_Size p) :=
  Goes.brk hk (fun hk =>
    Goes.brk hk (fun hk =>
      Goes.leaf) (fun hk =>
      Goes.brk hk (fun hk =>
        Goes.leaf) (fun hk =>
        Goes.nok hk))) (fun hk =>
    Goes.nok hk)
def R_ref2_Size : Int → AV := fun (r : Int) => .d (.int .i64) r
def S_ref2_Size (p : El T_api_Prog) : Empty → Nat × St := fun j => nomatch j
theorem en_ref2_Size (p : El T_api_Prog) (L : Lt) : entryA Go.Proofs.Tryd.prog (clOf t_ref2_Size) tb_ref2_Size Go.Proofs.Tryd.f49 c_ref2_Size L (toForms sg_ref2_Size (p, ())) = (T0_ref2_Size p).run (fun v => some (R_ref2_Size v, tps (toForms sg_ref2_Size (p, ())))) fun j => L (S_ref2_Size p j).1 (S_ref2_Size p j).2 := by kernel_rfl
theorem lp_ref2_Size (p : El T_api_Prog) : ∀ (L : Lt) (j : Empty), procOf (procsF Go.Proofs.Tryd.prog (clOf t_ref2_Size) tb_ref2_Size Go.Proofs.Tryd.f49 c_ref2_Size (toForms sg_ref2_Size (p, ()))) (S_ref2_Size p j).1 L (S_ref2_Size p j).2 = (T_ref2_Size p j).run (fun v => some (R_ref2_Size v, tps (toForms sg_ref2_Size (p, ())))) fun j => L (S_ref2_Size p j).1 (S_ref2_Size p j).2 := fun L j => nomatch j
noncomputable def e_ref2_Size : Run := entG sg_ref2_Size R_ref2_Size (fun a => k_ref2_Size a.1) (fun a => v_ref2_Size a.1)
theorem ok_ref2_Size : EntOK Go.Proofs.Tryd.prog 49 e_ref2_Size := entG_ok (tb := tb_ref2_Size) (c := c_ref2_Size) tk_ref2_Size (by kernel_rfl) (by kernel_rfl) (by kernel_rfl) (fun a => by kernel_rfl) fun ⟨p, _⟩ hk => evF_goes (c := c_ref2_Size) (K := fun v => (R_ref2_Size v, tps (toForms sg_ref2_Size (p, ())))) (S := S_ref2_Size p) (by kernel_rfl) (en_ref2_Size p) (lp_ref2_Size p) (g_ref2_Size p hk)
end Go.Ev
end

section
set_option linter.unusedSectionVars false
set_option linter.unusedVariables false
set_option linter.unusedSimpArgs false
set_option maxRecDepth 100000
set_option linter.unusedVariables false
open Go Go.Ev
namespace Go.Ev
/-! ### paling/cells.Base -/
def sg_cells_Base : Sig := [(true, T_api_Prog), (false, (.int .i64))]
noncomputable def t_cells_Base : Tbl := [(36, e_valid_Check), (53, e_cells_ahead)]
theorem tk_cells_Base : ∀ p ∈ t_cells_Base, EntOK Go.Proofs.Tryd.prog p.1 p.2 := tbl_cons ok_valid_Check (tbl_cons ok_cells_ahead (tbl_nil))
noncomputable def c_cells_Base : Code := Go.Proofs.Tryd.f30.body.getD .skip
def tb_cells_Base : Tb := []
def T_cells_Base (p : El T_api_Prog) (sym : Int) : Empty → JT Empty (Int) := fun j => nomatch j
def T0_cells_Base (p : El T_api_Prog) (sym : Int) : JT Empty (Int) :=
  .br (decide (sym < (0 : Int)))
    (.leaf (-1 : Int))
  (.br (decide (sym ≥ (Int.ofNat (List.length p.1))))
    (.leaf (-1 : Int))
  (.br (k_valid_Check p)
    (.br ((v_valid_Check p) != (0 : Int))
      (.leaf (-1 : Int))
    (.br (k_cells_ahead p sym)
      (.leaf (v_cells_ahead p sym))
    (.no)))
  (.no)))
def v_cells_Base (p : El T_api_Prog) (sym : Int) : Int :=
  bif (decide (sym < (0 : Int))) then
    (-1 : Int)
  else bif (decide (sym ≥ (Int.ofNat (List.length p.1)))) then
    (-1 : Int)
  else bif (k_valid_Check p) then
    bif ((v_valid_Check p) != (0 : Int)) then
      (-1 : Int)
    else bif (k_cells_ahead p sym) then
      (v_cells_ahead p sym)
    else (0 : Int)
  else (0 : Int)
def k_cells_Base (p : El T_api_Prog) (sym : Int) : Bool :=
  bif (decide (sym < (0 : Int))) then
    true
  else bif (decide (sym ≥ (Int.ofNat (List.length p.1)))) then
    true
  else bif (k_valid_Check p) then
    bif ((v_valid_Check p) != (0 : Int)) then
      true
    else bif (k_cells_ahead p sym) then
      true
    else false
  else false
theorem g_cells_Base (p : El T_api_Prog) (sym : Int) (hk : k_cells_Base p sym = true) : Goes (T_cells_Base p sym) (T0_cells_Base p sym) (v_cells_Base p sym) :=
  Goes.brk hk (fun hk =>
    Goes.leaf) (fun hk =>
    Goes.brk hk (fun hk =>
      Goes.leaf) (fun hk =>
      Goes.brk hk (fun hk =>
        Goes.brk hk (fun hk =>
          Goes.leaf) (fun hk =>
          Goes.brk hk (fun hk =>
            Goes.leaf) (fun hk =>
            Goes.nok hk))) (fun hk =>
        Goes.nok hk)))
def R_cells_Base : Int → AV := fun (r : Int) => .d (.int .i64) r
def S_cells_Base (p : El T_api_Prog) (sym : Int) : Empty → Nat × St := fun j => nomatch j
theorem en_cells_Base (p : El T_api_Prog) (sym : Int) (L : Lt) : entryA Go.Proofs.Tryd.prog (clOf t_cells_Base) tb_cells_Base Go.Proofs.Tryd.f30 c_cells_Base L (toForms sg_cells_Base (p, sym, ())) = (T0_cells_Base p sym).run (fun v => some (R_cells_Base v, tps (toForms sg_cells_Base (p, sym, ())))) fun j => L (S_cells_Base p sym j).1 (S_cells_Base p sym j).2 := by kernel_rfl
theorem lp_cells_Base (p : El T_api_Prog) (sym : Int) : ∀ (L : Lt) (j : Empty), procOf (procsF Go.Proofs.Tryd.prog (clOf t_cells_Base) tb_cells_Base Go.Proofs.Tryd.f30 c_cells_Base (toForms sg_cells_Base (p, sym, ()))) (S_cells_Base p sym j).1 L (S_cells_Base p sym j).2 = (T_cells_Base p sym j).run (fun v => some (R_cells_Base v, tps (toForms sg_cells_Base (p, sym, ())))) fun j => L (S_cells_Base p sym j).1 (S_cells_Base p sym j).2 := fun L j => nomatch j
noncomputable def e_cells_Base : Run := entG sg_cells_Base R_cells_Base (fun a => k_cells_Base a.1 a.2.1) (fun a => v_cells_Base a.1 a.2.1)
theorem ok_cells_Base : EntOK Go.Proofs.Tryd.prog 30 e_cells_Base := entG_ok (tb := tb_cells_Base) (c := c_cells_Base) tk_cells_Base (by kernel_rfl) (by kernel_rfl) (by kernel_rfl) (fun a => by kernel_rfl) fun ⟨p, sym, _⟩ hk => evF_goes (c := c_cells_Base) (K := fun v => (R_cells_Base v, tps (toForms sg_cells_Base (p, sym, ())))) (S := S_cells_Base p sym) (by kernel_rfl) (en_cells_Base p sym) (lp_cells_Base p sym) (g_cells_Base p sym hk)
end Go.Ev
end

section
set_option linter.unusedSectionVars false
set_option linter.unusedVariables false
set_option linter.unusedSimpArgs false
set_option maxRecDepth 100000
set_option linter.unusedVariables false
open Go Go.Ev
namespace Go.Ev
/-! ### paling/palingref2.Base -/
def sg_ref2_Base : Sig := [(true, T_api_Prog), (false, (.int .i64))]
noncomputable def t_ref2_Base : Tbl := [(40, e_ref1_Check), (68, e_ref2_base)]
theorem tk_ref2_Base : ∀ p ∈ t_ref2_Base, EntOK Go.Proofs.Tryd.prog p.1 p.2 := tbl_cons ok_ref1_Check (tbl_cons ok_ref2_base (tbl_nil))
noncomputable def c_ref2_Base : Code := Go.Proofs.Tryd.f50.body.getD .skip
def tb_ref2_Base : Tb := []
def T_ref2_Base (p : El T_api_Prog) (sym : Int) : Empty → JT Empty (Int) := fun j => nomatch j
def T0_ref2_Base (p : El T_api_Prog) (sym : Int) : JT Empty (Int) :=
  .br (k_ref1_Check p)
    (.br ((v_ref1_Check p) != (0 : Int))
      (.leaf (-1 : Int))
    (.br (decide (sym < (0 : Int)))
      (.leaf (-1 : Int))
    (.br (decide (sym ≥ (Int.ofNat (List.length p.1))))
      (.leaf (-1 : Int))
    (.br (k_ref2_base p sym)
      (.leaf (v_ref2_base p sym))
    (.no)))))
  (.no)
def v_ref2_Base (p : El T_api_Prog) (sym : Int) : Int :=
  bif (k_ref1_Check p) then
    bif ((v_ref1_Check p) != (0 : Int)) then
      (-1 : Int)
    else bif (decide (sym < (0 : Int))) then
      (-1 : Int)
    else bif (decide (sym ≥ (Int.ofNat (List.length p.1)))) then
      (-1 : Int)
    else bif (k_ref2_base p sym) then
      (v_ref2_base p sym)
    else (0 : Int)
  else (0 : Int)
def k_ref2_Base (p : El T_api_Prog) (sym : Int) : Bool :=
  bif (k_ref1_Check p) then
    bif ((v_ref1_Check p) != (0 : Int)) then
      true
    else bif (decide (sym < (0 : Int))) then
      true
    else bif (decide (sym ≥ (Int.ofNat (List.length p.1)))) then
      true
    else bif (k_ref2_base p sym) then
      true
    else false
  else false
theorem g_ref2_Base (p : El T_api_Prog) (sym : Int) (hk : k_ref2_Base p sym = true) : Goes (T_ref2_Base p sym) (T0_ref2_Base p sym) (v_ref2_Base p sym) :=
  Goes.brk hk (fun hk =>
    Goes.brk hk (fun hk =>
      Goes.leaf) (fun hk =>
      Goes.brk hk (fun hk =>
        Goes.leaf) (fun hk =>
        Goes.brk hk (fun hk =>
          Goes.leaf) (fun hk =>
          Goes.brk hk (fun hk =>
            Goes.leaf) (fun hk =>
            Goes.nok hk))))) (fun hk =>
    Goes.nok hk)
def R_ref2_Base : Int → AV := fun (r : Int) => .d (.int .i64) r
def S_ref2_Base (p : El T_api_Prog) (sym : Int) : Empty → Nat × St := fun j => nomatch j
theorem en_ref2_Base (p : El T_api_Prog) (sym : Int) (L : Lt) : entryA Go.Proofs.Tryd.prog (clOf t_ref2_Base) tb_ref2_Base Go.Proofs.Tryd.f50 c_ref2_Base L (toForms sg_ref2_Base (p, sym, ())) = (T0_ref2_Base p sym).run (fun v => some (R_ref2_Base v, tps (toForms sg_ref2_Base (p, sym, ())))) fun j => L (S_ref2_Base p sym j).1 (S_ref2_Base p sym j).2 := by kernel_rfl
theorem lp_ref2_Base (p : El T_api_Prog) (sym : Int) : ∀ (L : Lt) (j : Empty), procOf (procsF Go.Proofs.Tryd.prog (clOf t_ref2_Base) tb_ref2_Base Go.Proofs.Tryd.f50 c_ref2_Base (toForms sg_ref2_Base (p, sym, ()))) (S_ref2_Base p sym j).1 L (S_ref2_Base p sym j).2 = (T_ref2_Base p sym j).run (fun v => some (R_ref2_Base v, tps (toForms sg_ref2_Base (p, sym, ())))) fun j => L (S_ref2_Base p sym j).1 (S_ref2_Base p sym j).2 := fun L j => nomatch j
noncomputable def e_ref2_Base : Run := entG sg_ref2_Base R_ref2_Base (fun a => k_ref2_Base a.1 a.2.1) (fun a => v_ref2_Base a.1 a.2.1)
theorem ok_ref2_Base : EntOK Go.Proofs.Tryd.prog 50 e_ref2_Base := entG_ok (tb := tb_ref2_Base) (c := c_ref2_Base) tk_ref2_Base (by kernel_rfl) (by kernel_rfl) (by kernel_rfl) (fun a => by kernel_rfl) fun ⟨p, sym, _⟩ hk => evF_goes (c := c_ref2_Base) (K := fun v => (R_ref2_Base v, tps (toForms sg_ref2_Base (p, sym, ())))) (S := S_ref2_Base p sym) (by kernel_rfl) (en_ref2_Base p sym) (lp_ref2_Base p sym) (g_ref2_Base p sym hk)
end Go.Ev
end

section
set_option linter.unusedSectionVars false
set_option linter.unusedVariables false
set_option linter.unusedSimpArgs false
set_option maxRecDepth 100000
set_option linter.unusedVariables false
open Go Go.Ev
namespace Go.Ev
/-! ### paling/cells.Sym -/
def sg_cells_Sym : Sig := [(true, T_api_Prog), (false, (.int .i64))]
noncomputable def t_cells_Sym : Tbl := [(36, e_valid_Check)]
theorem tk_cells_Sym : ∀ p ∈ t_cells_Sym, EntOK Go.Proofs.Tryd.prog p.1 p.2 := tbl_cons ok_valid_Check (tbl_nil)
noncomputable def c_cells_Sym : Code := Go.Proofs.Tryd.f32.body.getD .skip
def tb_cells_Sym : Tb := [(6, ⟨[1, 15, 16, 17], []⟩)]
inductive J_cells_Sym where
  | l6 (addr1 : Int) (h : Int)
def T_cells_Sym (p : El T_api_Prog) (addr : Int) : J_cells_Sym → JT J_cells_Sym (Int)
  | .l6 addr1 h =>
    .br (decide (h < (Int.ofNat (List.length p.1))))
      (.br ((decide ((0 : Int) ≤ h)) && (decide (h < (Int.ofNat (List.length p.1)))))
        (.br (decide (addr1 < (List.getD p.1 (Int.toNat h) (dflt T_api_Sym)).2.1))
          (.leaf h)
        (.jmp (.l6 (IntKind.i64.wrap (addr1 - (List.getD p.1 (Int.toNat h) (dflt T_api_Sym)).2.1)) (IntKind.i64.wrap (h + (1 : Int))))))
      (.no))
    (.leaf (-1 : Int))
def T0_cells_Sym (p : El T_api_Prog) (addr : Int) : JT J_cells_Sym (Int) :=
  .br (decide (addr < (0 : Int)))
    (.leaf (-1 : Int))
  (.br (k_valid_Check p)
    (.br ((v_valid_Check p) != (0 : Int))
      (.leaf (-1 : Int))
    (.jmp (.l6 addr (0 : Int))))
  (.no))
def R_cells_Sym : Int → AV := fun (r : Int) => .d (.int .i64) r
def S_cells_Sym (p : El T_api_Prog) (addr : Int) : J_cells_Sym → Nat × St
  | .l6 addr1 h => (6, ⟨mkTm 32 [(1, .d (.int .i64) addr1), (15, .d (.sl T_api_Sym) p.1), (16, .d (.int .i64) (Int.ofNat (List.length p.1))), (17, .d (.int .i64) h)], []⟩)
theorem en_cells_Sym (p : El T_api_Prog) (addr : Int) (L : Lt) : entryA Go.Proofs.Tryd.prog (clOf t_cells_Sym) tb_cells_Sym Go.Proofs.Tryd.f32 c_cells_Sym L (toForms sg_cells_Sym (p, addr, ())) = (T0_cells_Sym p addr).run (fun v => some (R_cells_Sym v, tps (toForms sg_cells_Sym (p, addr, ())))) fun j => L (S_cells_Sym p addr j).1 (S_cells_Sym p addr j).2 := by kernel_rfl
theorem lp_cells_Sym (p : El T_api_Prog) (addr : Int) : ∀ (L : Lt) (j : J_cells_Sym), procOf (procsF Go.Proofs.Tryd.prog (clOf t_cells_Sym) tb_cells_Sym Go.Proofs.Tryd.f32 c_cells_Sym (toForms sg_cells_Sym (p, addr, ()))) (S_cells_Sym p addr j).1 L (S_cells_Sym p addr j).2 = (T_cells_Sym p addr j).run (fun v => some (R_cells_Sym v, tps (toForms sg_cells_Sym (p, addr, ())))) fun j => L (S_cells_Sym p addr j).1 (S_cells_Sym p addr j).2
  | L, .l6 addr1 h => by kernel_rfl
end Go.Ev
end

section
set_option linter.unusedSectionVars false
set_option linter.unusedVariables false
set_option linter.unusedSimpArgs false
set_option linter.unusedVariables false
set_option linter.unusedSimpArgs false
open Go
namespace Go.Ev
def v_cells_Sym (p : El T_api_Prog) (addr : Int) : Int := if checkC p = 0 then (if addr < 0 then -1 else symW addr 0 p.1) else -1
def k_cells_Sym (p : El T_api_Prog) (addr : Int) : Bool := smallProg p
theorem g_cells_Sym (p : El T_api_Prog) (addr : Int) (hk : k_cells_Sym p addr = true) : Goes (T_cells_Sym p addr) (T0_cells_Sym p addr) (v_cells_Sym p addr) := by
  have loop : List.length p.1 ≤ 64 → ∀ k, k ≤ List.length p.1 → ∀ a : Int, Goes (T_cells_Sym p addr) (.jmp (.l6 a (k : Int))) (symW a k (p.1.drop k)) := by
    intro hlen
    refine down ?_ fun k hk ih => ?_
    · intro a
      rw [goes_jmp]
      simp only [T_cells_Sym, goes_br, lt_len_not (Nat.lt_irrefl _), List.drop_length]
      exact .leaf
    · intro a
      rw [goes_jmp]
      simp only [T_cells_Sym, goes_br, lt_len hk, nng, Bool.and_self, if_true, Int.toNat_natCast, getD_lt hk, wrap_succ (k := k) (by omega)]
      rw [drop_cons hk]
      unfold symW
      split
      · exact .leaf
      · exact ih _
  unfold T0_cells_Sym v_cells_Sym
  have hkc : k_valid_Check p = true := hk
  have loop0 := fun h => loop h 0 (Nat.zero_le _) addr
  by_cases h : checkC p = 0 <;> by_cases ha : addr < 0
  all_goals simp only [goes_br, hkc, if_true, v_valid_Check, h, ha, decide_true, decide_false, bne_self_eq_false]
  · exact .leaf
  · simpa using loop0 (symsOK_of h).len
  all_goals first | exact .leaf | (rw [if_pos (by simpa using h)]; exact .leaf) | (rw [if_neg (by simp), if_pos (by simpa using h)]; exact .leaf)
end Go.Ev
end

section
set_option linter.unusedSectionVars false
set_option linter.unusedVariables false
set_option linter.unusedSimpArgs false
set_option maxRecDepth 100000
set_option linter.unusedVariables false
open Go Go.Ev
namespace Go.Ev
noncomputable def e_cells_Sym : Run := entG sg_cells_Sym R_cells_Sym (fun a => k_cells_Sym a.1 a.2.1) (fun a => v_cells_Sym a.1 a.2.1)
theorem ok_cells_Sym : EntOK Go.Proofs.Tryd.prog 32 e_cells_Sym := entG_ok (tb := tb_cells_Sym) (c := c_cells_Sym) tk_cells_Sym (by kernel_rfl) (by kernel_rfl) (by kernel_rfl) (fun a => by kernel_rfl) fun ⟨p, addr, _⟩ hk => evF_goes (c := c_cells_Sym) (K := fun v => (R_cells_Sym v, tps (toForms sg_cells_Sym (p, addr, ())))) (S := S_cells_Sym p addr) (by kernel_rfl) (en_cells_Sym p addr) (lp_cells_Sym p addr) (g_cells_Sym p addr hk)
end Go.Ev
end

section
set_option linter.unusedSectionVars false
set_option linter.unusedVariables false
set_option linter.unusedSimpArgs false
set_option maxRecDepth 100000
set_option linter.unusedVariables false
open Go Go.Ev
namespace Go.Ev
/-! ### paling/palingref2.Sym -/
def sg_ref2_Sym : Sig := [(true, T_api_Prog), (false, (.int .i64))]
noncomputable def t_ref2_Sym : Tbl := [(40, e_ref1_Check)]
theorem tk_ref2_Sym : ∀ p ∈ t_ref2_Sym, EntOK Go.Proofs.Tryd.prog p.1 p.2 := tbl_cons ok_ref1_Check (tbl_nil)
noncomputable def c_ref2_Sym : Code := Go.Proofs.Tryd.f51.body.getD .skip
def tb_ref2_Sym : Tb := [(6, ⟨[1, 2, 5], []⟩)]
inductive J_ref2_Sym where
  | l6 (addr1 : Int) (i : Int)
def T_ref2_Sym (p : El T_api_Prog) (addr : Int) : J_ref2_Sym → JT J_ref2_Sym (Int)
  | .l6 addr1 i =>
    .br (decide (i < (Int.ofNat (List.length p.1))))
      (.br ((decide ((0 : Int) ≤ i)) && (decide (i < (Int.ofNat (List.length p.1)))))
        (.br (decide (addr1 < (List.getD p.1 (Int.toNat i) (dflt T_api_Sym)).2.1))
          (.leaf i)
        (.br ((decide ((0 : Int) ≤ i)) && (decide (i < (Int.ofNat (List.length p.1)))))
          (.jmp (.l6 (IntKind.i64.wrap (addr1 - (List.getD p.1 (Int.toNat i) (dflt T_api_Sym)).2.1)) (IntKind.i64.wrap (i + (1 : Int)))))
        (.no)))
      (.no))
    (.leaf (-1 : Int))
def T0_ref2_Sym (p : El T_api_Prog) (addr : Int) : JT J_ref2_Sym (Int) :=
  .br (k_ref1_Check p)
    (.br ((v_ref1_Check p) != (0 : Int))
      (.leaf (-1 : Int))
    (.br (decide (addr < (0 : Int)))
      (.leaf (-1 : Int))
    (.jmp (.l6 addr (0 : Int)))))
  (.no)
def R_ref2_Sym : Int → AV := fun (r : Int) => .d (.int .i64) r
def S_ref2_Sym (p : El T_api_Prog) (addr : Int) : J_ref2_Sym → Nat × St
  | .l6 addr1 i => (6, ⟨mkTm 37 [(1, .d (.int .i64) addr1), (2, .pt 3 0 0), (5, .d (.int .i64) i)], [(3, 0, .box 25 [.d (.sl T_api_Sym) p.1, .d (.sl (.sl T_api_Ins)) p.2] none)]⟩)
theorem en_ref2_Sym (p : El T_api_Prog) (addr : Int) (L : Lt) : entryA Go.Proofs.Tryd.prog (clOf t_ref2_Sym) tb_ref2_Sym Go.Proofs.Tryd.f51 c_ref2_Sym L (toForms sg_ref2_Sym (p, addr, ())) = (T0_ref2_Sym p addr).run (fun v => some (R_ref2_Sym v, tps (toForms sg_ref2_Sym (p, addr, ())))) fun j => L (S_ref2_Sym p addr j).1 (S_ref2_Sym p addr j).2 := by kernel_rfl
theorem lp_ref2_Sym (p : El T_api_Prog) (addr : Int) : ∀ (L : Lt) (j : J_ref2_Sym), procOf (procsF Go.Proofs.Tryd.prog (clOf t_ref2_Sym) tb_ref2_Sym Go.Proofs.Tryd.f51 c_ref2_Sym (toForms sg_ref2_Sym (p, addr, ()))) (S_ref2_Sym p addr j).1 L (S_ref2_Sym p addr j).2 = (T_ref2_Sym p addr j).run (fun v => some (R_ref2_Sym v, tps (toForms sg_ref2_Sym (p, addr, ())))) fun j => L (S_ref2_Sym p addr j).1 (S_ref2_Sym p addr j).2
  | L, .l6 addr1 i => by kernel_rfl
end Go.Ev
end

section
set_option linter.unusedSectionVars false
set_option linter.unusedVariables false
set_option linter.unusedSimpArgs false
set_option linter.unusedVariables false
set_option linter.unusedSimpArgs false
open Go
namespace Go.Ev
def v_ref2_Sym (p : El T_api_Prog) (addr : Int) : Int := if checkC p = 0 then (if addr < 0 then -1 else symW addr 0 p.1) else -1
def k_ref2_Sym (p : El T_api_Prog) (addr : Int) : Bool := smallProg p
theorem g_ref2_Sym (p : El T_api_Prog) (addr : Int) (hk : k_ref2_Sym p addr = true) : Goes (T_ref2_Sym p addr) (T0_ref2_Sym p addr) (v_ref2_Sym p addr) := by
  have loop : List.length p.1 ≤ 64 → ∀ k, k ≤ List.length p.1 → ∀ a : Int, Goes (T_ref2_Sym p addr) (.jmp (.l6 a (k : Int))) (symW a k (p.1.drop k)) := by
    intro hlen
    refine down ?_ fun k hk ih => ?_
    · intro a
      rw [goes_jmp]
      simp only [T_ref2_Sym, goes_br, lt_len_not (Nat.lt_irrefl _), List.drop_length]
      exact .leaf
    · intro a
      rw [goes_jmp]
      simp only [T_ref2_Sym, goes_br, lt_len hk, nng, Bool.and_self, if_true, Int.toNat_natCast, getD_lt hk, wrap_succ (k := k) (by omega)]
      rw [drop_cons hk]
      unfold symW
      split
      · exact .leaf
      · exact ih _
  unfold T0_ref2_Sym v_ref2_Sym
  have hkc : k_ref1_Check p = true := hk
  have loop0 := fun h => loop h 0 (Nat.zero_le _) addr
  by_cases h : checkC p = 0 <;> by_cases ha : addr < 0
  all_goals simp only [goes_br, hkc, if_true, v_ref1_Check, h, ha, decide_true, decide_false, bne_self_eq_false]
  · exact .leaf
  · simpa using loop0 (symsOK_of h).len
  all_goals first | exact .leaf | (rw [if_pos (by simpa using h)]; exact .leaf) | (rw [if_neg (by simp), if_pos (by simpa using h)]; exact .leaf)
end Go.Ev
end

section
set_option linter.unusedSectionVars false
set_option linter.unusedVariables false
set_option linter.unusedSimpArgs false
set_option maxRecDepth 100000
set_option linter.unusedVariables false
open Go Go.Ev
namespace Go.Ev
noncomputable def e_ref2_Sym : Run := entG sg_ref2_Sym R_ref2_Sym (fun a => k_ref2_Sym a.1 a.2.1) (fun a => v_ref2_Sym a.1 a.2.1)
theorem ok_ref2_Sym : EntOK Go.Proofs.Tryd.prog 51 e_ref2_Sym := entG_ok (tb := tb_ref2_Sym) (c := c_ref2_Sym) tk_ref2_Sym (by kernel_rfl) (by kernel_rfl) (by kernel_rfl) (fun a => by kernel_rfl) fun ⟨p, addr, _⟩ hk => evF_goes (c := c_ref2_Sym) (K := fun v => (R_ref2_Sym v, tps (toForms sg_ref2_Sym (p, addr, ())))) (S := S_ref2_Sym p addr) (by kernel_rfl) (en_ref2_Sym p addr) (lp_ref2_Sym p addr) (g_ref2_Sym p addr hk)
end Go.Ev
end

section
set_option linter.unusedSectionVars false
set_option linter.unusedVariables false
set_option linter.unusedSimpArgs false
set_option maxRecDepth 100000
set_option linter.unusedVariables false
open Go Go.Ev
namespace Go.Ev
/-! ### paling/cells.Start -/
def sg_cells_Start : Sig := [(true, T_api_Prog)]
noncomputable def t_cells_Start : Tbl := [(36, e_valid_Check)]
theorem tk_cells_Start : ∀ p ∈ t_cells_Start, EntOK Go.Proofs.Tryd.prog p.1 p.2 := tbl_cons ok_valid_Check (tbl_nil)
noncomputable def c_cells_Start : Code := Go.Proofs.Tryd.f34.body.getD .skip
def tb_cells_Start : Tb := [(7, ⟨[3, 10, 11, 12], [(4, 114)]⟩), (hintK, ⟨[], [(1, 114)]⟩)]
inductive J_cells_Start where
  | l7 (h : Int) (out : List Int)
def T_cells_Start (p : El T_api_Prog) : J_cells_Start → JT J_cells_Start (List Int)
  | .l7 h out =>
    .br (decide (h < (Int.ofNat (List.length p.1))))
      (.br ((decide ((0 : Int) ≤ h)) && (decide (h < (Int.ofNat (List.length p.1)))))
        (.br (Nat.ble (((List.length out) + (List.length (List.getD p.1 (Int.toNat h) (dflt T_api_Sym)).2.2)) * 8) limit)
          (.br ((decide ((0 : Int) ≤ (IntKind.i64.wrap ((List.getD p.1 (Int.toNat h) (dflt T_api_Sym)).2.1 - (Int.ofNat (List.length (List.getD p.1 (Int.toNat h) (dflt T_api_Sym)).2.2)))))) && (decide (((IntKind.i64.wrap ((List.getD p.1 (Int.toNat h) (dflt T_api_Sym)).2.1 - (Int.ofNat (List.length (List.getD p.1 (Int.toNat h) (dflt T_api_Sym)).2.2)))) * (8 : Int)) ≤ (limit : Int))))
            (.br (Nat.ble (((List.length (out ++ (List.getD p.1 (Int.toNat h) (dflt T_api_Sym)).2.2)) + (List.length (List.replicate (Int.toNat (IntKind.i64.wrap ((List.getD p.1 (Int.toNat h) (dflt T_api_Sym)).2.1 - (Int.ofNat (List.length (List.getD p.1 (Int.toNat h) (dflt T_api_Sym)).2.2))))) (0 : Int)))) * 8) limit)
              (.jmp (.l7 (IntKind.i64.wrap (h + (1 : Int))) ((out ++ (List.getD p.1 (Int.toNat h) (dflt T_api_Sym)).2.2) ++ (List.replicate (Int.toNat (IntKind.i64.wrap ((List.getD p.1 (Int.toNat h) (dflt T_api_Sym)).2.1 - (Int.ofNat (List.length (List.getD p.1 (Int.toNat h) (dflt T_api_Sym)).2.2))))) (0 : Int)))))
            (.no))
          (.no))
        (.no))
      (.no))
    (.leaf out)
def T0_cells_Start (p : El T_api_Prog) : JT J_cells_Start (List Int) :=
  .br (k_valid_Check p)
    (.br ((v_valid_Check p) != (0 : Int))
      (.leaf [])
    (.jmp (.l7 (0 : Int) [])))
  (.no)
def R_cells_Start : List Int → AV := fun (r : List Int) => .rw 2 (.int .i64) r
def S_cells_Start (p : El T_api_Prog) : J_cells_Start → Nat × St
  | .l7 h out => (7, ⟨mkTm 30 [(3, .own 4 0 none), (10, .d (.sl T_api_Sym) p.1), (11, .d (.int .i64) (Int.ofNat (List.length p.1))), (12, .d (.int .i64) h)], [(4, 0, .row 2 (.int .i64) out false)]⟩)
theorem en_cells_Start (p : El T_api_Prog) (L : Lt) : entryA Go.Proofs.Tryd.prog (clOf t_cells_Start) tb_cells_Start Go.Proofs.Tryd.f34 c_cells_Start L (toForms sg_cells_Start (p, ())) = (T0_cells_Start p).run (fun v => some (R_cells_Start v, tps (toForms sg_cells_Start (p, ())))) fun j => L (S_cells_Start p j).1 (S_cells_Start p j).2 := by kernel_rfl
theorem lp_cells_Start (p : El T_api_Prog) : ∀ (L : Lt) (j : J_cells_Start), procOf (procsF Go.Proofs.Tryd.prog (clOf t_cells_Start) tb_cells_Start Go.Proofs.Tryd.f34 c_cells_Start (toForms sg_cells_Start (p, ()))) (S_cells_Start p j).1 L (S_cells_Start p j).2 = (T_cells_Start p j).run (fun v => some (R_cells_Start v, tps (toForms sg_cells_Start (p, ())))) fun j => L (S_cells_Start p j).1 (S_cells_Start p j).2
  | L, .l7 h out => by kernel_rfl
end Go.Ev
end

section
set_option linter.unusedSectionVars false
set_option linter.unusedVariables false
set_option linter.unusedSimpArgs false
set_option linter.unusedVariables false
set_option linter.unusedSimpArgs false
open Go
namespace Go.Ev
def v_cells_Start (p : El T_api_Prog) : List Int := if checkC p = 0 then startC p.1 else []
def k_cells_Start (p : El T_api_Prog) : Bool := smallProg p
theorem g_cells_Start (p : El T_api_Prog) (hk : k_cells_Start p = true) : Goes (T_cells_Start p) (T0_cells_Start p) (v_cells_Start p) := by
  have loop : SymsOK p.1 → ∀ k, k ≤ List.length p.1 → ∀ out : List Int, out.length ≤ 64 * k → Goes (T_cells_Start p) (.jmp (.l7 (k : Int) out)) (out ++ startC (p.1.drop k)) := by
    intro hs
    have hlen := hs.len
    refine down ?_ fun k hk ih => ?_
    · intro out ho
      rw [goes_jmp]
      simp only [T_cells_Start, goes_br, lt_len_not (Nat.lt_irrefl _), List.drop_length]
      rw [show startC [] = [] from rfl, List.append_nil]
      exact .leaf
    · intro out ho
      rw [goes_jmp]
      have hmem : p.1[k] ∈ p.1 := List.getElem_mem hk
      have h1 : (1 : Int) ≤ (show Int from (p.1[k]).2.1) := hs.lo _ hmem
      have h2 : (show Int from (p.1[k]).2.1) ≤ 64 := hs.hi _ hmem
      have h3 : (List.length (p.1[k]).2.2 : Int) ≤ (show Int from (p.1[k]).2.1) := hs.init _ hmem
      obtain ⟨d, hd, hd64, hw⟩ : ∃ d : Nat, ((List.length (p.1[k]).2.2 : Int)) + d = (show Int from (p.1[k]).2.1) ∧ List.length (p.1[k]).2.2 + d ≤ 64 ∧ IntKind.i64.wrap ((show Int from (p.1[k]).2.1) - Int.ofNat (List.length (p.1[k]).2.2)) = (d : Int) := by
        have gen : ∀ (x : Int) (m : Nat), 1 ≤ x → x ≤ 64 → (m : Int) ≤ x → ∃ d : Nat, (m : Int) + d = x ∧ m + d ≤ 64 ∧ IntKind.i64.wrap (x - Int.ofNat m) = (d : Int) := fun x m a b c => by
          refine ⟨(x - m).toNat, by omega, by omega, ?_⟩
          rw [wrap_i64 (by simp; omega) (by simp; omega)]
          simp; omega
        exact gen _ _ h1 h2 h3
      change IntKind.i64.wrap ((p.1[k]).2.1 - Int.ofNat (List.length (p.1[k]).2.2)) = (d : Int) at hw
      have b1 : Nat.ble ((out.length + List.length (p.1[k]).2.2) * 8) limit = true := Nat.ble_eq_true_of_le (by unfold limit; omega)
      have b2 : Nat.ble (((out ++ (p.1[k]).2.2).length + (List.replicate d (0 : Int)).length) * 8) limit = true := Nat.ble_eq_true_of_le (by rw [List.length_append, List.length_replicate]; unfold limit; omega)
      have b3 : decide ((d : Int) * (8 : Int) ≤ (limit : Int)) = true := decide_eq_true (by unfold limit; omega)
      simp only [T_cells_Start, goes_br, lt_len hk, nng, Bool.and_self, if_true, Int.toNat_natCast, getD_lt hk, wrap_succ (k := k) (by omega), hw, b1, b2, b3]
      rw [drop_cons hk]
      have hc : cellsC p.1[k] = (p.1[k]).2.2 ++ List.replicate d (0 : Int) := by
        unfold cellsC
        have : ((p.1[k]).2.1 - (List.length (p.1[k]).2.2 : Int)).toNat = d := by
          have gen : ∀ (x m : Int), m + d = x → (x - m).toNat = d := fun x m h => by omega
          exact gen _ _ hd
        rw [this]
      have := ih ((out ++ (p.1[k]).2.2) ++ List.replicate d (0 : Int)) (by rw [List.length_append, List.length_append, List.length_replicate]; omega)
      unfold startC at *
      rw [List.flatMap_cons, hc]
      simpa only [List.append_assoc] using this
  unfold T0_cells_Start v_cells_Start
  have hkc : k_valid_Check p = true := hk
  by_cases h : checkC p = 0
  · have := loop (symsOK_of h) 0 (Nat.zero_le _) [] (by simp)
    simp only [goes_br, hkc, if_true, v_valid_Check, h]
    simpa using this
  · simp only [goes_br, hkc, if_true, v_valid_Check]
    rw [if_pos (by simpa using h), if_neg h]
    exact .leaf
end Go.Ev
end

section
set_option linter.unusedSectionVars false
set_option linter.unusedVariables false
set_option linter.unusedSimpArgs false
set_option maxRecDepth 100000
set_option linter.unusedVariables false
open Go Go.Ev
namespace Go.Ev
noncomputable def e_cells_Start : Run := entG sg_cells_Start R_cells_Start (fun a => k_cells_Start a.1) (fun a => v_cells_Start a.1)
theorem ok_cells_Start : EntOK Go.Proofs.Tryd.prog 34 e_cells_Start := entG_ok (tb := tb_cells_Start) (c := c_cells_Start) tk_cells_Start (by kernel_rfl) (by kernel_rfl) (by kernel_rfl) (fun a => by kernel_rfl) fun ⟨p, _⟩ hk => evF_goes (c := c_cells_Start) (K := fun v => (R_cells_Start v, tps (toForms sg_cells_Start (p, ())))) (S := S_cells_Start p) (by kernel_rfl) (en_cells_Start p) (lp_cells_Start p) (g_cells_Start p hk)
end Go.Ev
end

section
set_option linter.unusedSectionVars false
set_option linter.unusedVariables false
set_option linter.unusedSimpArgs false
set_option maxRecDepth 100000
set_option linter.unusedVariables false
open Go Go.Ev
namespace Go.Ev
/-! ### paling/palingref2.start -/
def sg_ref2_start : Sig := [(true, T_api_Prog)]
noncomputable def t_ref2_start : Tbl := []
theorem tk_ref2_start : ∀ p ∈ t_ref2_start, EntOK Go.Proofs.Tryd.prog p.1 p.2 := tbl_nil
noncomputable def c_ref2_start : Code := Go.Proofs.Tryd.f69.body.getD .skip
def tb_ref2_start : Tb := [(4, ⟨[1, 3, 4], [(4, 114)]⟩), (9, ⟨[1, 3, 4, 5], [(4, 114)]⟩)]
inductive J_ref2_start where
  | l4 (i : Int) (out : List Int)
  | l9 (k : Int) (out : List Int) (i : Int)
def T_ref2_start (p : El T_api_Prog) : J_ref2_start → JT J_ref2_start (List Int)
  | .l4 i out =>
    .br (decide (i < (Int.ofNat (List.length p.1))))
      (.jmp (.l9 (0 : Int) out i))
    (.leaf out)
  | .l9 k out i =>
    .br ((decide ((0 : Int) ≤ i)) && (decide (i < (Int.ofNat (List.length p.1)))))
      (.br (decide (k < (List.getD p.1 (Int.toNat i) (dflt T_api_Sym)).2.1))
        (.br ((decide ((0 : Int) ≤ i)) && (decide (i < (Int.ofNat (List.length p.1)))))
          (.br (decide (k < (Int.ofNat (List.length (List.getD p.1 (Int.toNat i) (dflt T_api_Sym)).2.2))))
            (.br ((decide ((0 : Int) ≤ i)) && (decide (i < (Int.ofNat (List.length p.1)))))
              (.br ((decide ((0 : Int) ≤ k)) && (decide (k < (Int.ofNat (List.length (List.getD p.1 (Int.toNat i) (dflt T_api_Sym)).2.2)))))
                (.br (Nat.ble (((List.length out) + 1) * 8) limit)
                  (.jmp (.l9 (IntKind.i64.wrap (k + (1 : Int))) (out ++ [(List.getD (List.getD p.1 (Int.toNat i) (dflt T_api_Sym)).2.2 (Int.toNat k) (dflt (.int .i64)))]) i))
                (.no))
              (.no))
            (.no))
          (.br (Nat.ble (((List.length out) + 1) * 8) limit)
            (.jmp (.l9 (IntKind.i64.wrap (k + (1 : Int))) (out ++ [(0 : Int)]) i))
          (.no)))
        (.no))
      (.jmp (.l4 (IntKind.i64.wrap (i + (1 : Int))) out)))
    (.no)
def T0_ref2_start (p : El T_api_Prog) : JT J_ref2_start (List Int) :=
  .jmp (.l4 (0 : Int) [])
def R_ref2_start : List Int → AV := fun (r : List Int) => .rw 2 (.int .i64) r
def S_ref2_start (p : El T_api_Prog) : J_ref2_start → Nat × St
  | .l4 i out => (4, ⟨mkTm 47 [(1, .pt 2 0 0), (3, .own 4 0 none), (4, .d (.int .i64) i)], [(2, 0, .box 25 [.d (.sl T_api_Sym) p.1, .d (.sl (.sl T_api_Ins)) p.2] none), (4, 0, .row 2 (.int .i64) out false)]⟩)
  | .l9 k out i => (9, ⟨mkTm 47 [(1, .pt 2 0 0), (3, .own 4 0 none), (4, .d (.int .i64) i), (5, .d (.int .i64) k)], [(2, 0, .box 25 [.d (.sl T_api_Sym) p.1, .d (.sl (.sl T_api_Ins)) p.2] none), (4, 0, .row 2 (.int .i64) out false)]⟩)
theorem en_ref2_start (p : El T_api_Prog) (L : Lt) : entryA Go.Proofs.Tryd.prog (clOf t_ref2_start) tb_ref2_start Go.Proofs.Tryd.f69 c_ref2_start L (toForms sg_ref2_start (p, ())) = (T0_ref2_start p).run (fun v => some (R_ref2_start v, tps (toForms sg_ref2_start (p, ())))) fun j => L (S_ref2_start p j).1 (S_ref2_start p j).2 := by kernel_rfl
theorem lp_ref2_start (p : El T_api_Prog) : ∀ (L : Lt) (j : J_ref2_start), procOf (procsF Go.Proofs.Tryd.prog (clOf t_ref2_start) tb_ref2_start Go.Proofs.Tryd.f69 c_ref2_start (toForms sg_ref2_start (p, ()))) (S_ref2_start p j).1 L (S_ref2_start p j).2 = (T_ref2_start p j).run (fun v => some (R_ref2_start v, tps (toForms sg_ref2_start (p, ())))) fun j => L (S_ref2_start p j).1 (S_ref2_start p j).2
  | L, .l4 i out => by kernel_rfl
  | L, .l9 k out i => by kernel_rfl
end Go.Ev
end

section
set_option linter.unusedSectionVars false
set_option linter.unusedVariables false
set_option linter.unusedSimpArgs false
set_option linter.unusedVariables false
set_option linter.unusedSimpArgs false
open Go
namespace Go.Ev
def v_ref2_start (p : El T_api_Prog) : List Int := startC p.1
def k_ref2_start (p : El T_api_Prog) : Bool := decide (checkC p = 0)
theorem g_ref2_start (p : El T_api_Prog) (hk : k_ref2_start p = true) : Goes (T_ref2_start p) (T0_ref2_start p) (v_ref2_start p) := by
  have hs := symsOK_of (of_decide_eq_true hk)
  have hlen := hs.len
  have loop : ∀ k, k ≤ List.length p.1 → ∀ out : List Int, out.length ≤ 64 * k → Goes (T_ref2_start p) (.jmp (.l4 (k : Int) out)) (out ++ startC (p.1.drop k)) := by
    refine down ?_ fun k hk ih => ?_
    · intro out ho
      rw [goes_jmp]
      simp only [T_ref2_start, goes_br, lt_len_not (Nat.lt_irrefl _), List.drop_length]
      rw [show startC [] = [] from rfl, List.append_nil]
      exact .leaf
    · intro out ho
      rw [goes_jmp]
      have hmem : p.1[k] ∈ p.1 := List.getElem_mem hk
      have h2 : (show Int from (p.1[k]).2.1) ≤ 64 := hs.hi _ hmem
      have hl : ((cellsC p.1[k]).length : Int) = (show Int from (p.1[k]).2.1) := cellsC_len (hs.init _ hmem)
      obtain ⟨m, hm⟩ : ∃ m, (cellsC p.1[k]).length = m := ⟨_, rfl⟩
      rw [hm] at hl
      have hm64 : m ≤ 64 := by omega
      have inner : ∀ j, j ≤ m → ∀ o : List Int, o.length + m ≤ out.length + m + j → Goes (T_ref2_start p) (.jmp (.l9 (j : Int) o (k : Int))) (o ++ ((cellsC p.1[k]).drop j ++ startC (p.1.drop (k + 1)))) := by
        have hsz : (p.1[k]).2.1 = (m : Int) := hl.symm
        refine down ?_ fun j hj ihj => ?_
        · intro o ho2
          rw [goes_jmp]
          have e : decide ((m : Int) < (m : Int)) = false := by simp
          simp only [T_ref2_start, goes_br, lt_len hk, nng, Bool.and_self, if_true, Int.toNat_natCast, getD_lt hk, hsz, e, wrap_succ (k := k) (by omega)]
          rw [List.drop_eq_nil_of_le (by omega), List.nil_append]
          exact ih o (by omega)
        · intro o ho2
          rw [goes_jmp]
          have e : decide ((j : Int) < (m : Int)) = true := by simp; omega
          have b1 : Nat.ble ((o.length + 1) * 8) limit = true := Nat.ble_eq_true_of_le (by unfold limit; omega)
          have hjc : j < (cellsC p.1[k]).length := by omega
          rw [drop_cons hjc]
          have step : ∀ x : Int, (cellsC p.1[k])[j] = x → Goes (T_ref2_start p) (.jmp (.l9 ((j + 1 : Nat) : Int) (o ++ [x]) (k : Int))) (o ++ ((cellsC p.1[k])[j] :: List.drop (j + 1) (cellsC p.1[k]) ++ startC (p.1.drop (k + 1)))) := by
            rintro x rfl
            have := ihj (o ++ [(cellsC p.1[k])[j]]) (by rw [List.length_append, List.length_singleton]; omega)
            simpa only [List.append_assoc, List.cons_append, List.nil_append] using this
          by_cases hji : j < List.length (p.1[k]).2.2
          · simp only [T_ref2_start, goes_br, lt_len hk, nng, Bool.and_self, if_true, Int.toNat_natCast, getD_lt hk, hsz, e, wrap_succ (k := j) (by omega), lt_len hji, getD_lt hji, b1]
            refine step _ ?_
            exact getApp1 hjc hji
          · simp only [T_ref2_start, goes_br, lt_len hk, nng, Bool.and_self, if_true, Int.toNat_natCast, getD_lt hk, hsz, e, wrap_succ (k := j) (by omega), lt_len_not hji, b1]
            refine step _ ?_
            exact getApp2 hjc hji
      simp only [T_ref2_start, goes_br, lt_len hk, if_true]
      rw [drop_cons hk]
      have := inner 0 (Nat.zero_le _) out (by omega)
      unfold startC at *
      rw [List.flatMap_cons]
      exact this
  unfold T0_ref2_start v_ref2_start
  have := loop 0 (Nat.zero_le _) [] (by simp)
  simpa using this
end Go.Ev
end

section
set_option linter.unusedSectionVars false
set_option linter.unusedVariables false
set_option linter.unusedSimpArgs false
set_option maxRecDepth 100000
set_option linter.unusedVariables false
open Go Go.Ev
namespace Go.Ev
noncomputable def e_ref2_start : Run := entG sg_ref2_start R_ref2_start (fun a => k_ref2_start a.1) (fun a => v_ref2_start a.1)
theorem ok_ref2_start : EntOK Go.Proofs.Tryd.prog 69 e_ref2_start := entG_ok (tb := tb_ref2_start) (c := c_ref2_start) tk_ref2_start (by kernel_rfl) (by kernel_rfl) (by kernel_rfl) (fun a => by kernel_rfl) fun ⟨p, _⟩ hk => evF_goes (c := c_ref2_start) (K := fun v => (R_ref2_start v, tps (toForms sg_ref2_start (p, ())))) (S := S_ref2_start p) (by kernel_rfl) (en_ref2_start p) (lp_ref2_start p) (g_ref2_start p hk)
end Go.Ev
end

section
set_option linter.unusedSectionVars false
set_option linter.unusedVariables false
set_option linter.unusedSimpArgs false
set_option maxRecDepth 100000
set_option linter.unusedVariables false
open Go Go.Ev
namespace Go.Ev
/-! ### paling/palingref2.Start -/
def sg_ref2_Start : Sig := [(true, T_api_Prog)]
noncomputable def t_ref2_Start : Tbl := [(40, e_ref1_Check), (69, e_ref2_start)]
theorem tk_ref2_Start : ∀ p ∈ t_ref2_Start, EntOK Go.Proofs.Tryd.prog p.1 p.2 := tbl_cons ok_ref1_Check (tbl_cons ok_ref2_start (tbl_nil))
noncomputable def c_ref2_Start : Code := Go.Proofs.Tryd.f52.body.getD .skip
def tb_ref2_Start : Tb := [(hintK, ⟨[], [(1, 114)]⟩)]
def T_ref2_Start (p : El T_api_Prog) : Empty → JT Empty (List Int) := fun j => nomatch j
def T0_ref2_Start (p : El T_api_Prog) : JT Empty (List Int) :=
  .br (k_ref1_Check p)
    (.br ((v_ref1_Check p) != (0 : Int))
      (.leaf [])
    (.br (k_ref2_start p)
      (.leaf (v_ref2_start p))
    (.no)))
  (.no)
def v_ref2_Start (p : El T_api_Prog) : List Int :=
  bif (k_ref1_Check p) then
    bif ((v_ref1_Check p) != (0 : Int)) then
      []
    else bif (k_ref2_start p) then
      (v_ref2_start p)
    else []
  else []
def k_ref2_Start (p : El T_api_Prog) : Bool :=
  bif (k_ref1_Check p) then
    bif ((v_ref1_Check p) != (0 : Int)) then
      true
    else bif (k_ref2_start p) then
      true
    else false
  else false
theorem g_ref2_Start (p : El T_api_Prog) (hk : k_ref2_Start p = true) : Goes (T_ref2_Start p) (T0_ref2_Start p) (v_ref2_Start p) :=
  Goes.brk hk (fun hk =>
    Goes.brk hk (fun hk =>
      Goes.leaf) (fun hk =>
      Goes.brk hk (fun hk =>
        Goes.leaf) (fun hk =>
        Goes.nok hk))) (fun hk =>
    Goes.nok hk)
def R_ref2_Start : List Int → AV := fun (r : List Int) => .rw 2 (.int .i64) r
def S_ref2_Start (p : El T_api_Prog) : Empty → Nat × St := fun j => nomatch j
theorem en_ref2_Start (p : El T_api_Prog) (L : Lt) : entryA Go.Proofs.Tryd.prog (clOf t_ref2_Start) tb_ref2_Start Go.Proofs.Tryd.f52 c_ref2_Start L (toForms sg_ref2_Start (p, ())) = (T0_ref2_Start p).run (fun v => some (R_ref2_Start v, tps (toForms sg_ref2_Start (p, ())))) fun j => L (S_ref2_Start p j).1 (S_ref2_Start p j).2 := by kernel_rfl
theorem lp_ref2_Start (p : El T_api_Prog) : ∀ (L : Lt) (j : Empty), procOf (procsF Go.Proofs.Tryd.prog (clOf t_ref2_Start) tb_ref2_Start Go.Proofs.Tryd.f52 c_ref2_Start (toForms sg_ref2_Start (p, ()))) (S_ref2_Start p j).1 L (S_ref2_Start p j).2 = (T_ref2_Start p j).run (fun v => some (R_ref2_Start v, tps (toForms sg_ref2_Start (p, ())))) fun j => L (S_ref2_Start p j).1 (S_ref2_Start p j).2 := fun L j => nomatch j
noncomputable def e_ref2_Start : Run := entG sg_ref2_Start R_ref2_Start (fun a => k_ref2_Start a.1) (fun a => v_ref2_Start a.1)
theorem ok_ref2_Start : EntOK Go.Proofs.Tryd.prog 52 e_ref2_Start := entG_ok (tb := tb_ref2_Start) (c := c_ref2_Start) tk_ref2_Start (by kernel_rfl) (by kernel_rfl) (by kernel_rfl) (fun a => by kernel_rfl) fun ⟨p, _⟩ hk => evF_goes (c := c_ref2_Start) (K := fun v => (R_ref2_Start v, tps (toForms sg_ref2_Start (p, ())))) (S := S_ref2_Start p) (by kernel_rfl) (en_ref2_Start p) (lp_ref2_Start p) (g_ref2_Start p hk)
end Go.Ev
end

section
set_option linter.unusedSectionVars false
set_option linter.unusedVariables false
set_option linter.unusedSimpArgs false
set_option maxRecDepth 100000
set_option linter.unusedVariables false
open Go Go.Ev
namespace Go.Ev
/-! ### paling/palingbook.SameCells -/
def sg_book_SameCells : Sig := [(false, (.sl (.int .i64))), (false, (.sl (.int .i64)))]
noncomputable def t_book_SameCells : Tbl := []
theorem tk_book_SameCells : ∀ p ∈ t_book_SameCells, EntOK Go.Proofs.Tryd.prog p.1 p.2 := tbl_nil
noncomputable def c_book_SameCells : Code := Go.Proofs.Tryd.f47.body.getD .skip
def tb_book_SameCells : Tb := [(6, ⟨[0, 1, 5], []⟩)]
inductive J_book_SameCells where
  | l6 (i : Int)
def T_book_SameCells (a : List Int) (b : List Int) : J_book_SameCells → JT J_book_SameCells (Bool)
  | .l6 i =>
    .br (decide (i < (Int.ofNat (List.length a))))
      (.br ((decide ((0 : Int) ≤ i)) && (decide (i < (Int.ofNat (List.length a)))))
        (.br ((decide ((0 : Int) ≤ i)) && (decide (i < (Int.ofNat (List.length b)))))
          (.br ((List.getD a (Int.toNat i) (dflt (.int .i64))) != (List.getD b (Int.toNat i) (dflt (.int .i64))))
            (.leaf false)
          (.jmp (.l6 (IntKind.i64.wrap (i + (1 : Int))))))
        (.no))
      (.no))
    (.leaf true)
def T0_book_SameCells (a : List Int) (b : List Int) : JT J_book_SameCells (Bool) :=
  .br ((Int.ofNat (List.length a)) != (Int.ofNat (List.length b)))
    (.leaf false)
  (.jmp (.l6 (0 : Int)))
def R_book_SameCells : Bool → AV := fun (r : Bool) => .d .bool r
def S_book_SameCells (a : List Int) (b : List Int) : J_book_SameCells → Nat × St
  | .l6 i => (6, ⟨mkTm 26 [(0, .d (.sl (.int .i64)) a), (1, .d (.sl (.int .i64)) b), (5, .d (.int .i64) i)], []⟩)
theorem en_book_SameCells (a : List Int) (b : List Int) (L : Lt) : entryA Go.Proofs.Tryd.prog (clOf t_book_SameCells) tb_book_SameCells Go.Proofs.Tryd.f47 c_book_SameCells L (toForms sg_book_SameCells (a, b, ())) = (T0_book_SameCells a b).run (fun v => some (R_book_SameCells v, tps (toForms sg_book_SameCells (a, b, ())))) fun j => L (S_book_SameCells a b j).1 (S_book_SameCells a b j).2 := by kernel_rfl
theorem lp_book_SameCells (a : List Int) (b : List Int) : ∀ (L : Lt) (j : J_book_SameCells), procOf (procsF Go.Proofs.Tryd.prog (clOf t_book_SameCells) tb_book_SameCells Go.Proofs.Tryd.f47 c_book_SameCells (toForms sg_book_SameCells (a, b, ()))) (S_book_SameCells a b j).1 L (S_book_SameCells a b j).2 = (T_book_SameCells a b j).run (fun v => some (R_book_SameCells v, tps (toForms sg_book_SameCells (a, b, ())))) fun j => L (S_book_SameCells a b j).1 (S_book_SameCells a b j).2
  | L, .l6 i => by kernel_rfl
end Go.Ev
end

section
set_option linter.unusedSectionVars false
set_option linter.unusedVariables false
set_option linter.unusedSimpArgs false
set_option linter.unusedVariables false
set_option linter.unusedSimpArgs false
open Go
namespace Go.Ev
theorem intB_eq2 {a b : Int} : (a == b) = decide (a = b) := by rw [Bool.eq_iff_iff]; simp

def v_book_SameCells (a b : List Int) : Bool := decide (a = b)
def k_book_SameCells (a b : List Int) : Bool := decide (a.length < 4611686018427387904)
theorem g_book_SameCells (a b : List Int) (hk : k_book_SameCells a b = true) : Goes (T_book_SameCells a b) (T0_book_SameCells a b) (v_book_SameCells a b) := by
  have hn : a.length < 4611686018427387904 := of_decide_eq_true hk
  have loop : a.length = b.length → ∀ k, k ≤ a.length → Goes (T_book_SameCells a b) (.jmp (.l6 (k : Int))) (decide (a.drop k = b.drop k)) := by
    intro he
    refine down ?_ fun k hk ih => ?_
    · rw [goes_jmp]
      simp [T_book_SameCells, goes_br, goes_leaf, he]
    · rw [goes_jmp]
      have hkb : k < b.length := he ▸ hk
      simp only [T_book_SameCells, goes_br, lt_len hk, lt_len hkb, nng, Bool.and_self, if_true, Int.toNat_natCast, getD_lt hk, getD_lt hkb, wrap_succ (k := k) (by omega)]
      rw [drop_cons hk, drop_cons hkb]
      split
      · rename_i h1
        have h2 : (! decide (a[k] = b[k])) = true := (congrArg Bool.not intB_eq2).symm.trans h1
        have h3 : ¬ a[k] = b[k] := by simpa using h2
        rw [decide_eq_false (fun e => h3 (List.cons.inj e).1)]
        exact .leaf
      · rename_i h1
        have h2 : ¬ (! decide (a[k] = b[k])) = true := fun h => h1 ((congrArg Bool.not intB_eq2).trans h)
        have h3 : a[k] = b[k] := by simpa using h2
        rw [show decide (a[k] :: List.drop (k + 1) a = b[k] :: List.drop (k + 1) b) = decide (List.drop (k + 1) a = List.drop (k + 1) b) from decide_eq_decide.2 ⟨fun e => (List.cons.inj e).2, fun e => by rw [h3, e]⟩]
        exact ih
  unfold T0_book_SameCells v_book_SameCells
  rw [goes_br]
  by_cases h : a.length = b.length
  · have := loop h 0 (Nat.zero_le _)
    simpa [h] using this
  · have : a ≠ b := fun e => h (congrArg _ e)
    rw [if_pos (by simp; omega), decide_eq_false this]
    exact .leaf

end Go.Ev
end

section
set_option linter.unusedSectionVars false
set_option linter.unusedVariables false
set_option linter.unusedSimpArgs false
set_option maxRecDepth 100000
set_option linter.unusedVariables false
open Go Go.Ev
namespace Go.Ev
noncomputable def e_book_SameCells : Run := entG sg_book_SameCells R_book_SameCells (fun a => k_book_SameCells a.1 a.2.1) (fun a => v_book_SameCells a.1 a.2.1)
theorem ok_book_SameCells : EntOK Go.Proofs.Tryd.prog 47 e_book_SameCells := entG_ok (tb := tb_book_SameCells) (c := c_book_SameCells) tk_book_SameCells (by kernel_rfl) (by kernel_rfl) (by kernel_rfl) (fun a => by kernel_rfl) fun ⟨a, b, _⟩ hk => evF_goes (c := c_book_SameCells) (K := fun v => (R_book_SameCells v, tps (toForms sg_book_SameCells (a, b, ())))) (S := S_book_SameCells a b) (by kernel_rfl) (en_book_SameCells a b) (lp_book_SameCells a b) (g_book_SameCells a b hk)
end Go.Ev
end

section
set_option linter.unusedSectionVars false
set_option linter.unusedVariables false
set_option linter.unusedSimpArgs false
set_option maxRecDepth 100000
set_option linter.unusedVariables false
open Go Go.Ev
namespace Go.Ev
/-! ### paling/palinglaw11.tells -/
def sg_law11_tells : Sig := [(true, T_api_Prog), (false, (.int .i64)), (false, (.int .i64)), (true, T_api_Opd), (true, (.pr (.int .i64) (.pr (.int .i64) (.pr (.int .i64) T_book_Act))))]
noncomputable def t_law11_tells : Tbl := [(31, e_cells_Addr), (48, e_ref2_Addr), (33, e_cells_Size), (49, e_ref2_Size), (30, e_cells_Base), (50, e_ref2_Base), (32, e_cells_Sym), (51, e_ref2_Sym), (34, e_cells_Start), (52, e_ref2_Start), (47, e_book_SameCells)]
theorem tk_law11_tells : ∀ p ∈ t_law11_tells, EntOK Go.Proofs.Tryd.prog p.1 p.2 := tbl_cons ok_cells_Addr (tbl_cons ok_ref2_Addr (tbl_cons ok_cells_Size (tbl_cons ok_ref2_Size (tbl_cons ok_cells_Base (tbl_cons ok_ref2_Base (tbl_cons ok_cells_Sym (tbl_cons ok_ref2_Sym (tbl_cons ok_cells_Start (tbl_cons ok_ref2_Start (tbl_cons ok_book_SameCells (tbl_nil)))))))))))
noncomputable def c_law11_tells : Code := Go.Proofs.Tryd.f27.body.getD .skip
def tb_law11_tells : Tb := []
def T_law11_tells (p : El T_api_Prog) (sym : Int) (addr : Int) (o : El T_api_Opd) (regs : Int × Int × Int × El T_book_Act) : Empty → JT Empty (Bool) := fun j => nomatch j
def T0_law11_tells (p : El T_api_Prog) (sym : Int) (addr : Int) (o : El T_api_Opd) (regs : Int × Int × Int × El T_book_Act) : JT Empty (Bool) :=
  .br (k_cells_Addr p o regs)
    (.br (k_ref2_Addr p o regs)
      (.br ((v_cells_Addr p o regs).1 == (v_ref2_Addr p o regs).1)
        (.br ((v_cells_Addr p o regs).2 == (v_ref2_Addr p o regs).2)
          (.br (k_cells_Size p)
            (.br (k_ref2_Size p)
              (.br ((v_cells_Size p) == (v_ref2_Size p))
                (.br (k_cells_Base p sym)
                  (.br (k_ref2_Base p sym)
                    (.br ((v_cells_Base p sym) == (v_ref2_Base p sym))
                      (.br (k_cells_Sym p addr)
                        (.br (k_ref2_Sym p addr)
                          (.br ((v_cells_Sym p addr) == (v_ref2_Sym p addr))
                            (.br (k_cells_Start p)
                              (.br (k_ref2_Start p)
                                (.br (k_book_SameCells (v_cells_Start p) (v_ref2_Start p))
                                  (.leaf (v_book_SameCells (v_cells_Start p) (v_ref2_Start p)))
                                (.no))
                              (.no))
                            (.no))
                          (.leaf false))
                        (.no))
                      (.no))
                    (.leaf false))
                  (.no))
                (.no))
              (.leaf false))
            (.no))
          (.no))
        (.leaf false))
      (.leaf false))
    (.no))
  (.no)
def v_law11_tells (p : El T_api_Prog) (sym : Int) (addr : Int) (o : El T_api_Opd) (regs : Int × Int × Int × El T_book_Act) : Bool :=
  bif (k_cells_Addr p o regs) then
    bif (k_ref2_Addr p o regs) then
      bif ((v_cells_Addr p o regs).1 == (v_ref2_Addr p o regs).1) then
        bif ((v_cells_Addr p o regs).2 == (v_ref2_Addr p o regs).2) then
          bif (k_cells_Size p) then
            bif (k_ref2_Size p) then
              bif ((v_cells_Size p) == (v_ref2_Size p)) then
                bif (k_cells_Base p sym) then
                  bif (k_ref2_Base p sym) then
                    bif ((v_cells_Base p sym) == (v_ref2_Base p sym)) then
                      bif (k_cells_Sym p addr) then
                        bif (k_ref2_Sym p addr) then
                          bif ((v_cells_Sym p addr) == (v_ref2_Sym p addr)) then
                            bif (k_cells_Start p) then
                              bif (k_ref2_Start p) then
                                bif (k_book_SameCells (v_cells_Start p) (v_ref2_Start p)) then
                                  (v_book_SameCells (v_cells_Start p) (v_ref2_Start p))
                                else false
                              else false
                            else false
                          else false
                        else false
                      else false
                    else false
                  else false
                else false
              else false
            else false
          else false
        else false
      else false
    else false
  else false
def k_law11_tells (p : El T_api_Prog) (sym : Int) (addr : Int) (o : El T_api_Opd) (regs : Int × Int × Int × El T_book_Act) : Bool :=
  bif (k_cells_Addr p o regs) then
    bif (k_ref2_Addr p o regs) then
      bif ((v_cells_Addr p o regs).1 == (v_ref2_Addr p o regs).1) then
        bif ((v_cells_Addr p o regs).2 == (v_ref2_Addr p o regs).2) then
          bif (k_cells_Size p) then
            bif (k_ref2_Size p) then
              bif ((v_cells_Size p) == (v_ref2_Size p)) then
                bif (k_cells_Base p sym) then
                  bif (k_ref2_Base p sym) then
                    bif ((v_cells_Base p sym) == (v_ref2_Base p sym)) then
                      bif (k_cells_Sym p addr) then
                        bif (k_ref2_Sym p addr) then
                          bif ((v_cells_Sym p addr) == (v_ref2_Sym p addr)) then
                            bif (k_cells_Start p) then
                              bif (k_ref2_Start p) then
                                bif (k_book_SameCells (v_cells_Start p) (v_ref2_Start p)) then
                                  true
                                else false
                              else false
                            else false
                          else true
                        else false
                      else false
                    else true
                  else false
                else false
              else true
            else false
          else false
        else true
      else true
    else false
  else false
theorem g_law11_tells (p : El T_api_Prog) (sym : Int) (addr : Int) (o : El T_api_Opd) (regs : Int × Int × Int × El T_book_Act) (hk : k_law11_tells p sym addr o regs = true) : Goes (T_law11_tells p sym addr o regs) (T0_law11_tells p sym addr o regs) (v_law11_tells p sym addr o regs) :=
  Goes.brk hk (fun hk =>
    Goes.brk hk (fun hk =>
      Goes.brk hk (fun hk =>
        Goes.brk hk (fun hk =>
          Goes.brk hk (fun hk =>
            Goes.brk hk (fun hk =>
              Goes.brk hk (fun hk =>
                Goes.brk hk (fun hk =>
                  Goes.brk hk (fun hk =>
                    Goes.brk hk (fun hk =>
                      Goes.brk hk (fun hk =>
                        Goes.brk hk (fun hk =>
                          Goes.brk hk (fun hk =>
                            Goes.brk hk (fun hk =>
                              Goes.brk hk (fun hk =>
                                Goes.brk hk (fun hk =>
                                  Goes.leaf) (fun hk =>
                                  Goes.nok hk)) (fun hk =>
                                Goes.nok hk)) (fun hk =>
                              Goes.nok hk)) (fun hk =>
                            Goes.leaf)) (fun hk =>
                          Goes.nok hk)) (fun hk =>
                        Goes.nok hk)) (fun hk =>
                      Goes.leaf)) (fun hk =>
                    Goes.nok hk)) (fun hk =>
                  Goes.nok hk)) (fun hk =>
                Goes.leaf)) (fun hk =>
              Goes.nok hk)) (fun hk =>
            Goes.nok hk)) (fun hk =>
          Goes.leaf)) (fun hk =>
        Goes.leaf)) (fun hk =>
      Goes.nok hk)) (fun hk =>
    Goes.nok hk)
def R_law11_tells : Bool → AV := fun (r : Bool) => .d .bool r
def S_law11_tells (p : El T_api_Prog) (sym : Int) (addr : Int) (o : El T_api_Opd) (regs : Int × Int × Int × El T_book_Act) : Empty → Nat × St := fun j => nomatch j
theorem en_law11_tells (p : El T_api_Prog) (sym : Int) (addr : Int) (o : El T_api_Opd) (regs : Int × Int × Int × El T_book_Act) (L : Lt) : entryA Go.Proofs.Tryd.prog (clOf t_law11_tells) tb_law11_tells Go.Proofs.Tryd.f27 c_law11_tells L (toForms sg_law11_tells (p, sym, addr, o, regs, ())) = (T0_law11_tells p sym addr o regs).run (fun v => some (R_law11_tells v, tps (toForms sg_law11_tells (p, sym, addr, o, regs, ())))) fun j => L (S_law11_tells p sym addr o regs j).1 (S_law11_tells p sym addr o regs j).2 := by kernel_rfl
theorem lp_law11_tells (p : El T_api_Prog) (sym : Int) (addr : Int) (o : El T_api_Opd) (regs : Int × Int × Int × El T_book_Act) : ∀ (L : Lt) (j : Empty), procOf (procsF Go.Proofs.Tryd.prog (clOf t_law11_tells) tb_law11_tells Go.Proofs.Tryd.f27 c_law11_tells (toForms sg_law11_tells (p, sym, addr, o, regs, ()))) (S_law11_tells p sym addr o regs j).1 L (S_law11_tells p sym addr o regs j).2 = (T_law11_tells p sym addr o regs j).run (fun v => some (R_law11_tells v, tps (toForms sg_law11_tells (p, sym, addr, o, regs, ())))) fun j => L (S_law11_tells p sym addr o regs j).1 (S_law11_tells p sym addr o regs j).2 := fun L j => nomatch j
noncomputable def e_law11_tells : Run := entG sg_law11_tells R_law11_tells (fun a => k_law11_tells a.1 a.2.1 a.2.2.1 a.2.2.2.1 a.2.2.2.2.1) (fun a => v_law11_tells a.1 a.2.1 a.2.2.1 a.2.2.2.1 a.2.2.2.2.1)
theorem ok_law11_tells : EntOK Go.Proofs.Tryd.prog 27 e_law11_tells := entG_ok (tb := tb_law11_tells) (c := c_law11_tells) tk_law11_tells (by kernel_rfl) (by kernel_rfl) (by kernel_rfl) (fun a => by kernel_rfl) fun ⟨p, sym, addr, o, regs, _⟩ hk => evF_goes (c := c_law11_tells) (K := fun v => (R_law11_tells v, tps (toForms sg_law11_tells (p, sym, addr, o, regs, ())))) (S := S_law11_tells p sym addr o regs) (by kernel_rfl) (en_law11_tells p sym addr o regs) (lp_law11_tells p sym addr o regs) (g_law11_tells p sym addr o regs hk)
theorem co_law11_tells (p : El T_api_Prog) (sym : Int) (addr : Int) (o : El T_api_Opd) (regs : Int × Int × Int × El T_book_Act) (hk : k_law11_tells p sym addr o regs = true) : CallOK Go.Proofs.Tryd.prog 27 (toForms sg_law11_tells (p, sym, addr, o, regs, ())) (R_law11_tells (v_law11_tells p sym addr o regs), tps (toForms sg_law11_tells (p, sym, addr, o, regs, ()))) := by
  obtain ⟨h1, h2⟩ := clOf_ok tk_law11_tells
  obtain ⟨n, hn⟩ := evF_goes (c := c_law11_tells) (K := fun v => (R_law11_tells v, tps (toForms sg_law11_tells (p, sym, addr, o, regs, ())))) (S := S_law11_tells p sym addr o regs) (by kernel_rfl) (en_law11_tells p sym addr o regs) (lp_law11_tells p sym addr o regs) (g_law11_tells p sym addr o regs hk)
  exact evF_sound (f := 27) (c := c_law11_tells) h1 h2 (by kernel_rfl) (by kernel_rfl) (by kernel_rfl) hn
end Go.Ev
end

section
set_option linter.unusedSectionVars false
set_option linter.unusedVariables false
set_option linter.unusedSimpArgs false
set_option maxRecDepth 100000
set_option linter.unusedVariables false
open Go Go.Ev
namespace Go.Ev
/-! ### paling/palinglaw11.alive -/
def sg_law11_alive : Sig := []
noncomputable def t_law11_alive : Tbl := [(31, e_cells_Addr), (33, e_cells_Size), (30, e_cells_Base), (32, e_cells_Sym), (34, e_cells_Start), (47, e_book_SameCells)]
theorem tk_law11_alive : ∀ p ∈ t_law11_alive, EntOK Go.Proofs.Tryd.prog p.1 p.2 := tbl_cons ok_cells_Addr (tbl_cons ok_cells_Size (tbl_cons ok_cells_Base (tbl_cons ok_cells_Sym (tbl_cons ok_cells_Start (tbl_cons ok_book_SameCells (tbl_nil))))))
noncomputable def c_law11_alive : Code := Go.Proofs.Tryd.f26.body.getD .skip
def tb_law11_alive : Tb := []
def T_law11_alive : Empty → JT Empty (Bool) := fun j => nomatch j
def T0_law11_alive : JT Empty (Bool) :=
  .br (k_cells_Addr ([((bs [97]), ((3 : Int), [(7 : Int)])), ((bs [98]), ((1 : Int), []))], []) ((3 : Int), ((0 : Int), ((1 : Int), (0 : Int)))) ((0 : Int), ((0 : Int), ((0 : Int), ((0 : Int), ((0 : Int), ((0 : Int), ((0 : Int), (0 : Int)))))))))
    (.br (k_cells_Addr ([((bs [97]), ((3 : Int), [(7 : Int)])), ((bs [98]), ((1 : Int), []))], []) ((4 : Int), ((0 : Int), ((1 : Int), (0 : Int)))) ((-1 : Int), ((0 : Int), ((0 : Int), ((0 : Int), ((0 : Int), ((0 : Int), ((0 : Int), (0 : Int)))))))))
      (.br (k_cells_Size ([((bs [97]), ((3 : Int), [(7 : Int)])), ((bs [98]), ((1 : Int), []))], []))
        (.br ((v_cells_Size ([((bs [97]), ((3 : Int), [(7 : Int)])), ((bs [98]), ((1 : Int), []))], [])) == (4 : Int))
          (.br (k_cells_Base ([((bs [97]), ((3 : Int), [(7 : Int)])), ((bs [98]), ((1 : Int), []))], []) (1 : Int))
            (.br ((v_cells_Base ([((bs [97]), ((3 : Int), [(7 : Int)])), ((bs [98]), ((1 : Int), []))], []) (1 : Int)) == (3 : Int))
              (.br ((v_cells_Addr ([((bs [97]), ((3 : Int), [(7 : Int)])), ((bs [98]), ((1 : Int), []))], []) ((3 : Int), ((0 : Int), ((1 : Int), (0 : Int)))) ((0 : Int), ((0 : Int), ((0 : Int), ((0 : Int), ((0 : Int), ((0 : Int), ((0 : Int), (0 : Int))))))))).1 == (3 : Int))
                (.br (v_cells_Addr ([((bs [97]), ((3 : Int), [(7 : Int)])), ((bs [98]), ((1 : Int), []))], []) ((3 : Int), ((0 : Int), ((1 : Int), (0 : Int)))) ((0 : Int), ((0 : Int), ((0 : Int), ((0 : Int), ((0 : Int), ((0 : Int), ((0 : Int), (0 : Int))))))))).2
                  (.br (! (v_cells_Addr ([((bs [97]), ((3 : Int), [(7 : Int)])), ((bs [98]), ((1 : Int), []))], []) ((4 : Int), ((0 : Int), ((1 : Int), (0 : Int)))) ((-1 : Int), ((0 : Int), ((0 : Int), ((0 : Int), ((0 : Int), ((0 : Int), ((0 : Int), (0 : Int))))))))).2)
                    (.br (k_cells_Sym ([((bs [97]), ((3 : Int), [(7 : Int)])), ((bs [98]), ((1 : Int), []))], []) (2 : Int))
                      (.br ((v_cells_Sym ([((bs [97]), ((3 : Int), [(7 : Int)])), ((bs [98]), ((1 : Int), []))], []) (2 : Int)) == (0 : Int))
                        (.br (k_cells_Start ([((bs [97]), ((3 : Int), [(7 : Int)])), ((bs [98]), ((1 : Int), []))], []))
                          (.br (k_book_SameCells (v_cells_Start ([((bs [97]), ((3 : Int), [(7 : Int)])), ((bs [98]), ((1 : Int), []))], [])) [(7 : Int), (0 : Int), (0 : Int), (0 : Int)])
                            (.leaf (v_book_SameCells (v_cells_Start ([((bs [97]), ((3 : Int), [(7 : Int)])), ((bs [98]), ((1 : Int), []))], [])) [(7 : Int), (0 : Int), (0 : Int), (0 : Int)]))
                          (.no))
                        (.no))
                      (.leaf false))
                    (.no))
                  (.leaf false))
                (.leaf false))
              (.leaf false))
            (.leaf false))
          (.no))
        (.leaf false))
      (.no))
    (.no))
  (.no)
def v_law11_alive : Bool :=
  bif (k_cells_Addr ([((bs [97]), ((3 : Int), [(7 : Int)])), ((bs [98]), ((1 : Int), []))], []) ((3 : Int), ((0 : Int), ((1 : Int), (0 : Int)))) ((0 : Int), ((0 : Int), ((0 : Int), ((0 : Int), ((0 : Int), ((0 : Int), ((0 : Int), (0 : Int))))))))) then
    bif (k_cells_Addr ([((bs [97]), ((3 : Int), [(7 : Int)])), ((bs [98]), ((1 : Int), []))], []) ((4 : Int), ((0 : Int), ((1 : Int), (0 : Int)))) ((-1 : Int), ((0 : Int), ((0 : Int), ((0 : Int), ((0 : Int), ((0 : Int), ((0 : Int), (0 : Int))))))))) then
      bif (k_cells_Size ([((bs [97]), ((3 : Int), [(7 : Int)])), ((bs [98]), ((1 : Int), []))], [])) then
        bif ((v_cells_Size ([((bs [97]), ((3 : Int), [(7 : Int)])), ((bs [98]), ((1 : Int), []))], [])) == (4 : Int)) then
          bif (k_cells_Base ([((bs [97]), ((3 : Int), [(7 : Int)])), ((bs [98]), ((1 : Int), []))], []) (1 : Int)) then
            bif ((v_cells_Base ([((bs [97]), ((3 : Int), [(7 : Int)])), ((bs [98]), ((1 : Int), []))], []) (1 : Int)) == (3 : Int)) then
              bif ((v_cells_Addr ([((bs [97]), ((3 : Int), [(7 : Int)])), ((bs [98]), ((1 : Int), []))], []) ((3 : Int), ((0 : Int), ((1 : Int), (0 : Int)))) ((0 : Int), ((0 : Int), ((0 : Int), ((0 : Int), ((0 : Int), ((0 : Int), ((0 : Int), (0 : Int))))))))).1 == (3 : Int)) then
                bif (v_cells_Addr ([((bs [97]), ((3 : Int), [(7 : Int)])), ((bs [98]), ((1 : Int), []))], []) ((3 : Int), ((0 : Int), ((1 : Int), (0 : Int)))) ((0 : Int), ((0 : Int), ((0 : Int), ((0 : Int), ((0 : Int), ((0 : Int), ((0 : Int), (0 : Int))))))))).2 then
                  bif (! (v_cells_Addr ([((bs [97]), ((3 : Int), [(7 : Int)])), ((bs [98]), ((1 : Int), []))], []) ((4 : Int), ((0 : Int), ((1 : Int), (0 : Int)))) ((-1 : Int), ((0 : Int), ((0 : Int), ((0 : Int), ((0 : Int), ((0 : Int), ((0 : Int), (0 : Int))))))))).2) then
                    bif (k_cells_Sym ([((bs [97]), ((3 : Int), [(7 : Int)])), ((bs [98]), ((1 : Int), []))], []) (2 : Int)) then
                      bif ((v_cells_Sym ([((bs [97]), ((3 : Int), [(7 : Int)])), ((bs [98]), ((1 : Int), []))], []) (2 : Int)) == (0 : Int)) then
                        bif (k_cells_Start ([((bs [97]), ((3 : Int), [(7 : Int)])), ((bs [98]), ((1 : Int), []))], [])) then
                          bif (k_book_SameCells (v_cells_Start ([((bs [97]), ((3 : Int), [(7 : Int)])), ((bs [98]), ((1 : Int), []))], [])) [(7 : Int), (0 : Int), (0 : Int), (0 : Int)]) then
                            (v_book_SameCells (v_cells_Start ([((bs [97]), ((3 : Int), [(7 : Int)])), ((bs [98]), ((1 : Int), []))], [])) [(7 : Int), (0 : Int), (0 : Int), (0 : Int)])
                          else false
                        else false
                      else false
                    else false
                  else false
                else false
              else false
            else false
          else false
        else false
      else false
    else false
  else false
def k_law11_alive : Bool :=
  bif (k_cells_Addr ([((bs [97]), ((3 : Int), [(7 : Int)])), ((bs [98]), ((1 : Int), []))], []) ((3 : Int), ((0 : Int), ((1 : Int), (0 : Int)))) ((0 : Int), ((0 : Int), ((0 : Int), ((0 : Int), ((0 : Int), ((0 : Int), ((0 : Int), (0 : Int))))))))) then
    bif (k_cells_Addr ([((bs [97]), ((3 : Int), [(7 : Int)])), ((bs [98]), ((1 : Int), []))], []) ((4 : Int), ((0 : Int), ((1 : Int), (0 : Int)))) ((-1 : Int), ((0 : Int), ((0 : Int), ((0 : Int), ((0 : Int), ((0 : Int), ((0 : Int), (0 : Int))))))))) then
      bif (k_cells_Size ([((bs [97]), ((3 : Int), [(7 : Int)])), ((bs [98]), ((1 : Int), []))], [])) then
        bif ((v_cells_Size ([((bs [97]), ((3 : Int), [(7 : Int)])), ((bs [98]), ((1 : Int), []))], [])) == (4 : Int)) then
          bif (k_cells_Base ([((bs [97]), ((3 : Int), [(7 : Int)])), ((bs [98]), ((1 : Int), []))], []) (1 : Int)) then
            bif ((v_cells_Base ([((bs [97]), ((3 : Int), [(7 : Int)])), ((bs [98]), ((1 : Int), []))], []) (1 : Int)) == (3 : Int)) then
              bif ((v_cells_Addr ([((bs [97]), ((3 : Int), [(7 : Int)])), ((bs [98]), ((1 : Int), []))], []) ((3 : Int), ((0 : Int), ((1 : Int), (0 : Int)))) ((0 : Int), ((0 : Int), ((0 : Int), ((0 : Int), ((0 : Int), ((0 : Int), ((0 : Int), (0 : Int))))))))).1 == (3 : Int)) then
                bif (v_cells_Addr ([((bs [97]), ((3 : Int), [(7 : Int)])), ((bs [98]), ((1 : Int), []))], []) ((3 : Int), ((0 : Int), ((1 : Int), (0 : Int)))) ((0 : Int), ((0 : Int), ((0 : Int), ((0 : Int), ((0 : Int), ((0 : Int), ((0 : Int), (0 : Int))))))))).2 then
                  bif (! (v_cells_Addr ([((bs [97]), ((3 : Int), [(7 : Int)])), ((bs [98]), ((1 : Int), []))], []) ((4 : Int), ((0 : Int), ((1 : Int), (0 : Int)))) ((-1 : Int), ((0 : Int), ((0 : Int), ((0 : Int), ((0 : Int), ((0 : Int), ((0 : Int), (0 : Int))))))))).2) then
                    bif (k_cells_Sym ([((bs [97]), ((3 : Int), [(7 : Int)])), ((bs [98]), ((1 : Int), []))], []) (2 : Int)) then
                      bif ((v_cells_Sym ([((bs [97]), ((3 : Int), [(7 : Int)])), ((bs [98]), ((1 : Int), []))], []) (2 : Int)) == (0 : Int)) then
                        bif (k_cells_Start ([((bs [97]), ((3 : Int), [(7 : Int)])), ((bs [98]), ((1 : Int), []))], [])) then
                          bif (k_book_SameCells (v_cells_Start ([((bs [97]), ((3 : Int), [(7 : Int)])), ((bs [98]), ((1 : Int), []))], [])) [(7 : Int), (0 : Int), (0 : Int), (0 : Int)]) then
                            true
                          else false
                        else false
                      else true
                    else false
                  else true
                else true
              else true
            else true
          else false
        else true
      else false
    else false
  else false
theorem g_law11_alive (hk : k_law11_alive = true) : Goes (T_law11_alive) (T0_law11_alive) (v_law11_alive) :=
  Goes.brk hk (fun hk =>
    Goes.brk hk (fun hk =>
      Goes.brk hk (fun hk =>
        Goes.brk hk (fun hk =>
          Goes.brk hk (fun hk =>
            Goes.brk hk (fun hk =>
              Goes.brk hk (fun hk =>
                Goes.brk hk (fun hk =>
                  Goes.brk hk (fun hk =>
                    Goes.brk hk (fun hk =>
                      Goes.brk hk (fun hk =>
                        Goes.brk hk (fun hk =>
                          Goes.brk hk (fun hk =>
                            Goes.leaf) (fun hk =>
                            Goes.nok hk)) (fun hk =>
                          Goes.nok hk)) (fun hk =>
                        Goes.leaf)) (fun hk =>
                      Goes.nok hk)) (fun hk =>
                    Goes.leaf)) (fun hk =>
                  Goes.leaf)) (fun hk =>
                Goes.leaf)) (fun hk =>
              Goes.leaf)) (fun hk =>
            Goes.nok hk)) (fun hk =>
          Goes.leaf)) (fun hk =>
        Goes.nok hk)) (fun hk =>
      Goes.nok hk)) (fun hk =>
    Goes.nok hk)
def R_law11_alive : Bool → AV := fun (r : Bool) => .d .bool r
def S_law11_alive : Empty → Nat × St := fun j => nomatch j
theorem en_law11_alive (L : Lt) : entryA Go.Proofs.Tryd.prog (clOf t_law11_alive) tb_law11_alive Go.Proofs.Tryd.f26 c_law11_alive L (toForms sg_law11_alive (())) = (T0_law11_alive).run (fun v => some (R_law11_alive v, tps (toForms sg_law11_alive (())))) fun j => L (S_law11_alive j).1 (S_law11_alive j).2 := by kernel_rfl
theorem lp_law11_alive : ∀ (L : Lt) (j : Empty), procOf (procsF Go.Proofs.Tryd.prog (clOf t_law11_alive) tb_law11_alive Go.Proofs.Tryd.f26 c_law11_alive (toForms sg_law11_alive (()))) (S_law11_alive j).1 L (S_law11_alive j).2 = (T_law11_alive j).run (fun v => some (R_law11_alive v, tps (toForms sg_law11_alive (())))) fun j => L (S_law11_alive j).1 (S_law11_alive j).2 := fun L j => nomatch j
noncomputable def e_law11_alive : Run := entG sg_law11_alive R_law11_alive (fun a => k_law11_alive) (fun a => v_law11_alive)
theorem ok_law11_alive : EntOK Go.Proofs.Tryd.prog 26 e_law11_alive := entG_ok (tb := tb_law11_alive) (c := c_law11_alive) tk_law11_alive (by kernel_rfl) (by kernel_rfl) (by kernel_rfl) (fun a => by kernel_rfl) fun _ hk => evF_goes (c := c_law11_alive) (K := fun v => (R_law11_alive v, tps (toForms sg_law11_alive (())))) (S := S_law11_alive) (by kernel_rfl) (en_law11_alive) (lp_law11_alive) (g_law11_alive hk)
theorem co_law11_alive (hk : k_law11_alive = true) : CallOK Go.Proofs.Tryd.prog 26 (toForms sg_law11_alive (())) (R_law11_alive (v_law11_alive), tps (toForms sg_law11_alive (()))) := by
  obtain ⟨h1, h2⟩ := clOf_ok tk_law11_alive
  obtain ⟨n, hn⟩ := evF_goes (c := c_law11_alive) (K := fun v => (R_law11_alive v, tps (toForms sg_law11_alive (())))) (S := S_law11_alive) (by kernel_rfl) (en_law11_alive) (lp_law11_alive) (g_law11_alive hk)
  exact evF_sound (f := 26) (c := c_law11_alive) h1 h2 (by kernel_rfl) (by kernel_rfl) (by kernel_rfl) hn
end Go.Ev
end

section
set_option linter.unusedSectionVars false
set_option linter.unusedVariables false
set_option linter.unusedSimpArgs false
set_option maxRecDepth 100000
set_option linter.unusedVariables false
open Go Go.Ev
namespace Go.Ev
/-! ### paling/palingbook.GreatIns -/
def sg_book_GreatIns : Sig := [(true, T_api_Ins)]
noncomputable def t_book_GreatIns : Tbl := []
theorem tk_book_GreatIns : ∀ p ∈ t_book_GreatIns, EntOK Go.Proofs.Tryd.prog p.1 p.2 := tbl_nil
noncomputable def c_book_GreatIns : Code := Go.Proofs.Tryd.f55.body.getD .skip
def tb_book_GreatIns : Tb := [(6, ⟨[1, 3], []⟩)]
inductive J_book_GreatIns where
  | l6 (k : Int)
def T_book_GreatIns (i : El T_api_Ins) : J_book_GreatIns → JT J_book_GreatIns (Bool)
  | .l6 k =>
    .br (decide (k < (Int.ofNat (List.length i.2.2.2.2.2.2))))
      (.br ((decide ((0 : Int) ≤ k)) && (decide (k < (Int.ofNat (List.length i.2.2.2.2.2.2)))))
        (.br (decide ((Int.ofNat (ByteArray.size (List.getD i.2.2.2.2.2.2 (Int.toNat k) (dflt .str)))) > (60 : Int)))
          (.leaf true)
        (.jmp (.l6 (IntKind.i64.wrap (k + (1 : Int))))))
      (.no))
    (.leaf false)
def T0_book_GreatIns (i : El T_api_Ins) : JT J_book_GreatIns (Bool) :=
  .br (decide ((Int.ofNat (List.length i.2.2.2.2.2.2)) > (6 : Int)))
    (.leaf true)
  (.br (decide ((Int.ofNat (ByteArray.size i.2.2.2.2.2.1)) > (60 : Int)))
    (.leaf true)
  (.jmp (.l6 (0 : Int))))
def R_book_GreatIns : Bool → AV := fun (r : Bool) => .d .bool r
def S_book_GreatIns (i : El T_api_Ins) : J_book_GreatIns → Nat × St
  | .l6 k => (6, ⟨mkTm 28 [(1, .pt 2 0 0), (3, .d (.int .i64) k)], [(2, 0, .box 47 [.d (.int .i64) i.1, .d .bool i.2.1, .d (.int .i64) i.2.2.1, .d (.int .i64) i.2.2.2.1.1, .d (.int .i64) i.2.2.2.1.2.1, .d (.int .i64) i.2.2.2.1.2.2.1, .d (.int .i64) i.2.2.2.1.2.2.2, .d (.int .i64) i.2.2.2.2.1.1, .d (.int .i64) i.2.2.2.2.1.2.1, .d (.int .i64) i.2.2.2.2.1.2.2.1, .d (.int .i64) i.2.2.2.2.1.2.2.2, .d .str i.2.2.2.2.2.1, .d (.sl .str) i.2.2.2.2.2.2] none)]⟩)
theorem en_book_GreatIns (i : El T_api_Ins) (L : Lt) : entryA Go.Proofs.Tryd.prog (clOf t_book_GreatIns) tb_book_GreatIns Go.Proofs.Tryd.f55 c_book_GreatIns L (toForms sg_book_GreatIns (i, ())) = (T0_book_GreatIns i).run (fun v => some (R_book_GreatIns v, tps (toForms sg_book_GreatIns (i, ())))) fun j => L (S_book_GreatIns i j).1 (S_book_GreatIns i j).2 := by kernel_rfl
theorem lp_book_GreatIns (i : El T_api_Ins) : ∀ (L : Lt) (j : J_book_GreatIns), procOf (procsF Go.Proofs.Tryd.prog (clOf t_book_GreatIns) tb_book_GreatIns Go.Proofs.Tryd.f55 c_book_GreatIns (toForms sg_book_GreatIns (i, ()))) (S_book_GreatIns i j).1 L (S_book_GreatIns i j).2 = (T_book_GreatIns i j).run (fun v => some (R_book_GreatIns v, tps (toForms sg_book_GreatIns (i, ())))) fun j => L (S_book_GreatIns i j).1 (S_book_GreatIns i j).2
  | L, .l6 k => by kernel_rfl
end Go.Ev
end

section
set_option linter.unusedSectionVars false
set_option linter.unusedVariables false
set_option linter.unusedSimpArgs false
set_option linter.unusedVariables false
set_option linter.unusedSimpArgs false
open Go
namespace Go.Ev

def v_book_GreatIns (i : El T_api_Ins) : Bool := decide (6 < i.2.2.2.2.2.2.length) || (decide (60 < i.2.2.2.2.2.1.size) || i.2.2.2.2.2.2.any fun l => decide (60 < l.size))
theorem g_book_GreatIns (i : El T_api_Ins) : Goes (T_book_GreatIns i) (T0_book_GreatIns i) (v_book_GreatIns i) := by
  obtain ⟨op, lock, cond, A, B, to, ls⟩ := i
  have loop : ls.length ≤ 6 → ∀ k, k ≤ ls.length → Goes (T_book_GreatIns (op, lock, cond, A, B, to, ls)) (.jmp (.l6 (k : Int))) ((ls.drop k).any fun l => decide (60 < l.size)) := by
    intro hn
    refine down ?_ fun k hk ih => ?_
    · rw [goes_jmp]
      simp [T_book_GreatIns, goes_br, goes_leaf]
    · rw [goes_jmp]
      simp only [T_book_GreatIns, goes_br, lt_len hk, nng, Bool.and_self, if_true, Int.toNat_natCast, getD_lt hk, wrap_succ (k := k) (by omega)]
      rw [drop_cons hk, List.any_cons]
      by_cases h : 60 < ls[k].size
      · rw [if_pos (by simp; omega), decide_eq_true h, Bool.true_or]
        exact .leaf
      · rw [if_neg (by simp; omega), decide_eq_false h, Bool.false_or]
        exact ih
  unfold T0_book_GreatIns v_book_GreatIns
  simp only [goes_br]
  by_cases h : 6 < ls.length
  · rw [if_pos (by simp; omega), decide_eq_true h, Bool.true_or]
    exact .leaf
  rw [if_neg (by simp; omega), decide_eq_false h, Bool.false_or]
  by_cases h2 : 60 < to.size
  · rw [if_pos (by simp; omega), decide_eq_true h2, Bool.true_or]
    exact .leaf
  rw [if_neg (by simp; omega), decide_eq_false h2, Bool.false_or]
  exact loop (by omega) 0 (Nat.zero_le _)

end Go.Ev
end

section
set_option linter.unusedSectionVars false
set_option linter.unusedVariables false
set_option linter.unusedSimpArgs false
set_option maxRecDepth 100000
set_option linter.unusedVariables false
open Go Go.Ev
namespace Go.Ev
noncomputable def e_book_GreatIns : Run := entT sg_book_GreatIns R_book_GreatIns (fun a => v_book_GreatIns a.1)
theorem ok_book_GreatIns : EntOK Go.Proofs.Tryd.prog 55 e_book_GreatIns := entT_ok (tb := tb_book_GreatIns) (c := c_book_GreatIns) tk_book_GreatIns (by kernel_rfl) (by kernel_rfl) (by kernel_rfl) (fun a => by kernel_rfl) fun ⟨i, _⟩ => evF_goes (c := c_book_GreatIns) (K := fun v => (R_book_GreatIns v, tps (toForms sg_book_GreatIns (i, ())))) (S := S_book_GreatIns i) (by kernel_rfl) (en_book_GreatIns i) (lp_book_GreatIns i) (g_book_GreatIns i)
end Go.Ev
end

section
set_option linter.unusedSectionVars false
set_option linter.unusedVariables false
set_option linter.unusedSimpArgs false
set_option maxRecDepth 100000
set_option linter.unusedVariables false
open Go Go.Ev
namespace Go.Ev
/-! ### paling/palingbook.GreatThread -/
def sg_book_GreatThread : Sig := [(true, (.sl T_api_Ins))]
noncomputable def t_book_GreatThread : Tbl := [(55, e_book_GreatIns)]
theorem tk_book_GreatThread : ∀ p ∈ t_book_GreatThread, EntOK Go.Proofs.Tryd.prog p.1 p.2 := tbl_cons ok_book_GreatIns (tbl_nil)
noncomputable def c_book_GreatThread : Code := Go.Proofs.Tryd.f35.body.getD .skip
def tb_book_GreatThread : Tb := [(6, ⟨[1, 3], []⟩)]
inductive J_book_GreatThread where
  | l6 (i : Int)
def T_book_GreatThread (t : List (El T_api_Ins)) : J_book_GreatThread → JT J_book_GreatThread (Bool)
  | .l6 i =>
    .br (decide (i < (Int.ofNat (List.length t))))
      (.br ((decide ((0 : Int) ≤ i)) && (decide (i < (Int.ofNat (List.length t)))))
        (.br (v_book_GreatIns (List.getD t (Int.toNat i) (dflt T_api_Ins)))
          (.leaf true)
        (.jmp (.l6 (IntKind.i64.wrap (i + (1 : Int))))))
      (.no))
    (.leaf false)
def T0_book_GreatThread (t : List (El T_api_Ins)) : JT J_book_GreatThread (Bool) :=
  .br (decide ((Int.ofNat (List.length t)) > (12 : Int)))
    (.leaf true)
  (.jmp (.l6 (0 : Int)))
def R_book_GreatThread : Bool → AV := fun (r : Bool) => .d .bool r
def S_book_GreatThread (t : List (El T_api_Ins)) : J_book_GreatThread → Nat × St
  | .l6 i => (6, ⟨mkTm 21 [(1, .pt 2 0 0), (3, .d (.int .i64) i)], [(2, 0, .box 40 [.d (.sl T_api_Ins) t] none)]⟩)
theorem en_book_GreatThread (t : List (El T_api_Ins)) (L : Lt) : entryA Go.Proofs.Tryd.prog (clOf t_book_GreatThread) tb_book_GreatThread Go.Proofs.Tryd.f35 c_book_GreatThread L (toForms sg_book_GreatThread (t, ())) = (T0_book_GreatThread t).run (fun v => some (R_book_GreatThread v, tps (toForms sg_book_GreatThread (t, ())))) fun j => L (S_book_GreatThread t j).1 (S_book_GreatThread t j).2 := by kernel_rfl
theorem lp_book_GreatThread (t : List (El T_api_Ins)) : ∀ (L : Lt) (j : J_book_GreatThread), procOf (procsF Go.Proofs.Tryd.prog (clOf t_book_GreatThread) tb_book_GreatThread Go.Proofs.Tryd.f35 c_book_GreatThread (toForms sg_book_GreatThread (t, ()))) (S_book_GreatThread t j).1 L (S_book_GreatThread t j).2 = (T_book_GreatThread t j).run (fun v => some (R_book_GreatThread v, tps (toForms sg_book_GreatThread (t, ())))) fun j => L (S_book_GreatThread t j).1 (S_book_GreatThread t j).2
  | L, .l6 i => by kernel_rfl
end Go.Ev
end

section
set_option linter.unusedSectionVars false
set_option linter.unusedVariables false
set_option linter.unusedSimpArgs false
set_option linter.unusedVariables false
set_option linter.unusedSimpArgs false
open Go
namespace Go.Ev
def v_book_GreatThread (t : List (El T_api_Ins)) : Bool := decide (12 < t.length) || t.any v_book_GreatIns
theorem g_book_GreatThread (t : List (El T_api_Ins)) : Goes (T_book_GreatThread t) (T0_book_GreatThread t) (v_book_GreatThread t) := by
  have loop : t.length ≤ 12 → ∀ k, k ≤ t.length → Goes (T_book_GreatThread t) (.jmp (.l6 (k : Int))) ((t.drop k).any v_book_GreatIns) := by
    intro hn
    refine down ?_ fun k hk ih => ?_
    · rw [goes_jmp]
      simp [T_book_GreatThread, goes_br, goes_leaf]
    · rw [goes_jmp]
      simp only [T_book_GreatThread, goes_br, lt_len hk, nng, Bool.and_self, if_true, Int.toNat_natCast, getD_lt hk, wrap_succ (k := k) (by omega)]
      rw [drop_cons hk, List.any_cons]
      cases v_book_GreatIns t[k] with
      | true => simp [goes_leaf]
      | false => simpa using ih
  unfold T0_book_GreatThread v_book_GreatThread
  simp only [goes_br]
  by_cases h : 12 < t.length
  · rw [if_pos (by simp; omega), decide_eq_true h, Bool.true_or]
    exact .leaf
  rw [if_neg (by simp; omega), decide_eq_false h, Bool.false_or]
  exact loop (by omega) 0 (Nat.zero_le _)
end Go.Ev
end

section
set_option linter.unusedSectionVars false
set_option linter.unusedVariables false
set_option linter.unusedSimpArgs false
set_option maxRecDepth 100000
set_option linter.unusedVariables false
open Go Go.Ev
namespace Go.Ev
noncomputable def e_book_GreatThread : Run := entT sg_book_GreatThread R_book_GreatThread (fun a => v_book_GreatThread a.1)
theorem ok_book_GreatThread : EntOK Go.Proofs.Tryd.prog 35 e_book_GreatThread := entT_ok (tb := tb_book_GreatThread) (c := c_book_GreatThread) tk_book_GreatThread (by kernel_rfl) (by kernel_rfl) (by kernel_rfl) (fun a => by kernel_rfl) fun ⟨t, _⟩ => evF_goes (c := c_book_GreatThread) (K := fun v => (R_book_GreatThread v, tps (toForms sg_book_GreatThread (t, ())))) (S := S_book_GreatThread t) (by kernel_rfl) (en_book_GreatThread t) (lp_book_GreatThread t) (g_book_GreatThread t)
end Go.Ev
end

section
set_option linter.unusedSectionVars false
set_option linter.unusedVariables false
set_option linter.unusedSimpArgs false
set_option maxRecDepth 100000
set_option linter.unusedVariables false
open Go Go.Ev
namespace Go.Ev
/-! ### paling/palingbook.Great -/
def sg_book_Great : Sig := [(true, T_api_Prog)]
noncomputable def t_book_Great : Tbl := [(35, e_book_GreatThread)]
theorem tk_book_Great : ∀ p ∈ t_book_Great, EntOK Go.Proofs.Tryd.prog p.1 p.2 := tbl_cons ok_book_GreatThread (tbl_nil)
noncomputable def c_book_Great : Code := Go.Proofs.Tryd.f11.body.getD .skip
def tb_book_Great : Tb := [(6, ⟨[1, 3], []⟩), (14, ⟨[1, 4], []⟩)]
inductive J_book_Great where
  | l6 (i : Int)
  | l14 (i : Int)
def T_book_Great (p : El T_api_Prog) : J_book_Great → JT J_book_Great (Bool)
  | .l6 i =>
    .br (decide (i < (Int.ofNat (List.length p.1))))
      (.br ((decide ((0 : Int) ≤ i)) && (decide (i < (Int.ofNat (List.length p.1)))))
        (.br (decide ((Int.ofNat (ByteArray.size (List.getD p.1 (Int.toNat i) (dflt T_api_Sym)).1)) > (60 : Int)))
          (.leaf true)
        (.br ((decide ((0 : Int) ≤ i)) && (decide (i < (Int.ofNat (List.length p.1)))))
          (.br (decide ((Int.ofNat (List.length (List.getD p.1 (Int.toNat i) (dflt T_api_Sym)).2.2)) > (66 : Int)))
            (.leaf true)
          (.jmp (.l6 (IntKind.i64.wrap (i + (1 : Int))))))
        (.no)))
      (.no))
    (.jmp (.l14 (0 : Int)))
  | .l14 i =>
    .br (decide (i < (Int.ofNat (List.length p.2))))
      (.br ((decide ((0 : Int) ≤ i)) && (decide (i < (Int.ofNat (List.length p.2)))))
        (.br (v_book_GreatThread (List.getD p.2 (Int.toNat i) (dflt (.sl (.pr (.int .i64) (.pr .bool (.pr (.int .i64) (.pr (.pr (.int .i64) (.pr (.int .i64) (.pr (.int .i64) (.int .i64)))) (.pr (.pr (.int .i64) (.pr (.int .i64) (.pr (.int .i64) (.int .i64)))) (.pr .str (.sl .str)))))))))))
          (.leaf true)
        (.jmp (.l14 (IntKind.i64.wrap (i + (1 : Int))))))
      (.no))
    (.leaf false)
def T0_book_Great (p : El T_api_Prog) : JT J_book_Great (Bool) :=
  .br (decide ((Int.ofNat (List.length p.1)) > (66 : Int)))
    (.leaf true)
  (.br (decide ((Int.ofNat (List.length p.2)) > (66 : Int)))
    (.leaf true)
  (.jmp (.l6 (0 : Int))))
def R_book_Great : Bool → AV := fun (r : Bool) => .d .bool r
def S_book_Great (p : El T_api_Prog) : J_book_Great → Nat × St
  | .l6 i => (6, ⟨mkTm 53 [(1, .pt 2 0 0), (3, .d (.int .i64) i)], [(2, 0, .box 25 [.d (.sl T_api_Sym) p.1, .d (.sl (.sl T_api_Ins)) p.2] none)]⟩)
  | .l14 i => (14, ⟨mkTm 53 [(1, .pt 2 0 0), (4, .d (.int .i64) i)], [(2, 0, .box 25 [.d (.sl T_api_Sym) p.1, .d (.sl (.sl T_api_Ins)) p.2] none)]⟩)
theorem en_book_Great (p : El T_api_Prog) (L : Lt) : entryA Go.Proofs.Tryd.prog (clOf t_book_Great) tb_book_Great Go.Proofs.Tryd.f11 c_book_Great L (toForms sg_book_Great (p, ())) = (T0_book_Great p).run (fun v => some (R_book_Great v, tps (toForms sg_book_Great (p, ())))) fun j => L (S_book_Great p j).1 (S_book_Great p j).2 := by kernel_rfl
theorem lp_book_Great (p : El T_api_Prog) : ∀ (L : Lt) (j : J_book_Great), procOf (procsF Go.Proofs.Tryd.prog (clOf t_book_Great) tb_book_Great Go.Proofs.Tryd.f11 c_book_Great (toForms sg_book_Great (p, ()))) (S_book_Great p j).1 L (S_book_Great p j).2 = (T_book_Great p j).run (fun v => some (R_book_Great v, tps (toForms sg_book_Great (p, ())))) fun j => L (S_book_Great p j).1 (S_book_Great p j).2
  | L, .l6 i => by kernel_rfl
  | L, .l14 i => by kernel_rfl
end Go.Ev
end

section
set_option linter.unusedSectionVars false
set_option linter.unusedVariables false
set_option linter.unusedSimpArgs false
set_option linter.unusedVariables false
set_option linter.unusedSimpArgs false
open Go
namespace Go.Ev
def v_book_Great (p : El T_api_Prog) : Bool := decide (66 < p.1.length) || (decide (66 < p.2.length) || ((p.1.any fun s => decide (60 < s.1.size) || decide (66 < s.2.2.length)) || p.2.any v_book_GreatThread))
theorem g_book_Great (p : El T_api_Prog) : Goes (T_book_Great p) (T0_book_Great p) (v_book_Great p) := by
  obtain ⟨sy, th⟩ := p
  have loop2 : th.length ≤ 66 → ∀ k, k ≤ th.length → Goes (T_book_Great (sy, th)) (.jmp (.l14 (k : Int))) ((th.drop k).any v_book_GreatThread) := by
    intro hn
    refine down ?_ fun k hk ih => ?_
    · rw [goes_jmp]
      simp [T_book_Great, goes_br, goes_leaf]
    · rw [goes_jmp]
      simp only [T_book_Great, goes_br, lt_len hk, nng, Bool.and_self, if_true, Int.toNat_natCast, getD_lt hk, wrap_succ (k := k) (by omega)]
      rw [drop_cons hk, List.any_cons]
      cases v_book_GreatThread th[k] with
      | true => simp [goes_leaf]
      | false => simpa using ih
  have loop : sy.length ≤ 66 → th.length ≤ 66 → ∀ k, k ≤ sy.length → Goes (T_book_Great (sy, th)) (.jmp (.l6 (k : Int))) (((sy.drop k).any fun s => decide (60 < s.1.size) || decide (66 < s.2.2.length)) || th.any v_book_GreatThread) := by
    intro hn hm
    refine down ?_ fun k hk ih => ?_
    · rw [goes_jmp]
      simp only [T_book_Great, goes_br, lt_len_not (Nat.lt_irrefl _), List.drop_length, List.any_nil, Bool.false_or]
      simpa using loop2 hm 0 (Nat.zero_le _)
    · rw [goes_jmp]
      simp only [T_book_Great, goes_br, lt_len hk, nng, Bool.and_self, if_true, Int.toNat_natCast, getD_lt hk, wrap_succ (k := k) (by omega)]
      rw [drop_cons hk, List.any_cons]
      by_cases h : 60 < sy[k].1.size
      · rw [if_pos (by simp; omega), decide_eq_true h]
        simp [goes_leaf]
      rw [if_neg (by simp; omega), decide_eq_false h, Bool.false_or]
      by_cases h2 : 66 < sy[k].2.2.length
      · rw [if_pos (by simp; omega), decide_eq_true h2]
        simp [goes_leaf]
      rw [if_neg (by simp; omega), decide_eq_false h2, Bool.false_or]
      exact ih
  unfold T0_book_Great v_book_Great
  simp only [goes_br]
  by_cases h : 66 < sy.length
  · rw [if_pos (by simp; omega), decide_eq_true h, Bool.true_or]
    exact .leaf
  rw [if_neg (by simp; omega), decide_eq_false h, Bool.false_or]
  by_cases h2 : 66 < th.length
  · rw [if_pos (by simp; omega), decide_eq_true h2, Bool.true_or]
    exact .leaf
  rw [if_neg (by simp; omega), decide_eq_false h2, Bool.false_or]
  exact loop (by omega) (by omega) 0 (Nat.zero_le _)
end Go.Ev
end

section
set_option linter.unusedSectionVars false
set_option linter.unusedVariables false
set_option linter.unusedSimpArgs false
set_option maxRecDepth 100000
set_option linter.unusedVariables false
open Go Go.Ev
namespace Go.Ev
noncomputable def e_book_Great : Run := entT sg_book_Great R_book_Great (fun a => v_book_Great a.1)
theorem ok_book_Great : EntOK Go.Proofs.Tryd.prog 11 e_book_Great := entT_ok (tb := tb_book_Great) (c := c_book_Great) tk_book_Great (by kernel_rfl) (by kernel_rfl) (by kernel_rfl) (fun a => by kernel_rfl) fun ⟨p, _⟩ => evF_goes (c := c_book_Great) (K := fun v => (R_book_Great v, tps (toForms sg_book_Great (p, ())))) (S := S_book_Great p) (by kernel_rfl) (en_book_Great p) (lp_book_Great p) (g_book_Great p)
end Go.Ev
end

section
set_option linter.unusedSectionVars false
set_option linter.unusedVariables false
set_option linter.unusedSimpArgs false
/- Chapter 8: what is not great is small. -/
set_option maxRecDepth 100000
set_option linter.unusedVariables false
set_option linter.unusedSimpArgs false
namespace Go.Ev
open Go
theorem smallText_of {s : ByteArray} (h : s.size ≤ 60) : smallText s = true := decide_eq_true (by omega)
theorem great_ins {i : El T_api_Ins} (h : v_book_GreatIns i = false) : i.2.2.2.2.2.2.length ≤ 6 ∧ smallText i.2.2.2.2.2.1 = true ∧ ∀ l ∈ i.2.2.2.2.2.2, smallText l = true := by
  unfold v_book_GreatIns at h
  simp only [Bool.or_eq_false_iff, decide_eq_false_iff_not, List.any_eq_false, decide_eq_true_eq] at h
  exact ⟨by omega, smallText_of (by omega), fun l hl => smallText_of (by have := h.2.2 l hl; omega)⟩
theorem labels_le {t : List (El T_api_Ins)} {n : Nat} (h : ∀ i ∈ t, i.2.2.2.2.2.2.length ≤ n) : (labels t).length ≤ n * t.length := by
  unfold labels
  induction t with
  | nil => simp
  | cons i t ih =>
    rw [List.flatMap_cons, List.length_append, List.length_cons, Nat.mul_add, Nat.mul_one]
    have h1 := h i (List.mem_cons_self ..)
    have h2 := ih fun j hj => h j (List.mem_cons_of_mem _ hj)
    omega
theorem great_thread {t : List (El T_api_Ins)} (h : v_book_GreatThread t = false) : smallThread t = true := by
  unfold v_book_GreatThread at h
  simp only [Bool.or_eq_false_iff, decide_eq_false_iff_not, List.any_eq_false, Bool.not_eq_true] at h
  have hl := labels_le (t := t) (n := 6) fun i hi => (great_ins (h.2 i hi)).1
  unfold smallThread
  simp only [Bool.and_eq_true, decide_eq_true_eq, List.all_eq_true]
  exact ⟨by omega, by omega, fun i hi => ⟨(great_ins (h.2 i hi)).2.1, (great_ins (h.2 i hi)).2.2⟩⟩
theorem great_prog {p : El T_api_Prog} (h : v_book_Great p = false) : smallProg p = true := by
  unfold v_book_Great at h
  simp only [Bool.or_eq_false_iff, decide_eq_false_iff_not, List.any_eq_false, Bool.not_eq_true] at h
  unfold smallProg
  simp only [Bool.and_eq_true, List.all_eq_true]
  refine ⟨fun s hs => smallText_of ?_, fun t ht => great_thread (h.2.2.2 t ht)⟩
  have := (h.2.2.1 s hs)
  omega
end Go.Ev
end

section
set_option linter.unusedSectionVars false
set_option linter.unusedVariables false
set_option linter.unusedSimpArgs false
/- Both texts tell the same of cells. -/
set_option maxRecDepth 100000
set_option linter.unusedVariables false
set_option linter.unusedSimpArgs false
namespace Go.Ev
open Go
theorem k_alive11 : k_law11_alive = true := by decide +kernel
theorem v_alive11 : v_law11_alive = true := by decide +kernel
def inI (n : Int) : Prop := -9223372036854775808 ≤ n ∧ n ≤ 9223372036854775807
theorem u64_size {n s : Int} (hn : inI n) (h1 : 1 ≤ s) (h2 : s ≤ 64) : decide (IntKind.u64.wrap n ≥ IntKind.u64.wrap s) = (decide (n < 0) || decide (n ≥ s)) := by
  obtain ⟨a, b⟩ := hn
  have e : ∀ x : Int, IntKind.u64.wrap x = x % 18446744073709551616 := fun x => by unfold IntKind.wrap; simp [IntKind.signed, IntKind.bits]
  rw [e, e, ← Bool.decide_or]
  apply decide_eq_decide.2
  omega
structure RegsIn (o : El T_api_Opd) (r : Int × Int × Int × El T_book_Act) : Prop where
  n : inI o.2.2.2
  r0 : inI r.1
  r1 : inI r.2.1
  r2 : inI r.2.2.1
  r3 : inI r.2.2.2.1
  r4 : inI r.2.2.2.2.1
  r5 : inI r.2.2.2.2.2.1
  r6 : inI r.2.2.2.2.2.2.1
  r7 : inI r.2.2.2.2.2.2.2
theorem ahead_eq (p : El T_api_Prog) (n : Int) : v_cells_ahead p n = v_ref2_base p n := rfl
theorem l5_eq {p : El T_api_Prog} (hs : SymsOK p.1) (o : El T_api_Opd) (r : Int × Int × Int × El T_book_Act) {n : Int} (hn : inI n) (h0 : (0 : Int) ≤ o.2.2.1) (h1 : (show Int from o.2.2.1) < (List.length p.1 : Int)) :
    v_cells_Addr_l5 p o r n = v_ref2_address_l5 p o r n ∧ k_cells_Addr_l5 p o r n = true ∧ k_ref2_address_l5 p o r n = true := by
  have gen : ∀ s : Int, 0 ≤ s → s < (List.length p.1 : Int) → o.2.2.1 = s → v_cells_Addr_l5 p o r n = v_ref2_address_l5 p o r n ∧ k_cells_Addr_l5 p o r n = true ∧ k_ref2_address_l5 p o r n = true := by
    intro s h0 h1 hs'
    have hlen := hs.len
    have hk1 : k_cells_ahead p s = true := by unfold k_cells_ahead; simp; omega
    have hk2 : k_ref2_base p s = true := by unfold k_ref2_base; simp; omega
    obtain ⟨m, rfl⟩ := Int.eq_ofNat_of_zero_le h0
    have hm : m < List.length p.1 := by omega
    have hmem : p.1[m] ∈ p.1 := List.getElem_mem hm
    have hb : (decide ((0 : Int) ≤ (m : Int)) && decide ((m : Int) < Int.ofNat (List.length p.1))) = true := bound_len hm
    have hu := u64_size (s := (show Int from (p.1[m]).2.1)) hn (hs.lo _ hmem) (hs.hi _ hmem)
    change decide (IntKind.u64.wrap n ≥ IntKind.u64.wrap (p.1[m]).2.1) = (decide (n < 0) || decide (n ≥ (p.1[m]).2.1)) at hu
    unfold v_cells_Addr_l5 v_ref2_address_l5 k_cells_Addr_l5 k_ref2_address_l5
    simp only [hs', hb, hk1, hk2, Int.toNat_natCast, getD_lt hm, hu, cond_true, ahead_eq]
    cases decide (n < 0) <;> cases decide (n ≥ (p.1[m]).2.1) <;> simp
  exact gen _ h0 h1 rfl
theorem right_sym {k r s n : Int} (h : v_opnd_Right (k, r, s, n) = true) (hk : k = 3 ∨ k = 4) : 0 ≤ s := by
  unfold v_opnd_Right at h
  rcases hk with rfl | rfl
  · simp at h; exact h.1
  · simp at h; exact h.1
theorem right_reg {r s n : Int} (h : v_opnd_Right (4, r, s, n) = true) : r = 0 ∨ r = 1 ∨ r = 2 ∨ r = 3 ∨ r = 4 ∨ r = 5 ∨ r = 6 ∨ r = 7 := by
  unfold v_opnd_Right at h
  simp at h
  rw [reg_eq] at h
  simp at h
  omega
theorem addr_eq {p : El T_api_Prog} (hp : smallProg p = true) (o : El T_api_Opd) (r : Int × Int × Int × El T_book_Act) (hr : RegsIn o r) :
    v_cells_Addr p o r = v_ref2_Addr p o r ∧ k_cells_Addr p o r = true ∧ k_ref2_Addr p o r = true := by
  have hv : k_valid_Check p = true := hp
  have hv' : k_ref1_Check p = true := hp
  obtain ⟨k, g, s, n⟩ := o
  unfold v_cells_Addr v_ref2_Addr k_cells_Addr k_ref2_Addr
  simp only [hv, hv', cond_true, v_valid_Check, v_ref1_Check]
  by_cases hc : checkC p = 0
  · have hs := symsOK_of hc
    simp only [hc, bne_self_eq_false, cond_false]
    unfold v_ref2_address k_ref2_address v_cells_Addr_l2 k_cells_Addr_l2
    rw [right_eq, refMemory_eq' k g s n]
    by_cases hR : v_opnd_Right (k, g, s, n) = true
    · simp only [hR, Bool.not_true, cond_false]
      by_cases hge : s ≥ Int.ofNat (List.length p.1)
      · have e1 : decide (s ≥ Int.ofNat (List.length p.1)) = true := decide_eq_true hge
        simp only [e1, cond_true]
        by_cases h3 : k = 3
        · subst h3; simp
        · by_cases h4 : k = 4
          · subst h4; simp
          · have e3 : (k != (3 : Int)) = true := by simpa using h3
            have e4 : (k != (4 : Int)) = true := by simpa using h4
            simp [e3, e4, h3, h4]
      · have e1 : decide (s ≥ Int.ofNat (List.length p.1)) = false := decide_eq_false hge
        have hlt : s < (List.length p.1 : Int) := Int.not_le.1 hge
        simp only [e1, cond_false]
        by_cases h3 : k = 3
        · subst h3
          have h0 := right_sym hR (.inl rfl)
          obtain ⟨a, b, c⟩ := l5_eq hs (3, g, s, n) r hr.n h0 hlt
          have a' : v_cells_Addr_l5 p (3, g, s, n) r n = v_ref2_address_l5 p (3, g, s, n) r n := a
          have b' : k_cells_Addr_l5 p (3, g, s, n) r n = true := b
          have c' : k_ref2_address_l5 p (3, g, s, n) r n = true := c
          simp [a', b', c']
        · by_cases h4 : k = 4
          · subst h4
            have h0 := right_sym hR (.inr rfl)
            have hl := fun {m : Int} (hm : inI m) => l5_eq hs (4, g, s, n) r hm h0 hlt
            have q0 := hl hr.r0
            have q1 := hl hr.r1
            have q2 := hl hr.r2
            have q3 := hl hr.r3
            have q4 := hl hr.r4
            have q5 := hl hr.r5
            have q6 := hl hr.r6
            have q7 := hl hr.r7
            rcases right_reg hR with rfl | rfl | rfl | rfl | rfl | rfl | rfl | rfl
            · simp [q0.1, q0.2.1, q0.2.2]
            · simp [q1.1, q1.2.1, q1.2.2]
            · simp [q2.1, q2.2.1, q2.2.2]
            · simp [q3.1, q3.2.1, q3.2.2]
            · simp [q4.1, q4.2.1, q4.2.2]
            · simp [q5.1, q5.2.1, q5.2.2]
            · simp [q6.1, q6.2.1, q6.2.2]
            · simp [q7.1, q7.2.1, q7.2.2]
          · have e3 : (k != (3 : Int)) = true := by simpa using h3
            have e4 : (k != (4 : Int)) = true := by simpa using h4
            simp [e3, e4, h3, h4]
    · have hR' : v_opnd_Right (k, g, s, n) = false := by simpa using hR
      simp [hR']
  · have hb : (checkC p != (0 : Int)) = true := by simpa using hc
    simp only [hb, cond_true]
    unfold v_cells_Addr_l2 k_cells_Addr_l2
    simp
    repeat' (first | rfl | split | constructor | trivial)
theorem tells11 {p : El T_api_Prog} (hp : smallProg p = true) (sym addr : Int) (o : El T_api_Opd) (r : Int × Int × Int × El T_book_Act) (hr : RegsIn o r) :
    k_law11_tells p sym addr o r = true ∧ v_law11_tells p sym addr o r = true := by
  obtain ⟨a1, a2, a3⟩ := addr_eq hp o r hr
  have hv : k_valid_Check p = true := hp
  have hv' : k_ref1_Check p = true := hp
  have y1 : k_cells_Sym p addr = true := hp
  have y2 : k_ref2_Sym p addr = true := hp
  have y3 : k_cells_Start p = true := hp
  have y4 : k_ref2_Start p = true := by
    unfold k_ref2_Start k_ref2_start
    simp only [hv', cond_true, v_ref1_Check]
    by_cases hc : checkC p = 0 <;> simp [hc]
  have e4 : v_ref2_Start p = v_cells_Start p := by
    unfold v_ref2_Start v_cells_Start k_ref2_start v_ref2_start
    simp only [hv', cond_true, v_ref1_Check]
    by_cases hc : checkC p = 0 <;> simp [hc]
  have y5 : k_book_SameCells (v_cells_Start p) (v_ref2_Start p) = true := by
    refine decide_eq_true ?_
    unfold v_cells_Start
    split
    · rename_i hc
      have := startC_len (symsOK_of hc)
      have := (symsOK_of hc).len
      omega
    · simp
  have e5 : v_book_SameCells (v_cells_Start p) (v_ref2_Start p) = true := by rw [e4]; exact decide_eq_true rfl
  have e6 : v_cells_Sym p addr = v_ref2_Sym p addr := rfl
  have z1 : k_cells_Size p = true ∧ k_ref2_Size p = true ∧ v_cells_Size p = v_ref2_Size p := by
    unfold k_cells_Size k_ref2_Size v_cells_Size v_ref2_Size
    simp only [hv, hv', cond_true, v_valid_Check, v_ref1_Check]
    by_cases hc : checkC p = 0
    · have hl := (symsOK_of hc).len
      have hk1 : k_cells_ahead p (Int.ofNat (List.length p.1)) = true := by unfold k_cells_ahead; simp; omega
      have hk2 : k_ref2_base p (Int.ofNat (List.length p.1)) = true := by unfold k_ref2_base; simp; omega
      simp only [hc, hk1, hk2, ahead_eq]
      simp
    · have hb : (checkC p != (0 : Int)) = true := by simpa using hc
      simp only [hb, cond_true, and_self]
  have z2 : k_cells_Base p sym = true ∧ k_ref2_Base p sym = true ∧ v_cells_Base p sym = v_ref2_Base p sym := by
    unfold k_cells_Base k_ref2_Base v_cells_Base v_ref2_Base
    simp only [hv, hv', cond_true, v_valid_Check, v_ref1_Check]
    by_cases hc : checkC p = 0
    · have hl := (symsOK_of hc).len
      have hb : (checkC p != (0 : Int)) = false := by simpa using hc
      by_cases h1 : sym < 0
      · simp only [decide_eq_true h1, hb, cond_true, cond_false, and_self]
      · by_cases h2 : sym ≥ Int.ofNat (List.length p.1)
        · simp only [decide_eq_false h1, hb, decide_eq_true h2, cond_true, cond_false, and_self]
        · have h3 : sym < (List.length p.1 : Int) := Int.not_le.1 h2
          have hk1 : k_cells_ahead p sym = true := by unfold k_cells_ahead; simp; omega
          have hk2 : k_ref2_base p sym = true := by unfold k_ref2_base; simp; omega
          simp only [hc, hk1, hk2, ahead_eq, decide_eq_false h1, decide_eq_false h2]
          simp
    · have hb : (checkC p != (0 : Int)) = true := by simpa using hc
      simp only [hb, cond_true, Bool.cond_self, and_self, true_and]
  unfold k_law11_tells v_law11_tells
  simp only [a2, a3, a1, beq_self_eq_true, z1.1, z1.2.1, z1.2.2, z2.1, z2.2.1, z2.2.2, y1, y2, y3, y4, y5, e5, e6, cond_true, and_self]
end Go.Ev
end

section
set_option linter.unusedSectionVars false
set_option linter.unusedVariables false
set_option linter.unusedSimpArgs false
set_option maxRecDepth 100000
set_option linter.unusedVariables false
open Go Go.Ev
namespace Go.Ev
/-! ### paling/palingref1.Text -/
def sg_ref1_Text : Sig := [(false, (.int .i64))]
noncomputable def t_ref1_Text : Tbl := []
theorem tk_ref1_Text : ∀ p ∈ t_ref1_Text, EntOK Go.Proofs.Tryd.prog p.1 p.2 := tbl_nil
noncomputable def c_ref1_Text : Code := Go.Proofs.Tryd.f29.body.getD .skip
def tb_ref1_Text : Tb := [(6, ⟨[0, 3, 4], []⟩)]
inductive J_ref1_Text where
  | l6 (u : Int) (s : ByteArray)
def T_ref1_Text (n : Int) : J_ref1_Text → JT J_ref1_Text (ByteArray)
  | .l6 u s =>
    .br (decide (u > (0 : Int)))
      (.br (decide ((Int.ofNat ((ByteArray.size (bytesText [(IntKind.u8.wrap (IntKind.u64.wrap ((48 : Int) + (Int.tmod u (10 : Int)))))])) + (ByteArray.size s))) > (9223372036854775807 : Int)))
        (.no)
      (.jmp (.l6 (IntKind.u64.wrap (Int.tdiv u (10 : Int))) ((bytesText [(IntKind.u8.wrap (IntKind.u64.wrap ((48 : Int) + (Int.tmod u (10 : Int)))))]) ++ s))))
    (.br (eqB s (bs []))
      (.br (decide ((Int.ofNat ((ByteArray.size (bytesText [(IntKind.u8.wrap (IntKind.u64.wrap ((48 : Int) + (Int.tmod u (10 : Int)))))])) + (ByteArray.size s))) > (9223372036854775807 : Int)))
        (.no)
      (.jmp (.l6 (IntKind.u64.wrap (Int.tdiv u (10 : Int))) ((bytesText [(IntKind.u8.wrap (IntKind.u64.wrap ((48 : Int) + (Int.tmod u (10 : Int)))))]) ++ s))))
    (.br (decide (n < (0 : Int)))
      (.br (decide ((Int.ofNat ((ByteArray.size (bs [45])) + (ByteArray.size s))) > (9223372036854775807 : Int)))
        (.no)
      (.leaf ((bs [45]) ++ s)))
    (.leaf s)))
def T0_ref1_Text (n : Int) : JT J_ref1_Text (ByteArray) :=
  .br (decide (n < (0 : Int)))
    (.jmp (.l6 (IntKind.u64.wrap ((0 : Int) - (IntKind.u64.wrap n))) (bs [])))
  (.jmp (.l6 (IntKind.u64.wrap n) (bs [])))
def R_ref1_Text : ByteArray → AV := fun (r : ByteArray) => .d .str r
def S_ref1_Text (n : Int) : J_ref1_Text → Nat × St
  | .l6 u s => (6, ⟨mkTm 32 [(0, .d (.int .i64) n), (3, .d (.int .u64) u), (4, .d .str s)], []⟩)
theorem en_ref1_Text (n : Int) (L : Lt) : entryA Go.Proofs.Tryd.prog (clOf t_ref1_Text) tb_ref1_Text Go.Proofs.Tryd.f29 c_ref1_Text L (toForms sg_ref1_Text (n, ())) = (T0_ref1_Text n).run (fun v => some (R_ref1_Text v, tps (toForms sg_ref1_Text (n, ())))) fun j => L (S_ref1_Text n j).1 (S_ref1_Text n j).2 := by kernel_rfl
theorem lp_ref1_Text (n : Int) : ∀ (L : Lt) (j : J_ref1_Text), procOf (procsF Go.Proofs.Tryd.prog (clOf t_ref1_Text) tb_ref1_Text Go.Proofs.Tryd.f29 c_ref1_Text (toForms sg_ref1_Text (n, ()))) (S_ref1_Text n j).1 L (S_ref1_Text n j).2 = (T_ref1_Text n j).run (fun v => some (R_ref1_Text v, tps (toForms sg_ref1_Text (n, ())))) fun j => L (S_ref1_Text n j).1 (S_ref1_Text n j).2
  | L, .l6 u s => by kernel_rfl
end Go.Ev
end

section
set_option linter.unusedSectionVars false
set_option linter.unusedVariables false
set_option linter.unusedSimpArgs false
set_option linter.unusedVariables false
set_option linter.unusedSimpArgs false
open Go
namespace Go.Ev
/-- A number's last digit. -/
def dig (u : Int) : ByteArray := bytesText [(IntKind.u8.wrap (IntKind.u64.wrap ((48 : Int) + (Int.tmod u (10 : Int)))))]
theorem dig_size (u : Int) : (dig u).size = 1 := rfl
def v_ref1_Text (n : Int) : ByteArray := if n < 10 then dig n ++ bs [] else dig (Int.tdiv n 10) ++ (dig n ++ bs [])
def k_ref1_Text (n : Int) : Bool := decide (0 ≤ n) && decide (n < 100)
theorem wrap_u64 {n : Int} (h0 : 0 ≤ n) (h1 : n < 18446744073709551616) : IntKind.u64.wrap n = n := by
  unfold IntKind.wrap
  simp [IntKind.bits, IntKind.signed]
  omega
theorem g_ref1_Text (n : Int) (hk : k_ref1_Text n = true) : Goes (T_ref1_Text n) (T0_ref1_Text n) (v_ref1_Text n) := by
  unfold k_ref1_Text at hk
  simp only [Bool.and_eq_true, decide_eq_true_eq] at hk
  obtain ⟨h0, h1⟩ := hk
  have hd : ∀ u : Int, bytesText [(IntKind.u8.wrap (IntKind.u64.wrap ((48 : Int) + (Int.tmod u (10 : Int)))))] = dig u := fun _ => rfl
  have hneg : decide (n < 0) = false := by simp; omega
  have hne : ∀ u s, eqB (dig u ++ s) (bs []) = false := fun u s => by
    rw [eqB_eq, decide_eq_false_iff_not]
    intro e
    have := congrArg ByteArray.size e
    rw [ByteArray.size_append, dig_size] at this
    have h2 : (bs []).size = 0 := rfl
    omega
  have fin : ∀ s, Goes (T_ref1_Text n) (.jmp (.l6 0 (dig s ++ bs []))) (dig s ++ bs []) ∧ ∀ q, Goes (T_ref1_Text n) (.jmp (.l6 0 (dig q ++ (dig s ++ bs [])))) (dig q ++ (dig s ++ bs [])) := fun s => by
    constructor
    · rw [goes_jmp]
      simp only [T_ref1_Text, goes_br, hne, hneg]
      simp [goes_leaf]
    · intro q
      rw [goes_jmp]
      simp only [T_ref1_Text, goes_br, hne, hneg]
      simp [goes_leaf]
  have step : ∀ u s, 0 ≤ u → u < 100 → s.size < 10 → (0 < u ∨ eqB s (bs []) = true) → Goes (T_ref1_Text n) (.jmp (.l6 (Int.tdiv u 10) (dig u ++ s))) (v_ref1_Text n) → Goes (T_ref1_Text n) (.jmp (.l6 u s)) (v_ref1_Text n) := fun u s hu hu1 hs hc h => by
    rw [goes_jmp]
    have hw : IntKind.u64.wrap (Int.tdiv u 10) = Int.tdiv u 10 := wrap_u64 (Int.tdiv_nonneg hu (by omega)) (by have := Int.tdiv_le_self 10 hu; omega)
    have hsz : decide (Int.ofNat ((dig u).size + s.size) > 9223372036854775807) = false := by
      rw [dig_size]; simp; omega
    simp only [T_ref1_Text, goes_br, hd, hsz, hw]
    rcases hc with hc | hc
    · rw [if_pos (decide_eq_true hc)]
      simpa using h
    · rw [hc]
      by_cases hu0 : 0 < u
      · rw [if_pos (decide_eq_true hu0)]
        simpa using h
      · rw [if_neg (by simpa using hu0), if_pos rfl]
        simpa using h
  unfold T0_ref1_Text
  simp only [goes_br, hneg, wrap_u64 h0 (show n < 18446744073709551616 by omega)]
  rw [if_neg (by decide)]
  refine step n (bs []) h0 h1 (by decide) (.inr (by decide)) ?_
  by_cases h9 : n < 10
  · have : Int.tdiv n 10 = 0 := Int.tdiv_eq_zero_of_lt h0 h9
    rw [this]
    unfold v_ref1_Text
    rw [if_pos h9]
    exact (fin n).1
  · have hq : 0 < Int.tdiv n 10 ∧ Int.tdiv n 10 < 10 := by rw [Int.tdiv_eq_ediv_of_nonneg h0]; omega
    refine step (Int.tdiv n 10) (dig n ++ bs []) (by omega) (by omega) (by rw [ByteArray.size_append, dig_size]; decide) (.inl hq.1) ?_
    rw [Int.tdiv_eq_zero_of_lt (a := Int.tdiv n 10) (by omega) hq.2]
    unfold v_ref1_Text
    rw [if_neg h9]
    exact (fin n).2 _
end Go.Ev
end

section
set_option linter.unusedSectionVars false
set_option linter.unusedVariables false
set_option linter.unusedSimpArgs false
set_option maxRecDepth 100000
set_option linter.unusedVariables false
open Go Go.Ev
namespace Go.Ev
noncomputable def e_ref1_Text : Run := entG sg_ref1_Text R_ref1_Text (fun a => k_ref1_Text a.1) (fun a => v_ref1_Text a.1)
theorem ok_ref1_Text : EntOK Go.Proofs.Tryd.prog 29 e_ref1_Text := entG_ok (tb := tb_ref1_Text) (c := c_ref1_Text) tk_ref1_Text (by kernel_rfl) (by kernel_rfl) (by kernel_rfl) (fun a => by kernel_rfl) fun ⟨n, _⟩ hk => evF_goes (c := c_ref1_Text) (K := fun v => (R_ref1_Text v, tps (toForms sg_ref1_Text (n, ())))) (S := S_ref1_Text n) (by kernel_rfl) (en_ref1_Text n) (lp_ref1_Text n) (g_ref1_Text n hk)
end Go.Ev
end

section
set_option linter.unusedSectionVars false
set_option linter.unusedVariables false
set_option linter.unusedSimpArgs false
set_option maxRecDepth 100000
set_option linter.unusedVariables false
open Go Go.Ev
namespace Go.Ev
/-! ### paling/palingbook.Pick -/
def sg_book_Pick : Sig := [(false, (.int .i64)), (false, (.int .i64))]
noncomputable def t_book_Pick : Tbl := []
theorem tk_book_Pick : ∀ p ∈ t_book_Pick, EntOK Go.Proofs.Tryd.prog p.1 p.2 := tbl_nil
noncomputable def c_book_Pick : Code := Go.Proofs.Tryd.f28.body.getD .skip
def tb_book_Pick : Tb := []
def T_book_Pick (n : Int) (m : Int) : Empty → JT Empty (Int) := fun j => nomatch j
def T0_book_Pick (n : Int) (m : Int) : JT Empty (Int) :=
  .br (m == (0 : Int))
    (.no)
  (.br (decide ((Int.tmod n m) < (0 : Int)))
    (.leaf (IntKind.i64.wrap ((Int.tmod n m) + m)))
  (.leaf (Int.tmod n m)))
def v_book_Pick (n : Int) (m : Int) : Int :=
  bif (m == (0 : Int)) then
    (0 : Int)
  else bif (decide ((Int.tmod n m) < (0 : Int))) then
    (IntKind.i64.wrap ((Int.tmod n m) + m))
  else (Int.tmod n m)
def k_book_Pick (n : Int) (m : Int) : Bool :=
  bif (m == (0 : Int)) then
    false
  else bif (decide ((Int.tmod n m) < (0 : Int))) then
    true
  else true
theorem g_book_Pick (n : Int) (m : Int) (hk : k_book_Pick n m = true) : Goes (T_book_Pick n m) (T0_book_Pick n m) (v_book_Pick n m) :=
  Goes.brk hk (fun hk =>
    Goes.nok hk) (fun hk =>
    Goes.brk hk (fun hk =>
      Goes.leaf) (fun hk =>
      Goes.leaf))
def R_book_Pick : Int → AV := fun (r : Int) => .d (.int .i64) r
def S_book_Pick (n : Int) (m : Int) : Empty → Nat × St := fun j => nomatch j
theorem en_book_Pick (n : Int) (m : Int) (L : Lt) : entryA Go.Proofs.Tryd.prog (clOf t_book_Pick) tb_book_Pick Go.Proofs.Tryd.f28 c_book_Pick L (toForms sg_book_Pick (n, m, ())) = (T0_book_Pick n m).run (fun v => some (R_book_Pick v, tps (toForms sg_book_Pick (n, m, ())))) fun j => L (S_book_Pick n m j).1 (S_book_Pick n m j).2 := by kernel_rfl
theorem lp_book_Pick (n : Int) (m : Int) : ∀ (L : Lt) (j : Empty), procOf (procsF Go.Proofs.Tryd.prog (clOf t_book_Pick) tb_book_Pick Go.Proofs.Tryd.f28 c_book_Pick (toForms sg_book_Pick (n, m, ()))) (S_book_Pick n m j).1 L (S_book_Pick n m j).2 = (T_book_Pick n m j).run (fun v => some (R_book_Pick v, tps (toForms sg_book_Pick (n, m, ())))) fun j => L (S_book_Pick n m j).1 (S_book_Pick n m j).2 := fun L j => nomatch j
noncomputable def e_book_Pick : Run := entG sg_book_Pick R_book_Pick (fun a => k_book_Pick a.1 a.2.1) (fun a => v_book_Pick a.1 a.2.1)
theorem ok_book_Pick : EntOK Go.Proofs.Tryd.prog 28 e_book_Pick := entG_ok (tb := tb_book_Pick) (c := c_book_Pick) tk_book_Pick (by kernel_rfl) (by kernel_rfl) (by kernel_rfl) (fun a => by kernel_rfl) fun ⟨n, m, _⟩ hk => evF_goes (c := c_book_Pick) (K := fun v => (R_book_Pick v, tps (toForms sg_book_Pick (n, m, ())))) (S := S_book_Pick n m) (by kernel_rfl) (en_book_Pick n m) (lp_book_Pick n m) (g_book_Pick n m hk)
end Go.Ev
end

section
set_option linter.unusedSectionVars false
set_option linter.unusedVariables false
set_option linter.unusedSimpArgs false
/- The helper Pick, and what is made with it. -/
set_option linter.unusedVariables false
namespace Go.Ev
open Go
theorem pick_lt {n m : Int} (h1 : 0 < m) (h2 : m < 9223372036854775808) : k_book_Pick n m = true ∧ 0 ≤ v_book_Pick n m ∧ v_book_Pick n m < m := by
  have h0 : (m == 0) = false := by simp; omega
  have hl : Int.tmod n m < m := Int.tmod_lt_of_pos n h1
  have hg : -m < Int.tmod n m := by have := Int.tmod_lt_of_pos (-n) h1; rw [Int.neg_tmod] at this; omega
  unfold k_book_Pick v_book_Pick
  simp only [h0, cond_false, Bool.cond_self, true_and]
  by_cases hn : Int.tmod n m < 0
  · simp only [hn, decide_true, cond_true]
    rw [wrap_i64 (by omega) (by omega)]
    omega
  · simp only [hn, decide_false, cond_false]
    omega
theorem pick_fin {P : Int → Prop} {n m : Int} (h1 : 0 < m) (h2 : m < 9223372036854775808) (h : ∀ k : Fin m.toNat, P (k.1 : Int)) : P (v_book_Pick n m) := by
  obtain ⟨_, h3, h4⟩ := pick_lt (n := n) h1 h2
  have := h ⟨(v_book_Pick n m).toNat, by omega⟩
  rwa [Int.toNat_of_nonneg h3] at this
end Go.Ev
end

section
set_option linter.unusedSectionVars false
set_option linter.unusedVariables false
set_option linter.unusedSimpArgs false
/- Where cells lie: what the laws of chapter 11 need of one program that may be. -/
set_option maxRecDepth 100000
set_option linter.unusedVariables false
set_option linter.unusedSimpArgs false
namespace Go.Ev
open Go
theorem symW_at : ∀ {l : List (El T_api_Sym)} {i : Nat} (h : i < l.length) {k : Int} (j : Nat), SymsOK l → 0 ≤ k → k < (show Int from l[i].2.1) → symW (aheadC (l.take i) + k) j l = ((j + i : Nat) : Int)
  | s :: l, 0, h, k, j, hs, h0, h1 => by
    unfold symW
    have e : decide (aheadC (List.take 0 (s :: l)) + k < s.2.1) = true := decide_eq_true (by rw [List.take_zero, show aheadC [] = 0 from rfl, Int.zero_add]; exact h1)
    rw [if_pos e, Nat.add_zero]
  | s :: l, i + 1, h, k, j, hs, h0, h1 => by
    have hb := aheadC_bounds (hs.tail)
    have hlen := hs.len
    rw [List.length_cons] at hlen
    have ht : SymsOK (l.take i) := ⟨by rw [List.length_take]; omega, fun x hx => hs.tail.lo x (List.mem_of_mem_take hx), fun x hx => hs.tail.hi x (List.mem_of_mem_take hx), fun x hx => hs.tail.init x (List.mem_of_mem_take hx)⟩
    have hb2 := aheadC_bounds ht
    rw [List.length_take] at hb2
    have hi : i < l.length := by simpa using h
    have ih := symW_at (l := l) (i := i) hi (k := k) (j + 1) hs.tail h0 (by simpa using h1)
    have h2 : (show Int from l[i].2.1) ≤ 64 := hs.tail.hi _ (List.getElem_mem hi)
    have hk : k < (show Int from l[i].2.1) := by simpa using h1
    have gen : ∀ x : Int, 1 ≤ x → x ≤ 64 → s.2.1 = x → symW (aheadC (List.take (i + 1) (s :: l)) + k) j (s :: l) = ((j + (i + 1) : Nat) : Int) := by
      intro x hx1 hx2 e
      have ea : aheadC (List.take (i + 1) (s :: l)) = x + aheadC (l.take i) := by
        unfold aheadC
        rw [List.take_succ_cons, List.map_cons, List.sum_cons]
        exact congrArg (· + _) e
      unfold symW
      have e1 : decide (aheadC (List.take (i + 1) (s :: l)) + k < s.2.1) = false := decide_eq_false (by rw [ea, e]; omega)
      rw [if_neg (by rw [e1]; decide), ea, e, wrap_i64 (by omega) (by omega), show x + aheadC (List.take i l) + k - x = aheadC (l.take i) + k by omega, ih]
      omega
    exact gen _ (hs.lo s (by simp)) (hs.hi s (by simp)) rfl
theorem symW_end : ∀ {l : List (El T_api_Sym)} (j : Nat), SymsOK l → symW (aheadC l) j l = -1
  | [], _, _ => rfl
  | s :: l, j, hs => by
    have hb := aheadC_bounds (hs.tail)
    have hlen := hs.len
    rw [List.length_cons] at hlen
    have ih := symW_end (l := l) (j + 1) hs.tail
    have gen : ∀ x : Int, 1 ≤ x → x ≤ 64 → s.2.1 = x → symW (aheadC (s :: l)) j (s :: l) = -1 := by
      intro x hx1 hx2 e
      have ea : aheadC (s :: l) = x + aheadC l := by
        unfold aheadC
        rw [List.map_cons, List.sum_cons]
        exact congrArg (· + _) e
      unfold symW
      have e1 : decide (aheadC (s :: l) < s.2.1) = false := decide_eq_false (by rw [ea, e]; omega)
      rw [if_neg (by rw [e1]; decide), ea, e, wrap_i64 (by omega) (by omega), show x + aheadC l - x = aheadC l by omega, ih]
    exact gen _ (hs.lo s (by simp)) (hs.hi s (by simp)) rfl
theorem take_ok {l : List (El T_api_Sym)} (hs : SymsOK l) (i : Nat) : SymsOK (l.take i) := ⟨by have := hs.len; rw [List.length_take]; omega, fun x hx => hs.lo x (List.mem_of_mem_take hx), fun x hx => hs.hi x (List.mem_of_mem_take hx), fun x hx => hs.init x (List.mem_of_mem_take hx)⟩
theorem l5_val {p : El T_api_Prog} (hs : SymsOK p.1) (k g : Int) {i : Nat} (hi : i < List.length p.1) (m : Int) (r : Int × Int × Int × El T_book_Act) {n : Int} (hn : inI n) :
    v_cells_Addr_l5 p (k, g, (i : Int), m) r n = (if 0 ≤ n ∧ n < (show Int from (p.1[i]).2.1) then (aheadC (p.1.take i) + n, true) else (0, false)) := by
  have hlen := hs.len
  have hk1 : k_cells_ahead p (i : Int) = true := by unfold k_cells_ahead; simp; omega
  have hmem : p.1[i] ∈ p.1 := List.getElem_mem hi
  have hb : (decide ((0 : Int) ≤ (i : Int)) && decide ((i : Int) < Int.ofNat (List.length p.1))) = true := bound_len hi
  have hu := u64_size (s := (show Int from (p.1[i]).2.1)) hn (hs.lo _ hmem) (hs.hi _ hmem)
  have h2 : (show Int from (p.1[i]).2.1) ≤ 64 := hs.hi _ hmem
  have hbd := aheadC_bounds (take_ok hs i)
  rw [List.length_take] at hbd
  unfold v_cells_Addr_l5
  change decide (IntKind.u64.wrap n ≥ IntKind.u64.wrap (p.1[i]).2.1) = (decide (n < 0) || decide (n ≥ (p.1[i]).2.1)) at hu
  simp only [hb, hk1, Int.toNat_natCast, getD_lt hi, hu, cond_true]
  have hv : v_cells_ahead p (i : Int) = aheadC (p.1.take i) := by
    unfold v_cells_ahead
    rw [Int.toNat_natCast, aheadW_eq (take_ok hs i) (by omega) (by rw [List.length_take]; omega), Int.zero_add]
  rw [hv]
  have gen : ∀ x : Int, x ≤ 64 → (p.1[i]).2.1 = x → (bif decide (n < 0) || decide (n ≥ x) then ((0 : Int), false) else (IntKind.i64.wrap (aheadC (List.take i p.1) + n), true)) = if 0 ≤ n ∧ n < x then (aheadC (List.take i p.1) + n, true) else (0, false) := by
    intro x hx e
    by_cases h0 : 0 ≤ n ∧ n < x
    · have d1 : decide (n < 0) = false := decide_eq_false (by omega)
      have d2 : decide (n ≥ x) = false := decide_eq_false (by omega)
      rw [d1, d2, if_pos h0, wrap_i64 (by omega) (by omega)]
      rfl
    · have d : (decide (n < 0) || decide (n ≥ x)) = true := by simp; omega
      rw [d, if_neg h0]
      rfl
  exact gen _ h2 rfl
/-- What Addr tells of a program that may be: of a number, and of a register. -/
theorem addr_at {p : El T_api_Prog} (hp : smallProg p = true) (hc : checkC p = 0) {i : Nat} (hi : i < List.length p.1) {n : Int} (hn : inI n) (h0 : 0 ≤ n) (r : Int × Int × Int × El T_book_Act) :
    v_cells_Addr p (3, 0, (i : Int), n) r = if 0 ≤ n ∧ n < (show Int from (p.1[i]).2.1) then (aheadC (p.1.take i) + n, true) else (0, false) := by
  have hs := symsOK_of hc
  rw [← l5_val hs 3 0 hi n r hn]
  have hv : k_valid_Check p = true := hp
  have e1 : decide ((i : Int) ≥ Int.ofNat (List.length p.1)) = false := lt_len_not' hi
  have hR : v_opnd_Right (3, 0, (i : Int), n) = true := by unfold v_opnd_Right; simp [h0]
  unfold v_cells_Addr v_cells_Addr_l2
  have e2 : decide (List.length p.1 ≤ i) = false := decide_eq_false (by omega)
  simp [hR, hv, v_valid_Check, hc, e1, e2]
where lt_len_not' {i m : Nat} (h : i < m) : decide ((i : Int) ≥ Int.ofNat m) = false := decide_eq_false (by simp; omega)
def regOf (r : Int × Int × Int × El T_book_Act) : Nat → Int
  | 0 => r.1
  | 1 => r.2.1
  | 2 => r.2.2.1
  | 3 => r.2.2.2.1
  | 4 => r.2.2.2.2.1
  | 5 => r.2.2.2.2.2.1
  | 6 => r.2.2.2.2.2.2.1
  | _ => r.2.2.2.2.2.2.2
theorem addr_by {p : El T_api_Prog} (hp : smallProg p = true) (hc : checkC p = 0) {i : Nat} (hi : i < List.length p.1) {g : Nat} (hg : g < 8) (r : Int × Int × Int × El T_book_Act) (hn : inI (regOf r g)) :
    v_cells_Addr p (4, (g : Int), (i : Int), 0) r = if 0 ≤ regOf r g ∧ regOf r g < (show Int from (p.1[i]).2.1) then (aheadC (p.1.take i) + regOf r g, true) else (0, false) := by
  have hs := symsOK_of hc
  rw [← l5_val hs 4 g hi 0 r hn]
  have hv : k_valid_Check p = true := hp
  have e1 : decide ((i : Int) ≥ Int.ofNat (List.length p.1)) = false := addr_at.lt_len_not' hi
  have hR : v_opnd_Right (4, (g : Int), (i : Int), 0) = true := by unfold v_opnd_Right; rw [reg_eq]; simp; omega
  unfold v_cells_Addr v_cells_Addr_l2
  rcases g with _ | _ | _ | _ | _ | _ | _ | _ | g
  case succ.succ.succ.succ.succ.succ.succ.succ => omega
  all_goals
    simp only [hR, hv, v_valid_Check, hc, e1, Bool.not_true, cond_true, cond_false, bne_self_eq_false]
    simp [regOf]
/-! made names -/
def nameS (k : Nat) : ByteArray := bs [115] ++ v_ref1_Text (k : Int)
theorem nameS_right : ∀ k : Fin 6, nameRight (nameS k.1) = true ∧ smallText (nameS k.1) = true ∧ ((List.range k.1).map nameS).contains (nameS k.1) = false := by decide +kernel
structure Made (l : List (El T_api_Sym)) : Prop where
  len : l.length ≤ 6
  name : ∀ k (h : k < l.length), (l[k]).1 = nameS k
  lo : ∀ s ∈ l, (1 : Int) ≤ s.2.1
  hi : ∀ s ∈ l, (show Int from s.2.1) ≤ 5
  init : ∀ s ∈ l, (List.length s.2.2 : Int) ≤ s.2.1
theorem made_small {l : List (El T_api_Sym)} (h : Made l) : smallProg (l, []) = true := by
  unfold smallProg
  simp only [List.all_nil, Bool.and_true, List.all_eq_true]
  intro s hs
  obtain ⟨k, hk, rfl⟩ := List.mem_iff_getElem.1 hs
  rw [h.name k hk]
  exact (nameS_right ⟨k, by have := h.len; omega⟩).2.1
theorem made_check {l : List (El T_api_Sym)} (h : Made l) : checkC (l, []) = 0 := by
  have loop : ∀ k, k ≤ l.length → symsC 0 ((List.range k).map nameS) (l.drop k) = 0 := by
    refine down ?_ fun k hk ih => ?_
    · rw [List.drop_length]; rfl
    · rw [drop_cons hk]
      have hm := List.getElem_mem hk
      have h1 := nameS_right ⟨k, by have := h.len; omega⟩
      have h2 : ¬ ((l[k]).2.1 < (1 : Int) ∨ (64 : Int) < (l[k]).2.1 ∨ (l[k]).2.1 < (List.length (l[k]).2.2 : Int)) := by
        have gen : ∀ x y : Int, 1 ≤ x → x ≤ 5 → y ≤ x → ¬ (x < 1 ∨ 64 < x ∨ x < y) := fun x y a b c => by omega
        exact gen _ _ (h.lo _ hm) (h.hi _ hm) (h.init _ hm)
      unfold symsC
      rw [h.name k hk, if_neg (by rw [h1.1]; decide), if_neg (by rw [h1.2.2]; decide), if_neg h2]
      rw [List.range_succ, List.map_append] at ih
      exact ih
  unfold checkC
  rw [if_neg (by have := h.len; simp; omega)]
  exact loop 0 (Nat.zero_le _)
theorem Made.nil : Made [] := ⟨by simp, fun k h => by simp at h, by simp, by simp, by simp⟩
theorem Made.snoc {l : List (El T_api_Sym)} (h : Made l) (h6 : l.length < 6) {z : Int} {i : List Int} (h1 : 1 ≤ z) (h2 : z ≤ 5) (hi : (i.length : Int) ≤ z) : Made (l ++ [(nameS l.length, (z, i))]) := by
  have mem : ∀ {Q : El T_api_Sym → Prop}, (∀ s ∈ l, Q s) → Q (nameS l.length, (z, i)) → ∀ s ∈ l ++ [(nameS l.length, (z, i))], Q s := fun a b s hs => by
    rcases List.mem_append.1 hs with hs | hs
    · exact a s hs
    · rw [List.mem_singleton.1 hs]; exact b
  refine ⟨by rw [List.length_append, List.length_singleton]; omega, fun k hk => ?_, mem h.lo h1, mem h.hi h2, mem h.init hi⟩
  by_cases hkl : k < l.length
  · rw [List.getElem_append_left hkl]; exact h.name k hkl
  · have : k = l.length := by rw [List.length_append, List.length_singleton] at hk; omega
    subst this
    rw [List.getElem_append_right (by omega)]
    simp
theorem inI_wrap (n : Int) : inI (IntKind.i64.wrap n) := by
  have e : IntKind.i64.wrap n = if n % 18446744073709551616 ≥ 9223372036854775808 then n % 18446744073709551616 - 18446744073709551616 else n % 18446744073709551616 := by
    unfold IntKind.wrap
    simp [IntKind.signed, IntKind.bits]
  unfold inI
  rw [e]
  split <;> omega
end Go.Ev
end

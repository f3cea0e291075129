/- Part of the proof of: For every made program fences that were laid in, taken out again, leave the program as it was, and one that may be with them may be: the law answers true for every input. -/
import Derived.Test.YtijcpdnlofpccaaDoorCon0
section
set_option linter.unusedSectionVars false
set_option linter.unusedVariables false
set_option linter.unusedSimpArgs false
set_option maxRecDepth 100000
set_option linter.unusedVariables false
open Go Go.Ev
namespace Go.Ev
/-! ### paling/valid.Count -/
def sg_valid_Count : Sig := [(true, (.sl T_api_Ins))]
noncomputable def t_valid_Count : Tbl := []
theorem tk_valid_Count : ∀ p ∈ t_valid_Count, EntOK Go.Proofs.Tryd.prog p.1 p.2 := tbl_nil
noncomputable def c_valid_Count : Code := Go.Proofs.Tryd.f76.body.getD .skip
def tb_valid_Count : Tb := [(4, ⟨[3, 7, 8, 9], []⟩)]
inductive J_valid_Count where
  | l4 (n : Int) (h : Int)
def T_valid_Count (t : List (El T_api_Ins)) : J_valid_Count → JT J_valid_Count (Int)
  | .l4 n h =>
    .br (decide (h < (Int.ofNat (List.length t))))
      (.br ((decide ((0 : Int) ≤ h)) && (decide (h < (Int.ofNat (List.length t)))))
        (.br ((List.getD t (Int.toNat h) (dflt T_api_Ins)).1 != (12 : Int))
          (.jmp (.l4 (IntKind.i64.wrap (n + (1 : Int))) (IntKind.i64.wrap (h + (1 : Int)))))
        (.jmp (.l4 n (IntKind.i64.wrap (h + (1 : Int))))))
      (.no))
    (.leaf n)
def T0_valid_Count (t : List (El T_api_Ins)) : JT J_valid_Count (Int) :=
  .jmp (.l4 (0 : Int) (0 : Int))
def R_valid_Count : Int → AV := fun (r : Int) => .d (.int .i64) r
def S_valid_Count (t : List (El T_api_Ins)) : J_valid_Count → Nat × St
  | .l4 n h => (4, ⟨mkTm 20 [(3, .d (.int .i64) n), (7, .d (.sl T_api_Ins) t), (8, .d (.int .i64) (Int.ofNat (List.length t))), (9, .d (.int .i64) h)], []⟩)
theorem en_valid_Count (t : List (El T_api_Ins)) (L : Lt) : entryA Go.Proofs.Tryd.prog (clOf t_valid_Count) tb_valid_Count Go.Proofs.Tryd.f76 c_valid_Count L (toForms sg_valid_Count (t, ())) = (T0_valid_Count t).run (fun v => some (R_valid_Count v, tps (toForms sg_valid_Count (t, ())))) fun j => L (S_valid_Count t j).1 (S_valid_Count t j).2 := by kernel_rfl
theorem lp_valid_Count (t : List (El T_api_Ins)) : ∀ (L : Lt) (j : J_valid_Count), procOf (procsF Go.Proofs.Tryd.prog (clOf t_valid_Count) tb_valid_Count Go.Proofs.Tryd.f76 c_valid_Count (toForms sg_valid_Count (t, ()))) (S_valid_Count t j).1 L (S_valid_Count t j).2 = (T_valid_Count t j).run (fun v => some (R_valid_Count v, tps (toForms sg_valid_Count (t, ())))) fun j => L (S_valid_Count t j).1 (S_valid_Count t j).2
  | L, .l4 n h => by kernel_rfl
end Go.Ev
end

section
set_option linter.unusedSectionVars false
set_option linter.unusedVariables false
set_option linter.unusedSimpArgs false
set_option linter.unusedVariables false
set_option linter.unusedSimpArgs false
open Go
namespace Go.Ev
def v_valid_Count (t : List (El T_api_Ins)) : Int := (countM t : Int)
def k_valid_Count (t : List (El T_api_Ins)) : Bool := decide (t.length < 1099511627776)
theorem g_valid_Count (t : List (El T_api_Ins)) (hk : k_valid_Count t = true) : Goes (T_valid_Count t) (T0_valid_Count t) (v_valid_Count t) := by
  have hn : t.length < 1099511627776 := of_decide_eq_true hk
  have loop : ∀ k, k ≤ t.length → ∀ n : Nat, n ≤ k → Goes (T_valid_Count t) (.jmp (.l4 (n : Int) (k : Int))) ((n + countM (t.drop k) : Nat) : Int) := by
    refine down ?_ fun k hk ih => ?_
    · intro n hnk
      rw [goes_jmp]
      simp only [T_valid_Count, goes_br, lt_len_not (Nat.lt_irrefl _), goes_leaf, List.drop_length]
      simp [countM]
    · intro n hnk
      rw [goes_jmp]
      simp only [T_valid_Count, goes_br, lt_len hk, nng, Bool.and_self, if_true, Int.toNat_natCast, getD_lt hk, wrap_succ (k := k) (by omega), wrap_succ (k := n) (by omega)]
      rw [drop_cons hk]
      unfold countM
      rw [List.filter_cons]
      split
      · rename_i h
        have := ih (n + 1) (by omega)
        unfold countM at this
        rw [List.length_cons, show n + ((List.filter (fun i => i.1 != (12 : Int)) (List.drop (k + 1) t)).length + 1) = n + 1 + (List.filter (fun i => i.1 != (12 : Int)) (List.drop (k + 1) t)).length by omega]
        exact this
      · exact ih n (by omega)
  have := loop 0 (Nat.zero_le _) 0 (Nat.le_refl _)
  unfold T0_valid_Count v_valid_Count
  simpa using this
end Go.Ev
end

section
set_option linter.unusedSectionVars false
set_option linter.unusedVariables false
set_option linter.unusedSimpArgs false
set_option maxRecDepth 100000
set_option linter.unusedVariables false
open Go Go.Ev
namespace Go.Ev
noncomputable def e_valid_Count : Run := entG sg_valid_Count R_valid_Count (fun a => k_valid_Count a.1) (fun a => v_valid_Count a.1)
theorem ok_valid_Count : EntOK Go.Proofs.Tryd.prog 76 e_valid_Count := entG_ok (tb := tb_valid_Count) (c := c_valid_Count) tk_valid_Count (by kernel_rfl) (by kernel_rfl) (by kernel_rfl) (fun a => by kernel_rfl) fun ⟨t, _⟩ hk => evF_goes (c := c_valid_Count) (K := fun v => (R_valid_Count v, tps (toForms sg_valid_Count (t, ())))) (S := S_valid_Count t) (by kernel_rfl) (en_valid_Count t) (lp_valid_Count t) (g_valid_Count t hk)
end Go.Ev
end

section
set_option linter.unusedSectionVars false
set_option linter.unusedVariables false
set_option linter.unusedSimpArgs false
set_option maxRecDepth 100000
set_option linter.unusedVariables false
open Go Go.Ev
namespace Go.Ev
/-! ### paling/valid.place -/
def sg_valid_place : Sig := [(true, T_api_Prog), (true, T_api_Opd)]
noncomputable def t_valid_place : Tbl := []
theorem tk_valid_place : ∀ p ∈ t_valid_place, EntOK Go.Proofs.Tryd.prog p.1 p.2 := tbl_nil
noncomputable def c_valid_place : Code := Go.Proofs.Tryd.f78.body.getD .skip
def tb_valid_place : Tb := [(5, ⟨[2, 3, 23], []⟩)]
inductive J_valid_place where
  | l5 (h : Bool)
def T_valid_place (p : El T_api_Prog) (o : El T_api_Opd) : J_valid_place → JT J_valid_place (Int)
  | .l5 h =>
    .br h
      (.leaf (7 : Int))
    (.br (o.1 == (3 : Int))
      (.br ((decide ((0 : Int) ≤ o.2.2.1)) && (decide (o.2.2.1 < (Int.ofNat (List.length p.1)))))
        (.br (decide (o.2.2.2 ≥ (List.getD p.1 (Int.toNat o.2.2.1) (dflt T_api_Sym)).2.1))
          (.leaf (8 : Int))
        (.leaf (0 : Int)))
      (.no))
    (.leaf (0 : Int)))
def T0_valid_place (p : El T_api_Prog) (o : El T_api_Opd) : JT J_valid_place (Int) :=
  .br (o.1 != (3 : Int))
    (.br (o.1 != (4 : Int))
      (.leaf (0 : Int))
    (.br (decide (o.2.2.1 < (0 : Int)))
      (.jmp (.l5 true))
    (.jmp (.l5 (decide (o.2.2.1 ≥ (Int.ofNat (List.length p.1))))))))
  (.br (decide (o.2.2.1 < (0 : Int)))
    (.jmp (.l5 true))
  (.jmp (.l5 (decide (o.2.2.1 ≥ (Int.ofNat (List.length p.1)))))))
def v_valid_place_l5 (p : El T_api_Prog) (o : El T_api_Opd) (h : Bool) : Int :=
  bif h then
    (7 : Int)
  else bif (o.1 == (3 : Int)) then
    bif ((decide ((0 : Int) ≤ o.2.2.1)) && (decide (o.2.2.1 < (Int.ofNat (List.length p.1))))) then
      bif (decide (o.2.2.2 ≥ (List.getD p.1 (Int.toNat o.2.2.1) (dflt T_api_Sym)).2.1)) then
        (8 : Int)
      else (0 : Int)
    else (0 : Int)
  else (0 : Int)
def k_valid_place_l5 (p : El T_api_Prog) (o : El T_api_Opd) (h : Bool) : Bool :=
  bif h then
    true
  else bif (o.1 == (3 : Int)) then
    bif ((decide ((0 : Int) ≤ o.2.2.1)) && (decide (o.2.2.1 < (Int.ofNat (List.length p.1))))) then
      bif (decide (o.2.2.2 ≥ (List.getD p.1 (Int.toNat o.2.2.1) (dflt T_api_Sym)).2.1)) then
        true
      else true
    else false
  else true
theorem g_valid_place_l5 (p : El T_api_Prog) (o : El T_api_Opd) (h : Bool) (hk : k_valid_place_l5 p o h = true) : Goes (T_valid_place p o) (.jmp (.l5 h)) (v_valid_place_l5 p o h) :=
  Goes.jmp (Goes.brk hk (fun hk =>
    Goes.leaf) (fun hk =>
    Goes.brk hk (fun hk =>
      Goes.brk hk (fun hk =>
        Goes.brk hk (fun hk =>
          Goes.leaf) (fun hk =>
          Goes.leaf)) (fun hk =>
        Goes.nok hk)) (fun hk =>
      Goes.leaf)))
def u_valid_place (p : El T_api_Prog) (o : El T_api_Opd) : Int :=
  bif (o.1 != (3 : Int)) then
    bif (o.1 != (4 : Int)) then
      (0 : Int)
    else bif (decide (o.2.2.1 < (0 : Int))) then
      v_valid_place_l5 p o true
    else v_valid_place_l5 p o (decide (o.2.2.1 ≥ (Int.ofNat (List.length p.1))))
  else bif (decide (o.2.2.1 < (0 : Int))) then
    v_valid_place_l5 p o true
  else v_valid_place_l5 p o (decide (o.2.2.1 ≥ (Int.ofNat (List.length p.1))))
def ku_valid_place (p : El T_api_Prog) (o : El T_api_Opd) : Bool :=
  bif (o.1 != (3 : Int)) then
    bif (o.1 != (4 : Int)) then
      true
    else bif (decide (o.2.2.1 < (0 : Int))) then
      k_valid_place_l5 p o true
    else k_valid_place_l5 p o (decide (o.2.2.1 ≥ (Int.ofNat (List.length p.1))))
  else bif (decide (o.2.2.1 < (0 : Int))) then
    k_valid_place_l5 p o true
  else k_valid_place_l5 p o (decide (o.2.2.1 ≥ (Int.ofNat (List.length p.1))))
theorem gu_valid_place (p : El T_api_Prog) (o : El T_api_Opd) (hk : ku_valid_place p o = true) : Goes (T_valid_place p o) (T0_valid_place p o) (u_valid_place p o) :=
  Goes.brk hk (fun hk =>
    Goes.brk hk (fun hk =>
      Goes.leaf) (fun hk =>
      Goes.brk hk (fun hk =>
        g_valid_place_l5 p o true hk) (fun hk =>
        g_valid_place_l5 p o (decide (o.2.2.1 ≥ (Int.ofNat (List.length p.1)))) hk))) (fun hk =>
    Goes.brk hk (fun hk =>
      g_valid_place_l5 p o true hk) (fun hk =>
      g_valid_place_l5 p o (decide (o.2.2.1 ≥ (Int.ofNat (List.length p.1)))) hk))
def R_valid_place : Int → AV := fun (r : Int) => .d (.int .i64) r
def S_valid_place (p : El T_api_Prog) (o : El T_api_Opd) : J_valid_place → Nat × St
  | .l5 h => (5, ⟨mkTm 39 [(2, .pt 3 0 0), (3, .pt 4 0 0), (23, .d .bool h)], [(3, 0, .box 27 [.d (.sl T_api_Sym) p.1, .d (.sl (.sl T_api_Ins)) p.2] none), (4, 0, .box 60 [.d (.int .i64) o.1, .d (.int .i64) o.2.1, .d (.int .i64) o.2.2.1, .d (.int .i64) o.2.2.2] none)]⟩)
theorem en_valid_place (p : El T_api_Prog) (o : El T_api_Opd) (L : Lt) : entryA Go.Proofs.Tryd.prog (clOf t_valid_place) tb_valid_place Go.Proofs.Tryd.f78 c_valid_place L (toForms sg_valid_place (p, o, ())) = (T0_valid_place p o).run (fun v => some (R_valid_place v, tps (toForms sg_valid_place (p, o, ())))) fun j => L (S_valid_place p o j).1 (S_valid_place p o j).2 := by kernel_rfl
theorem lp_valid_place (p : El T_api_Prog) (o : El T_api_Opd) : ∀ (L : Lt) (j : J_valid_place), procOf (procsF Go.Proofs.Tryd.prog (clOf t_valid_place) tb_valid_place Go.Proofs.Tryd.f78 c_valid_place (toForms sg_valid_place (p, o, ()))) (S_valid_place p o j).1 L (S_valid_place p o j).2 = (T_valid_place p o j).run (fun v => some (R_valid_place v, tps (toForms sg_valid_place (p, o, ())))) fun j => L (S_valid_place p o j).1 (S_valid_place p o j).2
  | L, .l5 h => by kernel_rfl
end Go.Ev
end

section
set_option linter.unusedSectionVars false
set_option linter.unusedVariables false
set_option linter.unusedSimpArgs false
set_option linter.unusedVariables false
set_option linter.unusedSimpArgs false
open Go
namespace Go.Ev
def v_valid_place (p : El T_api_Prog) (o : El T_api_Opd) : Int := placeC p o
theorem place_eq' (len : Nat) (size : Int → Int) (k s n : Int) :
  (bif (k != (3 : Int)) then
    bif (k != (4 : Int)) then
      (0 : Int)
    else bif (decide (s < (0 : Int))) then (7 : Int)
    else bif (decide (s ≥ (Int.ofNat len))) then
    (7 : Int)
  else bif (k == (3 : Int)) then
    bif ((decide ((0 : Int) ≤ s)) && (decide (s < (Int.ofNat len)))) then
      bif (decide (n ≥ size s)) then
        (8 : Int)
      else (0 : Int)
    else (0 : Int)
  else (0 : Int)
  else bif (decide (s < (0 : Int))) then (7 : Int)
    else bif (decide (s ≥ (Int.ofNat len))) then
    (7 : Int)
  else bif (k == (3 : Int)) then
    bif ((decide ((0 : Int) ≤ s)) && (decide (s < (Int.ofNat len)))) then
      bif (decide (n ≥ size s)) then
        (8 : Int)
      else (0 : Int)
    else (0 : Int)
  else (0 : Int)) = placeN len size k s n := by
  unfold placeN
  by_cases h3 : k = 3
  · subst h3
    by_cases hs : s < 0
    · simp [hs]
    by_cases hl : (len : Int) ≤ s
    · simp [hs, hl]
    have h1 : 0 ≤ s := by omega
    have h2 : s < (len : Int) := by omega
    by_cases hn : size s ≤ n
    · simp [hs, hl, hn, h1, h2]
    · simp [hs, hl, hn, h1, h2]
  by_cases h4 : k = 4
  · subst h4
    by_cases hs : s < 0
    · simp [hs]
    by_cases hl : (len : Int) ≤ s
    · simp [hs, hl]
    simp [hs, hl]
  have e3 : (k != (3 : Int)) = true := by simp [h3]
  have e4 : (k != (4 : Int)) = true := by simp [h4]
  rw [e3, e4]
  simp [h3, h4]
theorem place_k' (len : Nat) (size : Int → Int) (k s n : Int) :
  (bif (k != (3 : Int)) then
    bif (k != (4 : Int)) then
      true
    else bif (decide (s < (0 : Int))) then true
    else bif (decide (s ≥ (Int.ofNat len))) then
    true
  else bif (k == (3 : Int)) then
    bif ((decide ((0 : Int) ≤ s)) && (decide (s < (Int.ofNat len)))) then
      bif (decide (n ≥ size s)) then
        true
      else true
    else false
  else true
  else bif (decide (s < (0 : Int))) then true
    else bif (decide (s ≥ (Int.ofNat len))) then
    true
  else bif (k == (3 : Int)) then
    bif ((decide ((0 : Int) ≤ s)) && (decide (s < (Int.ofNat len)))) then
      bif (decide (n ≥ size s)) then
        true
      else true
    else false
  else true) = true := by
  by_cases h3 : k = 3
  · subst h3
    by_cases hs : s < 0
    · simp [hs]
    by_cases hl : (len : Int) ≤ s
    · simp [hs, hl]
    have h1 : 0 ≤ s := by omega
    have h2 : s < (len : Int) := by omega
    by_cases hn : size s ≤ n
    · simp [hs, hl, hn, h1, h2]
    · simp [hs, hl, hn, h1, h2]
  by_cases h4 : k = 4
  · subst h4
    by_cases hs : s < 0
    · simp [hs]
    by_cases hl : (len : Int) ≤ s
    · simp [hs, hl]
    simp [hs, hl]
  have e3 : (k != (3 : Int)) = true := by simp [h3]
  have e4 : (k != (4 : Int)) = true := by simp [h4]
  rw [e3, e4]
  simp [h3, h4]
theorem g_valid_place (p : El T_api_Prog) (o : El T_api_Opd) : Goes (T_valid_place p o) (T0_valid_place p o) (v_valid_place p o) := by
  have hk : ku_valid_place p o = true := place_k' p.1.length (fun s => (List.getD p.1 s.toNat (dflt T_api_Sym)).2.1) o.1 o.2.2.1 o.2.2.2
  have he : u_valid_place p o = v_valid_place p o := place_eq' p.1.length (fun s => (List.getD p.1 s.toNat (dflt T_api_Sym)).2.1) o.1 o.2.2.1 o.2.2.2
  rw [← he]
  exact gu_valid_place p o hk
end Go.Ev
end

section
set_option linter.unusedSectionVars false
set_option linter.unusedVariables false
set_option linter.unusedSimpArgs false
set_option maxRecDepth 100000
set_option linter.unusedVariables false
open Go Go.Ev
namespace Go.Ev
noncomputable def e_valid_place : Run := entT sg_valid_place R_valid_place (fun a => v_valid_place a.1 a.2.1)
theorem ok_valid_place : EntOK Go.Proofs.Tryd.prog 78 e_valid_place := entT_ok (tb := tb_valid_place) (c := c_valid_place) tk_valid_place (by kernel_rfl) (by kernel_rfl) (by kernel_rfl) (fun a => by kernel_rfl) fun ⟨p, o, _⟩ => evF_goes (c := c_valid_place) (K := fun v => (R_valid_place v, tps (toForms sg_valid_place (p, o, ())))) (S := S_valid_place p o) (by kernel_rfl) (en_valid_place p o) (lp_valid_place p o) (g_valid_place p o)
end Go.Ev
end

section
set_option linter.unusedSectionVars false
set_option linter.unusedVariables false
set_option linter.unusedSimpArgs false
set_option maxRecDepth 100000
set_option linter.unusedVariables false
open Go Go.Ev
namespace Go.Ev
/-! ### paling/valid.thread -/
def sg_valid_thread : Sig := [(true, T_api_Prog), (true, (.sl T_api_Ins))]
noncomputable def t_valid_thread : Tbl := [(76, e_valid_Count), (58, e_names_Right), (77, e_ins_Right), (78, e_valid_place), (79, e_ins_Leads)]
theorem tk_valid_thread : ∀ p ∈ t_valid_thread, EntOK Go.Proofs.Tryd.prog p.1 p.2 := tbl_cons ok_valid_Count (tbl_cons ok_names_Right (tbl_cons ok_ins_Right (tbl_cons ok_valid_place (tbl_cons ok_ins_Leads (tbl_nil)))))
noncomputable def c_valid_thread : Code := Go.Proofs.Tryd.f59.body.getD .skip
def tb_valid_thread : Tb := [(7, ⟨[2, 3, 5, 21, 22, 23, 75, 83], []⟩), (14, ⟨[2, 3, 5, 7, 21, 22, 23, 28, 29, 30, 75, 83], []⟩), (38, ⟨[5, 87, 88, 89], []⟩)]
inductive J_valid_thread where
  | l7 (h : Int) (seen : List (ByteArray × Bool))
  | l14 (h : List ByteArray) (h1 : Int) (i : Int) (i1 : Bool) (i2 : Int) (i3 : Int) (i4 : Int) (i5 : Int) (i6 : Int) (i7 : Int) (i8 : Int) (i9 : Int) (i10 : Int) (i11 : ByteArray) (i12 : List ByteArray) (h2 : Int) (seen : List (ByteArray × Bool)) (h3 : Int)
  | l38 (h : Int) (seen : List (ByteArray × Bool))
def T_valid_thread (p : El T_api_Prog) (t : List (El T_api_Ins)) : J_valid_thread → JT J_valid_thread (Int)
  | .l7 h seen =>
    .br (decide (h < (Int.ofNat (List.length t))))
      (.br ((decide ((0 : Int) ≤ h)) && (decide (h < (Int.ofNat (List.length t)))))
        (.jmp (.l14 (List.getD t (Int.toNat h) (dflt T_api_Ins)).2.2.2.2.2.2 (Int.ofNat (List.length (List.getD t (Int.toNat h) (dflt T_api_Ins)).2.2.2.2.2.2)) (List.getD t (Int.toNat h) (dflt T_api_Ins)).1 (List.getD t (Int.toNat h) (dflt T_api_Ins)).2.1 (List.getD t (Int.toNat h) (dflt T_api_Ins)).2.2.1 (List.getD t (Int.toNat h) (dflt T_api_Ins)).2.2.2.1.1 (List.getD t (Int.toNat h) (dflt T_api_Ins)).2.2.2.1.2.1 (List.getD t (Int.toNat h) (dflt T_api_Ins)).2.2.2.1.2.2.1 (List.getD t (Int.toNat h) (dflt T_api_Ins)).2.2.2.1.2.2.2 (List.getD t (Int.toNat h) (dflt T_api_Ins)).2.2.2.2.1.1 (List.getD t (Int.toNat h) (dflt T_api_Ins)).2.2.2.2.1.2.1 (List.getD t (Int.toNat h) (dflt T_api_Ins)).2.2.2.2.1.2.2.1 (List.getD t (Int.toNat h) (dflt T_api_Ins)).2.2.2.2.1.2.2.2 (List.getD t (Int.toNat h) (dflt T_api_Ins)).2.2.2.2.2.1 (List.getD t (Int.toNat h) (dflt T_api_Ins)).2.2.2.2.2.2 (0 : Int) seen h))
      (.no))
    (.br ((Int.ofNat (List.length t)) == (0 : Int))
      (.leaf (9 : Int))
    (.br ((decide ((0 : Int) ≤ (IntKind.i64.wrap ((Int.ofNat (List.length t)) - (1 : Int))))) && (decide ((IntKind.i64.wrap ((Int.ofNat (List.length t)) - (1 : Int))) < (Int.ofNat (List.length t)))))
      (.br ((List.getD t (Int.toNat (IntKind.i64.wrap ((Int.ofNat (List.length t)) - (1 : Int)))) (dflt T_api_Ins)).1 != (10 : Int))
        (.br ((decide ((0 : Int) ≤ (IntKind.i64.wrap ((Int.ofNat (List.length t)) - (1 : Int))))) && (decide ((IntKind.i64.wrap ((Int.ofNat (List.length t)) - (1 : Int))) < (Int.ofNat (List.length t)))))
          (.br ((List.getD t (Int.toNat (IntKind.i64.wrap ((Int.ofNat (List.length t)) - (1 : Int)))) (dflt T_api_Ins)).1 != (14 : Int))
            (.leaf (9 : Int))
          (.jmp (.l38 (0 : Int) seen)))
        (.no))
      (.jmp (.l38 (0 : Int) seen)))
    (.no)))
  | .l14 h h1 i i1 i2 i3 i4 i5 i6 i7 i8 i9 i10 i11 i12 h2 seen h3 =>
    .br (decide (h2 < h1))
      (.br ((decide ((0 : Int) ≤ h2)) && (decide (h2 < (Int.ofNat (List.length h)))))
        (.br (k_names_Right (List.getD h (Int.toNat h2) (dflt .str)))
          (.br (! (v_names_Right (List.getD h (Int.toNat h2) (dflt .str))))
            (.leaf (3 : Int))
          (.br (Option.getD (mget (kt := .str) (List.getD h (Int.toNat h2) (dflt .str)) seen) false)
            (.leaf (6 : Int))
          (.jmp (.l14 h h1 i i1 i2 i3 i4 i5 i6 i7 i8 i9 i10 i11 i12 (IntKind.i64.wrap (h2 + (1 : Int))) (mput (kt := .str) (List.getD h (Int.toNat h2) (dflt .str)) true seen) h3))))
        (.no))
      (.no))
    (.br (k_ins_Right (i, (i1, (i2, ((i3, (i4, (i5, i6))), ((i7, (i8, (i9, i10))), (i11, i12)))))))
      (.br ((v_ins_Right (i, (i1, (i2, ((i3, (i4, (i5, i6))), ((i7, (i8, (i9, i10))), (i11, i12))))))) == (0 : Int))
        (.br ((v_valid_place p (i3, (i4, (i5, i6)))) == (0 : Int))
          (.br ((v_valid_place p (i7, (i8, (i9, i10)))) != (0 : Int))
            (.leaf (v_valid_place p (i7, (i8, (i9, i10)))))
          (.jmp (.l7 (IntKind.i64.wrap (h3 + (1 : Int))) seen)))
        (.br ((v_valid_place p (i3, (i4, (i5, i6)))) != (0 : Int))
          (.leaf (v_valid_place p (i3, (i4, (i5, i6)))))
        (.jmp (.l7 (IntKind.i64.wrap (h3 + (1 : Int))) seen))))
      (.br ((v_ins_Right (i, (i1, (i2, ((i3, (i4, (i5, i6))), ((i7, (i8, (i9, i10))), (i11, i12))))))) == (0 : Int))
        (.br ((v_valid_place p (i7, (i8, (i9, i10)))) != (0 : Int))
          (.leaf (v_valid_place p (i7, (i8, (i9, i10)))))
        (.jmp (.l7 (IntKind.i64.wrap (h3 + (1 : Int))) seen)))
      (.br ((v_ins_Right (i, (i1, (i2, ((i3, (i4, (i5, i6))), ((i7, (i8, (i9, i10))), (i11, i12))))))) != (0 : Int))
        (.leaf (v_ins_Right (i, (i1, (i2, ((i3, (i4, (i5, i6))), ((i7, (i8, (i9, i10))), (i11, i12))))))))
      (.jmp (.l7 (IntKind.i64.wrap (h3 + (1 : Int))) seen)))))
    (.no))
  | .l38 h seen =>
    .br (decide (h < (Int.ofNat (List.length t))))
      (.br ((decide ((0 : Int) ≤ h)) && (decide (h < (Int.ofNat (List.length t)))))
        (.br (k_ins_Leads (List.getD t (Int.toNat h) (dflt T_api_Ins)))
          (.br (v_ins_Leads (List.getD t (Int.toNat h) (dflt T_api_Ins))).2
            (.br (! (Option.getD (mget (kt := .str) (List.getD t (Int.toNat h) (dflt T_api_Ins)).2.2.2.2.2.1 seen) false))
              (.leaf (7 : Int))
            (.jmp (.l38 (IntKind.i64.wrap (h + (1 : Int))) seen)))
          (.jmp (.l38 (IntKind.i64.wrap (h + (1 : Int))) seen)))
        (.no))
      (.no))
    (.leaf (0 : Int))
def T0_valid_thread (p : El T_api_Prog) (t : List (El T_api_Ins)) : JT J_valid_thread (Int) :=
  .br (k_valid_Count t)
    (.br (decide ((v_valid_Count t) > (4096 : Int)))
      (.leaf (10 : Int))
    (.jmp (.l7 (0 : Int) [])))
  (.no)
def R_valid_thread : Int → AV := fun (r : Int) => .d (.int .i64) r
def S_valid_thread (p : El T_api_Prog) (t : List (El T_api_Ins)) : J_valid_thread → Nat × St
  | .l7 h seen => (7, ⟨mkTm 107 [(2, .pt 3 0 0), (3, .pt 4 0 0), (5, .mp 6 0), (21, .d (.sl T_api_Ins) t), (22, .d (.int .i64) (Int.ofNat (List.length t))), (23, .d (.int .i64) h)], [(3, 0, .box 27 [.d (.sl T_api_Sym) p.1, .d (.sl (.sl T_api_Ins)) p.2] none), (4, 0, .box 58 [.d (.sl T_api_Ins) t] none), (6, 0, .map .str .bool seen)]⟩)
  | .l14 h h1 i i1 i2 i3 i4 i5 i6 i7 i8 i9 i10 i11 i12 h2 seen h3 => (14, ⟨mkTm 107 [(2, .pt 3 0 0), (3, .pt 4 0 0), (5, .mp 6 0), (7, .pt 8 0 0), (21, .d (.sl T_api_Ins) t), (22, .d (.int .i64) (Int.ofNat (List.length t))), (23, .d (.int .i64) h3), (28, .d (.sl .str) h), (29, .d (.int .i64) h1), (30, .d (.int .i64) h2)], [(3, 0, .box 27 [.d (.sl T_api_Sym) p.1, .d (.sl (.sl T_api_Ins)) p.2] none), (4, 0, .box 58 [.d (.sl T_api_Ins) t] none), (6, 0, .map .str .bool seen), (8, 0, .box 63 [.d (.int .i64) i, .d .bool i1, .d (.int .i64) i2, .d (.int .i64) i3, .d (.int .i64) i4, .d (.int .i64) i5, .d (.int .i64) i6, .d (.int .i64) i7, .d (.int .i64) i8, .d (.int .i64) i9, .d (.int .i64) i10, .d .str i11, .d (.sl .str) i12] none)]⟩)
  | .l38 h seen => (38, ⟨mkTm 107 [(5, .mp 6 0), (87, .d (.sl T_api_Ins) t), (88, .d (.int .i64) (Int.ofNat (List.length t))), (89, .d (.int .i64) h)], [(6, 0, .map .str .bool seen)]⟩)
theorem en_valid_thread (p : El T_api_Prog) (t : List (El T_api_Ins)) (L : Lt) : entryA Go.Proofs.Tryd.prog (clOf t_valid_thread) tb_valid_thread Go.Proofs.Tryd.f59 c_valid_thread L (toForms sg_valid_thread (p, t, ())) = (T0_valid_thread p t).run (fun v => some (R_valid_thread v, tps (toForms sg_valid_thread (p, t, ())))) fun j => L (S_valid_thread p t j).1 (S_valid_thread p t j).2 := by kernel_rfl
theorem lp_valid_thread (p : El T_api_Prog) (t : List (El T_api_Ins)) : ∀ (L : Lt) (j : J_valid_thread), procOf (procsF Go.Proofs.Tryd.prog (clOf t_valid_thread) tb_valid_thread Go.Proofs.Tryd.f59 c_valid_thread (toForms sg_valid_thread (p, t, ()))) (S_valid_thread p t j).1 L (S_valid_thread p t j).2 = (T_valid_thread p t j).run (fun v => some (R_valid_thread v, tps (toForms sg_valid_thread (p, t, ())))) fun j => L (S_valid_thread p t j).1 (S_valid_thread p t j).2
  | L, .l7 h seen => by kernel_rfl
  | L, .l14 h h1 i i1 i2 i3 i4 i5 i6 i7 i8 i9 i10 i11 i12 h2 seen h3 => by kernel_rfl
  | L, .l38 h seen => by kernel_rfl
end Go.Ev
end

section
set_option linter.unusedSectionVars false
set_option linter.unusedVariables false
set_option linter.unusedSimpArgs false
set_option linter.unusedVariables false
set_option linter.unusedSimpArgs false
open Go
namespace Go.Ev
def v_valid_thread (p : El T_api_Prog) (t : List (El T_api_Ins)) : Int := threadC p t
def k_valid_thread (p : El T_api_Prog) (t : List (El T_api_Ins)) : Bool := smallThread t
theorem g_valid_thread (p : El T_api_Prog) (t : List (El T_api_Ins)) (hk : k_valid_thread p t = true) : Goes (T_valid_thread p t) (T0_valid_thread p t) (v_valid_thread p t) := by
  have hS := smallT hk
  have hn := hS.len
  have jmps : ∀ m seen, Seen m seen → (∀ i ∈ t, v_ins_Right i = 0) → ∀ k, k ≤ t.length → Goes (T_valid_thread p t) (.jmp (.l38 (k : Int) m)) (jumpC seen (t.drop k)) := by
    intro m seen hm hr
    refine down ?_ fun k hk ih => ?_
    · rw [goes_jmp]
      simp only [T_valid_thread, goes_br, lt_len_not (Nat.lt_irrefl _), goes_leaf, List.drop_length]
      simp [jumpC]
    · have hmem : t[k] ∈ t := List.getElem_mem hk
      have hto := hS.to _ hmem
      rw [goes_jmp]
      simp only [T_valid_thread, goes_br, lt_len hk, nng, Bool.and_self, if_true, Int.toNat_natCast, getD_lt hk, wrap_succ (k := k) (by omega), k_leads hto, jumps_is hto (hr _ hmem), hm t[k].2.2.2.2.2.1]
      rw [drop_cons hk]
      unfold jumpC
      by_cases h1 : ((t[k].1 == (10 : Int)) || (t[k].1 == (11 : Int))) = true
      · rw [if_pos h1, if_pos h1]
        by_cases h2 : seen.contains t[k].2.2.2.2.2.1 = true
        · rw [if_pos h2, if_neg (by rw [h2]; decide)]; exact ih
        · rw [if_neg h2, if_pos (by rw [Bool.eq_false_iff.2 h2]; rfl)]; exact .leaf
      · rw [if_neg h1, if_neg h1]; exact ih
  have main : ∀ k, k ≤ t.length → ∀ m seen, Seen m seen → (∀ i ∈ t.take k, v_ins_Right i = 0) → Goes (T_valid_thread p t) (.jmp (.l7 (k : Int) m)) (scanI p (fun seen => endC t (jumpC seen t)) seen (t.drop k)) := by
    refine down ?_ fun k hk ih => ?_
    · intro m seen hm hr
      rw [List.take_length] at hr
      have hj := jmps m seen hm hr 0 (Nat.zero_le _)
      rw [List.drop_zero] at hj
      rw [goes_jmp, List.drop_length]
      unfold scanI
      simp only [T_valid_thread, goes_br, lt_len_not (Nat.lt_irrefl _)]
      rw [if_neg (by decide)]
      by_cases h0 : t.length = 0
      · have : t = [] := List.eq_nil_of_length_eq_zero h0
        rw [this]; simp [goes_leaf, endC]
      · have hp : 0 < t.length := by omega
        rw [if_neg (by simp; exact fun e => h0 (by rw [e]; rfl)), endC_eq hp]
        rw [show Int.ofNat t.length = (t.length : Int) from rfl, wrap_pred (k := t.length) (by omega) hp]
        have hb : (decide (0 ≤ ((t.length - 1 : Nat) : Int)) && decide (((t.length - 1 : Nat) : Int) < (t.length : Int))) = true := by simp; omega
        simp only [hb, if_true, Int.toNat_natCast, getD_lt (show t.length - 1 < t.length by omega)]
        unfold bne
        cases h10 : (t[t.length - 1].1 == (10 : Int)) with
        | true => simpa using hj
        | false =>
          cases h14 : (t[t.length - 1].1 == (14 : Int)) with
          | true => simpa using hj
          | false => simp [goes_leaf]
    · intro m seen hm hr
      have hmem : t[k] ∈ t := List.getElem_mem hk
      have hto := hS.to _ hmem
      have hlab := hS.lab _ hmem
      have hlen := Nat.lt_of_le_of_lt (labels_mem hmem) hS.labs
      have hr' : v_ins_Right t[k] = 0 → ∀ i ∈ t.take (k + 1), v_ins_Right i = 0 := fun h i hi => by
        rw [List.take_add_one, List.getElem?_eq_getElem hk] at hi
        rcases List.mem_append.1 hi with hi | hi
        · exact hr i hi
        · rw [Option.toList_some, List.mem_singleton] at hi; rw [hi]; exact h
      rw [goes_jmp]
      simp only [T_valid_thread, goes_br, lt_len hk, nng, Bool.and_self, if_true, Int.toNat_natCast, getD_lt hk]
      rw [drop_cons hk]
      unfold scanI
      generalize t[k] = i at hto hlab hlen hr'
      obtain ⟨op, lock, cond, ⟨ak, ar, ay, an⟩, ⟨bk, br, bz, bn⟩, to, ls⟩ := i
      dsimp only at hto hlab hlen hr' ⊢
      have inner : ∀ j, j ≤ ls.length → ∀ m seen, Seen m seen → Goes (T_valid_thread p t) (.jmp (.l14 ls (Int.ofNat ls.length) op lock cond ak ar ay an bk br bz bn to ls (j : Int) m (k : Int))) (scanL seen (fun seen => if insC p (op, (lock, (cond, ((ak, (ar, (ay, an))), ((bk, (br, (bz, bn))), (to, ls)))))) ≠ 0 then insC p (op, (lock, (cond, ((ak, (ar, (ay, an))), ((bk, (br, (bz, bn))), (to, ls)))))) else scanI p (fun seen => endC t (jumpC seen t)) seen (t.drop (k + 1))) (ls.drop j)) := by
        refine down ?_ fun j hj ihj => ?_
        · intro m seen hm
          rw [goes_jmp, List.drop_length]
          unfold scanL
          have hkr : k_ins_Right (op, (lock, (cond, ((ak, (ar, (ay, an))), ((bk, (br, (bz, bn))), (to, ls)))))) = true := hto
          simp only [T_valid_thread, goes_br, lt_len_not (Nat.lt_irrefl _), hkr, if_true, v_valid_place, wrap_succ (k := k) (by omega)]
          rw [if_neg (by decide)]
          unfold insC
          dsimp only
          by_cases hr : v_ins_Right (op, (lock, (cond, ((ak, (ar, (ay, an))), ((bk, (br, (bz, bn))), (to, ls)))))) = 0
          · have ih' := ih m seen hm (hr' hr)
            by_cases ha : placeC p (ak, (ar, (ay, an))) = 0
            · by_cases hb : placeC p (bk, (br, (bz, bn))) = 0
              · simp [hr, ha, hb]; exact ih'
              · simp [hr, ha, hb, goes_leaf]
            · simp [hr, ha, goes_leaf]
          · simp [hr, goes_leaf]
        · intro m seen hm
          have hl := hlab ls[j] (List.getElem_mem hj)
          have hkn : k_names_Right ls[j] = true := hl
          rw [goes_jmp]
          simp only [T_valid_thread, goes_br, lt_len hj, nng, Bool.and_self, if_true, Int.toNat_natCast, getD_lt hj, wrap_succ (k := j) (by omega), hkn, hm ls[j]]
          rw [drop_cons hj]
          unfold scanL
          by_cases h1 : nameRight ls[j] = false
          · rw [if_pos h1, if_pos (by show (! nameRight ls[j]) = true; rw [h1]; rfl)]; exact .leaf
          · rw [if_neg h1, if_neg (by show ¬ (! nameRight ls[j]) = true; simpa using h1)]
            by_cases h2 : seen.contains ls[j] = true
            · rw [if_pos h2, if_pos h2]; exact .leaf
            · rw [if_neg h2, if_neg h2]; exact ihj _ _ (hm.put _)
      have := inner 0 (Nat.zero_le _) m seen hm
      rw [List.drop_zero] at this
      exact this
  unfold T0_valid_thread v_valid_thread
  have hkc : k_valid_Count t = true := decide_eq_true hn
  simp only [goes_br, hkc, if_true]
  unfold threadC v_valid_Count
  by_cases h : 4096 < countM t
  · rw [if_pos (by simp; omega), if_pos h]; exact .leaf
  · rw [if_neg (by simp; omega), if_neg h]
    exact main 0 (Nat.zero_le _) [] [] Seen.nil (fun i hi => by simp at hi)
end Go.Ev
end

section
set_option linter.unusedSectionVars false
set_option linter.unusedVariables false
set_option linter.unusedSimpArgs false
set_option maxRecDepth 100000
set_option linter.unusedVariables false
open Go Go.Ev
namespace Go.Ev
noncomputable def e_valid_thread : Run := entG sg_valid_thread R_valid_thread (fun a => k_valid_thread a.1 a.2.1) (fun a => v_valid_thread a.1 a.2.1)
theorem ok_valid_thread : EntOK Go.Proofs.Tryd.prog 59 e_valid_thread := entG_ok (tb := tb_valid_thread) (c := c_valid_thread) tk_valid_thread (by kernel_rfl) (by kernel_rfl) (by kernel_rfl) (fun a => by kernel_rfl) fun ⟨p, t, _⟩ hk => evF_goes (c := c_valid_thread) (K := fun v => (R_valid_thread v, tps (toForms sg_valid_thread (p, t, ())))) (S := S_valid_thread p t) (by kernel_rfl) (en_valid_thread p t) (lp_valid_thread p t) (g_valid_thread p t hk)
end Go.Ev
end

section
set_option linter.unusedSectionVars false
set_option linter.unusedVariables false
set_option linter.unusedSimpArgs false
set_option maxRecDepth 100000
set_option linter.unusedVariables false
open Go Go.Ev
namespace Go.Ev
/-! ### paling/valid.Check -/
def sg_valid_Check : Sig := [(true, T_api_Prog)]
noncomputable def t_valid_Check : Tbl := [(58, e_names_Right), (59, e_valid_thread)]
theorem tk_valid_Check : ∀ p ∈ t_valid_Check, EntOK Go.Proofs.Tryd.prog p.1 p.2 := tbl_cons ok_names_Right (tbl_cons ok_valid_thread (tbl_nil))
noncomputable def c_valid_Check : Code := Go.Proofs.Tryd.f39.body.getD .skip
def tb_valid_Check : Tb := [(7, ⟨[1, 3, 21, 22, 23], []⟩), (21, ⟨[1, 59, 60, 61], []⟩)]
inductive J_valid_Check where
  | l7 (h : Int) (seen : List (ByteArray × Bool))
  | l21 (h : Int)
def T_valid_Check (p : El T_api_Prog) : J_valid_Check → JT J_valid_Check (Int)
  | .l7 h seen =>
    .br (decide (h < (Int.ofNat (List.length p.1))))
      (.br ((decide ((0 : Int) ≤ h)) && (decide (h < (Int.ofNat (List.length p.1)))))
        (.br (k_names_Right (List.getD p.1 (Int.toNat h) (dflt T_api_Sym)).1)
          (.br (! (v_names_Right (List.getD p.1 (Int.toNat h) (dflt T_api_Sym)).1))
            (.leaf (3 : Int))
          (.br (Option.getD (mget (kt := .str) (List.getD p.1 (Int.toNat h) (dflt T_api_Sym)).1 seen) false)
            (.leaf (6 : Int))
          (.br (decide ((List.getD p.1 (Int.toNat h) (dflt T_api_Sym)).2.1 < (1 : Int)))
            (.leaf (5 : Int))
          (.br (decide ((List.getD p.1 (Int.toNat h) (dflt T_api_Sym)).2.1 > (64 : Int)))
            (.leaf (5 : Int))
          (.br (decide ((Int.ofNat (List.length (List.getD p.1 (Int.toNat h) (dflt T_api_Sym)).2.2)) > (List.getD p.1 (Int.toNat h) (dflt T_api_Sym)).2.1))
            (.leaf (5 : Int))
          (.jmp (.l7 (IntKind.i64.wrap (h + (1 : Int))) (mput (kt := .str) (List.getD p.1 (Int.toNat h) (dflt T_api_Sym)).1 true seen))))))))
        (.no))
      (.no))
    (.jmp (.l21 (0 : Int)))
  | .l21 h =>
    .br (decide (h < (Int.ofNat (List.length p.2))))
      (.br ((decide ((0 : Int) ≤ h)) && (decide (h < (Int.ofNat (List.length p.2)))))
        (.br (k_valid_thread p (List.getD p.2 (Int.toNat h) (dflt (.sl T_api_Ins))))
          (.br ((v_valid_thread p (List.getD p.2 (Int.toNat h) (dflt (.sl T_api_Ins)))) != (0 : Int))
            (.leaf (v_valid_thread p (List.getD p.2 (Int.toNat h) (dflt (.sl T_api_Ins)))))
          (.jmp (.l21 (IntKind.i64.wrap (h + (1 : Int))))))
        (.no))
      (.no))
    (.leaf (0 : Int))
def T0_valid_Check (p : El T_api_Prog) : JT J_valid_Check (Int) :=
  .br (decide ((Int.ofNat (List.length p.1)) > (64 : Int)))
    (.leaf (10 : Int))
  (.br (decide ((Int.ofNat (List.length p.2)) > (64 : Int)))
    (.leaf (10 : Int))
  (.jmp (.l7 (0 : Int) [])))
def R_valid_Check : Int → AV := fun (r : Int) => .d (.int .i64) r
def S_valid_Check (p : El T_api_Prog) : J_valid_Check → Nat × St
  | .l7 h seen => (7, ⟨mkTm 72 [(1, .pt 2 0 0), (3, .mp 4 0), (21, .d (.sl T_api_Sym) p.1), (22, .d (.int .i64) (Int.ofNat (List.length p.1))), (23, .d (.int .i64) h)], [(2, 0, .box 27 [.d (.sl T_api_Sym) p.1, .d (.sl (.sl T_api_Ins)) p.2] none), (4, 0, .map .str .bool seen)]⟩)
  | .l21 h => (21, ⟨mkTm 72 [(1, .pt 2 0 0), (59, .d (.sl (.sl T_api_Ins)) p.2), (60, .d (.int .i64) (Int.ofNat (List.length p.2))), (61, .d (.int .i64) h)], [(2, 0, .box 27 [.d (.sl T_api_Sym) p.1, .d (.sl (.sl T_api_Ins)) p.2] none)]⟩)
theorem en_valid_Check (p : El T_api_Prog) (L : Lt) : entryA Go.Proofs.Tryd.prog (clOf t_valid_Check) tb_valid_Check Go.Proofs.Tryd.f39 c_valid_Check L (toForms sg_valid_Check (p, ())) = (T0_valid_Check p).run (fun v => some (R_valid_Check v, tps (toForms sg_valid_Check (p, ())))) fun j => L (S_valid_Check p j).1 (S_valid_Check p j).2 := by kernel_rfl
theorem lp_valid_Check (p : El T_api_Prog) : ∀ (L : Lt) (j : J_valid_Check), procOf (procsF Go.Proofs.Tryd.prog (clOf t_valid_Check) tb_valid_Check Go.Proofs.Tryd.f39 c_valid_Check (toForms sg_valid_Check (p, ()))) (S_valid_Check p j).1 L (S_valid_Check p j).2 = (T_valid_Check p j).run (fun v => some (R_valid_Check v, tps (toForms sg_valid_Check (p, ())))) fun j => L (S_valid_Check p j).1 (S_valid_Check p j).2
  | L, .l7 h seen => by kernel_rfl
  | L, .l21 h => by kernel_rfl
end Go.Ev
end

section
set_option linter.unusedSectionVars false
set_option linter.unusedVariables false
set_option linter.unusedSimpArgs false
set_option linter.unusedVariables false
set_option linter.unusedSimpArgs false
open Go
namespace Go.Ev
def v_valid_Check (p : El T_api_Prog) : Int := checkC p
def k_valid_Check (p : El T_api_Prog) : Bool := smallProg p
theorem g_valid_Check (p : El T_api_Prog) (hk : k_valid_Check p = true) : Goes (T_valid_Check p) (T0_valid_Check p) (v_valid_Check p) := by
  have hth : ∀ t ∈ p.2, smallThread t = true := by
    unfold k_valid_Check smallProg at hk
    simp only [Bool.and_eq_true, List.all_eq_true] at hk
    exact hk.2
  have hsy : ∀ s ∈ p.1, smallText s.1 = true := by
    unfold k_valid_Check smallProg at hk
    simp only [Bool.and_eq_true, List.all_eq_true] at hk
    exact hk.1
  obtain ⟨sy, th⟩ := p
  dsimp only at hth hsy
  have ths : th.length ≤ 64 → ∀ k, k ≤ th.length → Goes (T_valid_Check (sy, th)) (.jmp (.l21 (k : Int))) (thsC (sy, th) (th.drop k)) := by
    intro hn
    refine down ?_ fun k hk ih => ?_
    · rw [goes_jmp]
      simp only [T_valid_Check, goes_br, lt_len_not (Nat.lt_irrefl _), goes_leaf, List.drop_length]
      simp [thsC]
    · have hkt : k_valid_thread (sy, th) th[k] = true := hth _ (List.getElem_mem hk)
      rw [goes_jmp]
      simp only [T_valid_Check, goes_br, lt_len hk, nng, Bool.and_self, if_true, Int.toNat_natCast, getD_lt hk, wrap_succ (k := k) (by omega), hkt]
      rw [drop_cons hk]
      unfold thsC
      show (if (threadC (sy, th) th[k] != 0) = true then _ else _)
      by_cases h : threadC (sy, th) th[k] = 0
      · rw [if_neg (by simp [h]), if_neg (by simp [h])]; exact ih
      · rw [if_pos (by simp [h]), if_pos h]; exact .leaf

  have main : sy.length ≤ 64 → th.length ≤ 64 → ∀ k, k ≤ sy.length → ∀ m seen, Seen m seen → Goes (T_valid_Check (sy, th)) (.jmp (.l7 (k : Int) m)) (symsC (thsC (sy, th) th) seen (sy.drop k)) := by
    intro hn hm
    refine down ?_ fun k hk ih => ?_
    · intro m seen hs
      rw [goes_jmp, List.drop_length]
      unfold symsC
      simp only [T_valid_Check, goes_br, lt_len_not (Nat.lt_irrefl _)]
      rw [if_neg (by decide)]
      simpa using ths hm 0 (Nat.zero_le _)
    · intro m seen hs
      have hkn : k_names_Right sy[k].1 = true := hsy _ (List.getElem_mem hk)
      rw [goes_jmp]
      simp only [T_valid_Check, goes_br, lt_len hk, nng, Bool.and_self, if_true, Int.toNat_natCast, getD_lt hk, wrap_succ (k := k) (by omega), hkn, hs sy[k].1]
      rw [drop_cons hk]
      unfold symsC
      generalize sy[k] = s at *
      obtain ⟨nm, size, init⟩ := s
      dsimp only
      change Int at size
      by_cases h1 : nameRight nm = false
      · rw [if_pos h1, if_pos (by show (! nameRight nm) = true; rw [h1]; rfl)]; exact .leaf
      rw [if_neg h1, if_neg (by show ¬ (! nameRight nm) = true; simpa using h1)]
      by_cases h2 : seen.contains nm = true
      · rw [if_pos h2, if_pos h2]; exact .leaf
      rw [if_neg h2, if_neg h2]
      by_cases h3 : size < 1
      · rw [if_pos (decide_eq_true h3), if_pos (.inl h3)]; exact .leaf
      rw [if_neg (by simpa using h3)]
      by_cases h4 : 64 < size
      · rw [if_pos (decide_eq_true h4), if_pos (.inr (.inl h4))]; exact .leaf
      rw [if_neg (by simpa using h4)]
      by_cases h5 : size < (List.length init : Int)
      · rw [if_pos (show decide (Int.ofNat (List.length init) > size) = true from decide_eq_true h5), if_pos (.inr (.inr h5))]; exact .leaf
      rw [if_neg (show ¬ decide (Int.ofNat (List.length init) > size) = true by simpa using h5), if_neg (by rintro (h | h | h) <;> contradiction)]
      exact ih _ _ (hs.put nm)
  unfold T0_valid_Check v_valid_Check checkC
  simp only [goes_br]
  by_cases h : 64 < sy.length
  · rw [if_pos (by simp; omega), if_pos (.inl h)]; exact .leaf
  rw [if_neg (by simp; omega)]
  by_cases h2 : 64 < th.length
  · rw [if_pos (by simp; omega), if_pos (.inr h2)]; exact .leaf
  rw [if_neg (by simp; omega), if_neg (by rintro (h | h) <;> contradiction)]
  exact main (by omega) (by omega) 0 (Nat.zero_le _) [] [] Seen.nil
end Go.Ev
end

section
set_option linter.unusedSectionVars false
set_option linter.unusedVariables false
set_option linter.unusedSimpArgs false
set_option maxRecDepth 100000
set_option linter.unusedVariables false
open Go Go.Ev
namespace Go.Ev
noncomputable def e_valid_Check : Run := entG sg_valid_Check R_valid_Check (fun a => k_valid_Check a.1) (fun a => v_valid_Check a.1)
theorem ok_valid_Check : EntOK Go.Proofs.Tryd.prog 39 e_valid_Check := entG_ok (tb := tb_valid_Check) (c := c_valid_Check) tk_valid_Check (by kernel_rfl) (by kernel_rfl) (by kernel_rfl) (fun a => by kernel_rfl) fun ⟨p, _⟩ hk => evF_goes (c := c_valid_Check) (K := fun v => (R_valid_Check v, tps (toForms sg_valid_Check (p, ())))) (S := S_valid_Check p) (by kernel_rfl) (en_valid_Check p) (lp_valid_Check p) (g_valid_Check p hk)
end Go.Ev
end

section
set_option linter.unusedSectionVars false
set_option linter.unusedVariables false
set_option linter.unusedSimpArgs false
set_option maxRecDepth 100000
set_option linter.unusedVariables false
open Go Go.Ev
namespace Go.Ev
/-! ### paling/weave.order -/
def sg_weave_order : Sig := [(false, (.sl (.int .i64)))]
noncomputable def t_weave_order : Tbl := []
theorem tk_weave_order : ∀ p ∈ t_weave_order, EntOK Go.Proofs.Tryd.prog p.1 p.2 := tbl_nil
noncomputable def c_weave_order : Code := Go.Proofs.Tryd.f40.body.getD .skip
def tb_weave_order : Tb := [(3, ⟨[0, 5, 6, 7], []⟩)]
inductive J_weave_order where
  | l3 (h : Int)
def T_weave_order (l : List Int) : J_weave_order → JT J_weave_order (Bool)
  | .l3 h =>
    .br (decide (h < (Int.ofNat (List.length l))))
      (.br ((decide ((0 : Int) ≤ h)) && (decide (h < (Int.ofNat (List.length l)))))
        (.br (decide ((List.getD l (Int.toNat h) (dflt (.int .i64))) < (0 : Int)))
          (.leaf false)
        (.br (decide ((List.getD l (Int.toNat h) (dflt (.int .i64))) > (2147483647 : Int)))
          (.leaf false)
        (.br (decide (h > (0 : Int)))
          (.br ((decide ((0 : Int) ≤ (IntKind.i64.wrap (h - (1 : Int))))) && (decide ((IntKind.i64.wrap (h - (1 : Int))) < (Int.ofNat (List.length l)))))
            (.br (decide ((List.getD l (Int.toNat h) (dflt (.int .i64))) ≤ (List.getD l (Int.toNat (IntKind.i64.wrap (h - (1 : Int)))) (dflt (.int .i64)))))
              (.leaf false)
            (.jmp (.l3 (IntKind.i64.wrap (h + (1 : Int))))))
          (.no))
        (.jmp (.l3 (IntKind.i64.wrap (h + (1 : Int))))))))
      (.no))
    (.leaf true)
def T0_weave_order (l : List Int) : JT J_weave_order (Bool) :=
  .jmp (.l3 (0 : Int))
def R_weave_order : Bool → AV := fun (r : Bool) => .d .bool r
def S_weave_order (l : List Int) : J_weave_order → Nat × St
  | .l3 h => (3, ⟨mkTm 32 [(0, .d (.sl (.int .i64)) l), (5, .d (.sl (.int .i64)) l), (6, .d (.int .i64) (Int.ofNat (List.length l))), (7, .d (.int .i64) h)], []⟩)
theorem en_weave_order (l : List Int) (L : Lt) : entryA Go.Proofs.Tryd.prog (clOf t_weave_order) tb_weave_order Go.Proofs.Tryd.f40 c_weave_order L (toForms sg_weave_order (l, ())) = (T0_weave_order l).run (fun v => some (R_weave_order v, tps (toForms sg_weave_order (l, ())))) fun j => L (S_weave_order l j).1 (S_weave_order l j).2 := by kernel_rfl
theorem lp_weave_order (l : List Int) : ∀ (L : Lt) (j : J_weave_order), procOf (procsF Go.Proofs.Tryd.prog (clOf t_weave_order) tb_weave_order Go.Proofs.Tryd.f40 c_weave_order (toForms sg_weave_order (l, ()))) (S_weave_order l j).1 L (S_weave_order l j).2 = (T_weave_order l j).run (fun v => some (R_weave_order v, tps (toForms sg_weave_order (l, ())))) fun j => L (S_weave_order l j).1 (S_weave_order l j).2
  | L, .l3 h => by kernel_rfl
end Go.Ev
end

section
set_option linter.unusedSectionVars false
set_option linter.unusedVariables false
set_option linter.unusedSimpArgs false
/- Rising lists and lists of places: what chapters 19 to 26 say of them, over lists. -/
set_option linter.unusedVariables false
set_option linter.unusedSimpArgs false
namespace Go.Ev
open Go
/-- Which are so, rising, from k on. -/
def listFrom : Nat → List Bool → List Int
  | _, [] => []
  | k, b :: r => if b then (k : Int) :: listFrom (k + 1) r else listFrom (k + 1) r
theorem listFrom_len : ∀ (l : List Bool) (k : Nat), (listFrom k l).length ≤ l.length
  | [], _ => Nat.le_refl _
  | b :: r, k => by
    have := listFrom_len r (k + 1)
    unfold listFrom
    split <;> simp only [List.length_cons] <;> omega
theorem mem_listFrom : ∀ {l : List Bool} {k : Nat} {x : Int}, x ∈ listFrom k l ↔ ∃ i, l[i]? = some true ∧ x = ((k + i : Nat) : Int)
  | [], k, x => by simp [listFrom]
  | b :: r, k, x => by
    have ih := @mem_listFrom r (k + 1) x
    unfold listFrom
    constructor
    · intro h
      cases b with
      | true =>
        rw [if_pos rfl] at h
        rcases List.mem_cons.1 h with rfl | h
        · exact ⟨0, rfl, by simp⟩
        · obtain ⟨i, h1, h2⟩ := ih.1 h
          exact ⟨i + 1, by simpa using h1, by rw [h2]; omega⟩
      | false =>
        rw [if_neg (by decide)] at h
        obtain ⟨i, h1, h2⟩ := ih.1 h
        exact ⟨i + 1, by simpa using h1, by rw [h2]; omega⟩
    · rintro ⟨i, h1, h2⟩
      cases i with
      | zero =>
        have hb : b = true := by simpa using h1
        subst hb
        rw [if_pos rfl, h2]
        exact List.mem_cons_self ..
      | succ i =>
        have := ih.2 ⟨i, by simpa using h1, by rw [h2]; omega⟩
        split
        · exact List.mem_cons_of_mem _ this
        · exact this
/-- A list in order. -/
def risingFrom : Int → List Int → Bool
  | _, [] => true
  | p, n :: r => if n < 0 ∨ 2147483647 < n ∨ n ≤ p then false else risingFrom n r
def rising (l : List Int) : Bool := risingFrom (-1) l
theorem risingFrom_spec : ∀ {l : List Int} {p : Int}, risingFrom p l = true ↔ (∀ x ∈ l, 0 ≤ x ∧ x ≤ 2147483647 ∧ p < x) ∧ l.Pairwise (· < ·)
  | [], p => by simp [risingFrom]
  | n :: r, p => by
    have ih := @risingFrom_spec r n
    unfold risingFrom
    split
    · rename_i h
      constructor
      · intro e; cases e
      · rintro ⟨h1, _⟩
        have := h1 n (by simp)
        omega
    · rename_i h
      rw [ih, List.pairwise_cons]
      constructor
      · rintro ⟨h1, h2⟩
        refine ⟨fun x hx => ?_, fun x hx => (h1 x hx).2.2, h2⟩
        rcases List.mem_cons.1 hx with rfl | hx
        · omega
        · have := h1 x hx; omega
      · rintro ⟨h1, h2, h3⟩
        exact ⟨fun x hx => ⟨(h1 x (by simp [hx])).1, (h1 x (by simp [hx])).2.1, h2 x hx⟩, h3⟩
theorem rising_spec {l : List Int} : rising l = true ↔ (∀ x ∈ l, 0 ≤ x ∧ x ≤ 2147483647) ∧ l.Pairwise (· < ·) := by
  unfold rising
  rw [risingFrom_spec]
  constructor
  · rintro ⟨h1, h2⟩; exact ⟨fun x hx => ⟨(h1 x hx).1, (h1 x hx).2.1⟩, h2⟩
  · rintro ⟨h1, h2⟩; exact ⟨fun x hx => ⟨(h1 x hx).1, (h1 x hx).2, by have := h1 x hx; omega⟩, h2⟩
/-- A rising list is no longer than its numbers are great. -/
theorem rising_len : ∀ {l : List Int} {p : Int}, risingFrom p l = true → -1 ≤ p → p + l.length ≤ 2147483647 ∨ l = []
  | [], _, _, _ => .inr rfl
  | n :: r, p, h, hp => by
    unfold risingFrom at h
    split at h
    · cases h
    · rename_i h1
      rcases rising_len h (by omega) with h2 | h2
      · left; rw [List.length_cons]; omega
      · subst h2; left; simp; omega
theorem rising_length {l : List Int} (h : rising l = true) : l.length ≤ 2147483648 := by
  rcases rising_len h (by omega) with h | h
  · omega
  · subst h; simp
/-- Where fences come to stand. -/
def fencesFrom : Nat → List Int → List Int
  | _, [] => []
  | k, n :: r => (n + k) :: fencesFrom (k + 1) r
def fencesC (l : List Int) : List Int := if rising l then fencesFrom 0 l else []
theorem fencesFrom_len : ∀ (l : List Int) (k : Nat), (fencesFrom k l).length = l.length
  | [], _ => rfl
  | n :: r, k => by unfold fencesFrom; rw [List.length_cons, List.length_cons, fencesFrom_len r]
theorem fencesC_len (l : List Int) : (fencesC l).length ≤ l.length := by
  unfold fencesC
  split
  · rw [fencesFrom_len]; exact Nat.le_refl _
  · exact Nat.zero_le _
theorem mem_fencesFrom : ∀ {l : List Int} {k : Nat} {x : Int}, x ∈ fencesFrom k l ↔ ∃ i n, l[i]? = some n ∧ x = n + ((k + i : Nat) : Int)
  | [], k, x => by simp [fencesFrom]
  | b :: r, k, x => by
    have ih := @mem_fencesFrom r (k + 1) x
    unfold fencesFrom
    rw [List.mem_cons, ih]
    constructor
    · rintro (rfl | ⟨i, n, h1, h2⟩)
      · exact ⟨0, b, rfl, by simp⟩
      · exact ⟨i + 1, n, by simpa using h1, by rw [h2]; omega⟩
    · rintro ⟨i, n, h1, h2⟩
      cases i with
      | zero =>
        left
        have : b = n := by simpa using h1
        subst this
        rw [h2, Nat.add_zero]
      | succ i => right; exact ⟨i, n, by simpa using h1, by rw [h2]; omega⟩
/-- How many are below; how many are not above. -/
def below (l : List Int) (x : Int) : Nat := l.countP fun f => decide (f < x)
def upTo (l : List Int) (x : Int) : Nat := l.countP fun f => decide (f ≤ x)
def backC (l : List Int) (pc : Int) : Int := if pc < 0 ∨ 2147483647 < pc then pc else pc - below (fencesC l) pc
def thereC (l : List Int) (i : Int) : Int := if i < 0 ∨ 2147483647 < i ∨ rising l = false then i else i + upTo l i
end Go.Ev
end

section
set_option linter.unusedSectionVars false
set_option linter.unusedVariables false
set_option linter.unusedSimpArgs false
set_option linter.unusedVariables false
set_option linter.unusedSimpArgs false
open Go
namespace Go.Ev
def v_weave_order (l : List Int) : Bool := rising l
def k_weave_order (l : List Int) : Bool := decide (l.length < 4611686018427387904)
theorem g_weave_order (l : List Int) (hk : k_weave_order l = true) : Goes (T_weave_order l) (T0_weave_order l) (v_weave_order l) := by
  have hn : l.length < 4611686018427387904 := of_decide_eq_true hk
  have loop : ∀ k, k ≤ l.length → ∀ p : Int, (0 < k → l[k - 1]? = some p) → (k = 0 → p = -1) → Goes (T_weave_order l) (.jmp (.l3 (k : Int))) (risingFrom p (l.drop k)) := by
    refine down ?_ fun k hk ih => ?_
    · intro p hp hp0
      rw [goes_jmp]
      simp only [T_weave_order, goes_br, lt_len_not (Nat.lt_irrefl _), List.drop_length]
      exact .leaf
    · intro p hp hp0
      rw [goes_jmp, drop_cons hk]
      have nx : Goes (T_weave_order l) (.jmp (.l3 ((k + 1 : Nat) : Int))) (risingFrom l[k] (l.drop (k + 1))) := ih l[k] (fun _ => by simp) (fun h => by omega)
      obtain ⟨n, hn'⟩ : ∃ n : Int, l[k] = n := ⟨_, rfl⟩
      rw [hn'] at nx ⊢
      unfold risingFrom
      by_cases h0 : k = 0
      · subst h0
        have e0 : decide (((0 : Nat) : Int) > 0) = false := by decide
        have hp1 := hp0 rfl
        simp only [T_weave_order, goes_br, lt_len hk, nng, Bool.and_self, if_true, Int.toNat_natCast, getD_lt hk, hn', wrap_succ (k := 0) (by omega), e0]
        by_cases h1 : n < 0
        · rw [if_pos (decide_eq_true h1), if_pos (by omega)]; exact .leaf
        · rw [if_neg (by simpa using h1)]
          by_cases h2 : 2147483647 < n
          · rw [if_pos (decide_eq_true (by omega)), if_pos (by omega)]; exact .leaf
          · rw [if_neg (by simp; omega), if_neg (by decide), if_neg (by omega)]; simpa using nx
      · have e0 : decide ((k : Int) > 0) = true := decide_eq_true (by omega)
        have hk1 : k - 1 < l.length := by omega
        have hpv : l[k - 1] = p := by
          have := hp (by omega)
          rw [List.getElem?_eq_getElem hk1] at this
          exact Option.some.inj this
        simp only [T_weave_order, goes_br, lt_len hk, nng, Bool.and_self, if_true, Int.toNat_natCast, getD_lt hk, hn', wrap_succ (k := k) (by omega), wrap_pred (k := k) (by omega) (by omega), lt_len hk1, getD_lt hk1, hpv, e0]
        by_cases h1 : n < 0
        · rw [if_pos (decide_eq_true h1), if_pos (by omega)]; exact .leaf
        · rw [if_neg (by simpa using h1)]
          by_cases h2 : 2147483647 < n
          · rw [if_pos (decide_eq_true (by omega)), if_pos (by omega)]; exact .leaf
          · rw [if_neg (by simp; omega)]
            by_cases h3 : n ≤ p
            · rw [if_pos (decide_eq_true (by omega)), if_pos (by omega)]; exact .leaf
            · rw [if_neg (by simp; omega), if_neg (by omega)]; exact nx
  have := loop 0 (Nat.zero_le _) (-1) (fun h => by omega) (fun _ => rfl)
  unfold T0_weave_order v_weave_order rising
  simpa using this
end Go.Ev
end

section
set_option linter.unusedSectionVars false
set_option linter.unusedVariables false
set_option linter.unusedSimpArgs false
set_option maxRecDepth 100000
set_option linter.unusedVariables false
open Go Go.Ev
namespace Go.Ev
noncomputable def e_weave_order : Run := entG sg_weave_order R_weave_order (fun a => k_weave_order a.1) (fun a => v_weave_order a.1)
theorem ok_weave_order : EntOK Go.Proofs.Tryd.prog 40 e_weave_order := entG_ok (tb := tb_weave_order) (c := c_weave_order) tk_weave_order (by kernel_rfl) (by kernel_rfl) (by kernel_rfl) (fun a => by kernel_rfl) fun ⟨l, _⟩ hk => evF_goes (c := c_weave_order) (K := fun v => (R_weave_order v, tps (toForms sg_weave_order (l, ())))) (S := S_weave_order l) (by kernel_rfl) (en_weave_order l) (lp_weave_order l) (g_weave_order l hk)
end Go.Ev
end

section
set_option linter.unusedSectionVars false
set_option linter.unusedVariables false
set_option linter.unusedSimpArgs false
set_option maxRecDepth 100000
set_option linter.unusedVariables false
open Go Go.Ev
namespace Go.Ev
/-! ### paling/valid.Copy -/
def sg_valid_Copy : Sig := [(true, T_api_Prog)]
noncomputable def t_valid_Copy : Tbl := []
theorem tk_valid_Copy : ∀ p ∈ t_valid_Copy, EntOK Go.Proofs.Tryd.prog p.1 p.2 := tbl_nil
noncomputable def c_valid_Copy : Code := Go.Proofs.Tryd.f41.body.getD .skip
def tb_valid_Copy : Tb := [(4, ⟨[1, 2, 3, 12, 13, 14], [(4097, 48)]⟩), (12, ⟨[2, 3, 31, 32, 33], [(4098, 50)]⟩), (20, ⟨[2, 3, 8, 31, 32, 33, 38, 39, 40], [(9217, 112)]⟩)]
inductive J_valid_Copy where
  | l4 (h : Int) (q : List (El T_api_Sym))
  | l12 (q : List (El T_api_Sym)) (h : Int) (q1 : List (List (El T_api_Ins)))
  | l20 (h : List (El T_api_Ins)) (h1 : Int) (q : List (El T_api_Sym)) (h2 : Int) (u : List (El T_api_Ins)) (h3 : Int) (q1 : List (List (El T_api_Ins)))
def T_valid_Copy (p : El T_api_Prog) : J_valid_Copy → JT J_valid_Copy (El T_api_Prog)
  | .l4 h q =>
    .br (decide (h < (Int.ofNat (List.length p.1))))
      (.br ((decide ((0 : Int) ≤ h)) && (decide (h < (Int.ofNat (List.length p.1)))))
        (.br (Nat.ble ((0 + (List.length (List.getD p.1 (Int.toNat h) (dflt T_api_Sym)).2.2)) * 8) limit)
          (.br (Nat.ble (((List.length q) + 1) * 48) limit)
            (.jmp (.l4 (IntKind.i64.wrap (h + (1 : Int))) (q ++ [(List.getD p.1 (Int.toNat h) (dflt T_api_Sym))])))
          (.no))
        (.no))
      (.no))
    (.jmp (.l12 q (0 : Int) []))
  | .l12 q h q1 =>
    .br (decide (h < (Int.ofNat (List.length p.2))))
      (.br ((decide ((0 : Int) ≤ h)) && (decide (h < (Int.ofNat (List.length p.2)))))
        (.jmp (.l20 (List.getD p.2 (Int.toNat h) (dflt (.sl T_api_Ins))) (Int.ofNat (List.length (List.getD p.2 (Int.toNat h) (dflt (.sl T_api_Ins))))) q (0 : Int) [] h q1))
      (.no))
    (.leaf (q, q1))
  | .l20 h h1 q h2 u h3 q1 =>
    .br (decide (h2 < h1))
      (.br ((decide ((0 : Int) ≤ h2)) && (decide (h2 < (Int.ofNat (List.length h)))))
        (.br (Nat.ble ((0 + (List.length (List.getD h (Int.toNat h2) (dflt T_api_Ins)).2.2.2.2.2.2)) * 16) limit)
          (.br (Nat.ble (((List.length u) + 1) * 128) limit)
            (.jmp (.l20 h h1 q (IntKind.i64.wrap (h2 + (1 : Int))) (u ++ [(List.getD h (Int.toNat h2) (dflt T_api_Ins))]) h3 q1))
          (.no))
        (.no))
      (.no))
    (.br (Nat.ble (((List.length q1) + 1) * 24) limit)
      (.jmp (.l12 q (IntKind.i64.wrap (h3 + (1 : Int))) (q1 ++ [u])))
    (.no))
def T0_valid_Copy (p : El T_api_Prog) : JT J_valid_Copy (El T_api_Prog) :=
  .jmp (.l4 (0 : Int) [])
def R_valid_Copy : El T_api_Prog → AV := fun (r : El T_api_Prog) => .ag [.rw 70 T_api_Sym r.1, .rw 58 (.sl T_api_Ins) r.2]
def S_valid_Copy (p : El T_api_Prog) : J_valid_Copy → Nat × St
  | .l4 h q => (4, ⟨mkTm 64 [(1, .pt 2 0 0), (2, .pt 3 0 0), (3, .pt 4 0 0), (12, .d (.sl T_api_Sym) p.1), (13, .d (.int .i64) (Int.ofNat (List.length p.1))), (14, .d (.int .i64) h)], [(2, 0, .box 27 [.d (.sl T_api_Sym) p.1, .d (.sl (.sl T_api_Ins)) p.2] none), (3, 0, .box 27 [.nil, .nil] none), (4, 0, .box 27 [.own 4097 0 none, .nil] none), (4097, 0, .row 70 T_api_Sym q false)]⟩)
  | .l12 q h q1 => (12, ⟨mkTm 64 [(2, .pt 3 0 0), (3, .pt 4 0 0), (31, .d (.sl (.sl T_api_Ins)) p.2), (32, .d (.int .i64) (Int.ofNat (List.length p.2))), (33, .d (.int .i64) h)], [(3, 0, .box 27 [.nil, .nil] none), (4, 0, .box 27 [.own 4097 0 none, .own 4098 0 none] none), (4097, 0, .row 70 T_api_Sym q false), (4098, 0, .row 58 (.sl T_api_Ins) q1 false)]⟩)
  | .l20 h h1 q h2 u h3 q1 => (20, ⟨mkTm 64 [(2, .pt 3 0 0), (3, .pt 4 0 0), (8, .pt 9 0 0), (31, .d (.sl (.sl T_api_Ins)) p.2), (32, .d (.int .i64) (Int.ofNat (List.length p.2))), (33, .d (.int .i64) h3), (38, .d (.sl T_api_Ins) h), (39, .d (.int .i64) h1), (40, .d (.int .i64) h2)], [(3, 0, .box 27 [.nil, .nil] none), (4, 0, .box 27 [.own 4097 0 none, .own 4098 0 none] none), (9, 0, .box 58 [.own 9217 0 none] none), (4097, 0, .row 70 T_api_Sym q false), (4098, 0, .row 58 (.sl T_api_Ins) q1 false), (9217, 0, .row 63 T_api_Ins u false)]⟩)
theorem en_valid_Copy (p : El T_api_Prog) (L : Lt) : entryA Go.Proofs.Tryd.prog (clOf t_valid_Copy) tb_valid_Copy Go.Proofs.Tryd.f41 c_valid_Copy L (toForms sg_valid_Copy (p, ())) = (T0_valid_Copy p).run (fun v => some (R_valid_Copy v, tps (toForms sg_valid_Copy (p, ())))) fun j => L (S_valid_Copy p j).1 (S_valid_Copy p j).2 := by kernel_rfl
theorem lp_valid_Copy (p : El T_api_Prog) : ∀ (L : Lt) (j : J_valid_Copy), procOf (procsF Go.Proofs.Tryd.prog (clOf t_valid_Copy) tb_valid_Copy Go.Proofs.Tryd.f41 c_valid_Copy (toForms sg_valid_Copy (p, ()))) (S_valid_Copy p j).1 L (S_valid_Copy p j).2 = (T_valid_Copy p j).run (fun v => some (R_valid_Copy v, tps (toForms sg_valid_Copy (p, ())))) fun j => L (S_valid_Copy p j).1 (S_valid_Copy p j).2
  | L, .l4 h q => by kernel_rfl
  | L, .l12 q h q1 => by kernel_rfl
  | L, .l20 h h1 q h2 u h3 q1 => by kernel_rfl
end Go.Ev
end

section
set_option linter.unusedSectionVars false
set_option linter.unusedVariables false
set_option linter.unusedSimpArgs false
/- What a copy of a program needs of memory. -/
set_option linter.unusedVariables false
set_option linter.unusedSimpArgs false
namespace Go.Ev
open Go
def copyIns (i : El T_api_Ins) : Bool := decide (List.length i.2.2.2.2.2.2 < 1073741824)
def copyThread (t : List (El T_api_Ins)) : Bool := decide (t.length < 1073741824) && t.all copyIns
def copyB (p : El T_api_Prog) : Bool := decide (p.1.length < 1073741824) && ((p.1.all fun s => decide (List.length s.2.2 < 1073741824)) && (decide (p.2.length < 1073741824) && p.2.all copyThread))
structure CopyOK (p : El T_api_Prog) : Prop where
  syms : p.1.length < 1073741824
  init : ∀ s ∈ p.1, List.length s.2.2 < 1073741824
  thr : p.2.length < 1073741824
  len : ∀ t ∈ p.2, List.length t < 1073741824
  lab : ∀ t ∈ p.2, ∀ i ∈ t, List.length i.2.2.2.2.2.2 < 1073741824
theorem copyOK {p : El T_api_Prog} (h : copyB p = true) : CopyOK p := by
  unfold copyB copyThread copyIns at h
  simp only [Bool.and_eq_true, decide_eq_true_eq, List.all_eq_true] at h
  exact ⟨h.1, h.2.1, h.2.2.1, fun t ht => (h.2.2.2 t ht).1, fun t ht => (h.2.2.2 t ht).2⟩
theorem bleN {n b : Nat} (h : n * b ≤ limit) : Nat.ble (n * b) limit = true := Nat.ble_eq_true_of_le h
end Go.Ev
end

section
set_option linter.unusedSectionVars false
set_option linter.unusedVariables false
set_option linter.unusedSimpArgs false
set_option linter.unusedVariables false
set_option linter.unusedSimpArgs false
open Go
namespace Go.Ev
def v_valid_Copy (p : El T_api_Prog) : El T_api_Prog := p
def k_valid_Copy (p : El T_api_Prog) : Bool := copyB p
theorem g_valid_Copy (p : El T_api_Prog) (hk : k_valid_Copy p = true) : Goes (T_valid_Copy p) (T0_valid_Copy p) (v_valid_Copy p) := by
  have hC := copyOK hk
  have h1 := hC.syms
  have h2 := hC.thr
  have l12 : ∀ k, k ≤ p.2.length → Goes (T_valid_Copy p) (.jmp (.l12 p.1 (k : Int) (p.2.take k))) p := by
    refine down ?_ fun k hk ih => ?_
    · rw [goes_jmp]
      simp only [T_valid_Copy, goes_br, lt_len_not (Nat.lt_irrefl _), List.take_length, if_false, Bool.false_eq_true]
      exact .leaf
    · obtain ⟨t, ht⟩ : ∃ t, p.2[k] = t := ⟨_, rfl⟩
      have hm : t ∈ p.2 := by rw [← ht]; exact List.getElem_mem hk
      have hl := hC.len t hm
      have l20 : ∀ j, j ≤ List.length t → Goes (T_valid_Copy p) (.jmp (.l20 t (Int.ofNat (List.length t)) p.1 (j : Int) (List.take j t) (k : Int) (p.2.take k))) p := by
        refine down ?_ fun j hj ihj => ?_
        · have b : Nat.ble (((p.2.take k).length + 1) * 24) limit = true := bleN (by rw [List.length_take]; unfold limit; omega)
          rw [goes_jmp]
          simp only [T_valid_Copy, goes_br, lt_len_not (Nat.lt_irrefl _), b, if_true, if_false, Bool.false_eq_true, wrap_succ (k := k) (by omega), List.take_length]
          rw [← ht, ← List.take_succ_eq_append_getElem hk]
          exact ih
        · have hb := hC.lab t hm _ (List.getElem_mem hj)
          have b1 : Nat.ble ((0 + List.length (t[j]).2.2.2.2.2.2) * 16) limit = true := bleN (by unfold limit; omega)
          have b2 : Nat.ble (((List.take j t).length + 1) * 128) limit = true := bleN (by rw [List.length_take]; unfold limit; omega)
          rw [goes_jmp]
          simp only [T_valid_Copy, goes_br, lt_len hj, nng, Bool.and_self, if_true, Int.toNat_natCast, getD_lt hj, b1, b2, wrap_succ (k := j) (by omega)]
          rw [← List.take_succ_eq_append_getElem hj]
          exact ihj
      rw [goes_jmp]
      simp only [T_valid_Copy, goes_br, lt_len hk, nng, Bool.and_self, if_true, Int.toNat_natCast, getD_lt hk, ht]
      exact l20 0 (Nat.zero_le _)
  have l4 : ∀ k, k ≤ p.1.length → Goes (T_valid_Copy p) (.jmp (.l4 (k : Int) (p.1.take k))) p := by
    refine down ?_ fun k hk ih => ?_
    · rw [goes_jmp]
      simp only [T_valid_Copy, goes_br, lt_len_not (Nat.lt_irrefl _), List.take_length, if_false, Bool.false_eq_true]
      exact l12 0 (Nat.zero_le _)
    · have hi := hC.init _ (List.getElem_mem hk)
      have b1 : Nat.ble ((0 + List.length (p.1[k]).2.2) * 8) limit = true := bleN (by unfold limit; omega)
      have b2 : Nat.ble (((p.1.take k).length + 1) * 48) limit = true := bleN (by rw [List.length_take]; unfold limit; omega)
      rw [goes_jmp]
      simp only [T_valid_Copy, goes_br, lt_len hk, nng, Bool.and_self, if_true, Int.toNat_natCast, getD_lt hk, b1, b2, wrap_succ (k := k) (by omega)]
      rw [← List.take_succ_eq_append_getElem hk]
      exact ih
  unfold T0_valid_Copy v_valid_Copy
  exact l4 0 (Nat.zero_le _)
end Go.Ev
end

section
set_option linter.unusedSectionVars false
set_option linter.unusedVariables false
set_option linter.unusedSimpArgs false
set_option maxRecDepth 100000
set_option linter.unusedVariables false
open Go Go.Ev
namespace Go.Ev
noncomputable def e_valid_Copy : Run := entG sg_valid_Copy R_valid_Copy (fun a => k_valid_Copy a.1) (fun a => v_valid_Copy a.1)
theorem ok_valid_Copy : EntOK Go.Proofs.Tryd.prog 41 e_valid_Copy := entG_ok (tb := tb_valid_Copy) (c := c_valid_Copy) tk_valid_Copy (by kernel_rfl) (by kernel_rfl) (by kernel_rfl) (fun a => by kernel_rfl) fun ⟨p, _⟩ hk => evF_goes (c := c_valid_Copy) (K := fun v => (R_valid_Copy v, tps (toForms sg_valid_Copy (p, ())))) (S := S_valid_Copy p) (by kernel_rfl) (en_valid_Copy p) (lp_valid_Copy p) (g_valid_Copy p hk)
end Go.Ev
end

section
set_option linter.unusedSectionVars false
set_option linter.unusedVariables false
set_option linter.unusedSimpArgs false
set_option maxRecDepth 100000
set_option linter.unusedVariables false
open Go Go.Ev
namespace Go.Ev
/-! ### paling/weave.of -/
def sg_weave_of : Sig := [(false, (.sl (.sl (.int .i64)))), (false, (.int .i64))]
noncomputable def t_weave_of : Tbl := []
theorem tk_weave_of : ∀ p ∈ t_weave_of, EntOK Go.Proofs.Tryd.prog p.1 p.2 := tbl_nil
noncomputable def c_weave_of : Code := Go.Proofs.Tryd.f42.body.getD .skip
def tb_weave_of : Tb := [(hintK, ⟨[], [(1, 73)]⟩)]
def T_weave_of (l : List (List Int)) (t : Int) : Empty → JT Empty (List Int) := fun j => nomatch j
def T0_weave_of (l : List (List Int)) (t : Int) : JT Empty (List Int) :=
  .br (decide (t < (Int.ofNat (List.length l))))
    (.br ((decide ((0 : Int) ≤ t)) && (decide (t < (Int.ofNat (List.length l)))))
      (.leaf (List.getD l (Int.toNat t) (dflt (.sl (.int .i64)))))
    (.no))
  (.leaf [])
def v_weave_of (l : List (List Int)) (t : Int) : List Int :=
  bif (decide (t < (Int.ofNat (List.length l)))) then
    bif ((decide ((0 : Int) ≤ t)) && (decide (t < (Int.ofNat (List.length l))))) then
      (List.getD l (Int.toNat t) (dflt (.sl (.int .i64))))
    else []
  else []
def k_weave_of (l : List (List Int)) (t : Int) : Bool :=
  bif (decide (t < (Int.ofNat (List.length l)))) then
    bif ((decide ((0 : Int) ≤ t)) && (decide (t < (Int.ofNat (List.length l))))) then
      true
    else false
  else true
theorem g_weave_of (l : List (List Int)) (t : Int) (hk : k_weave_of l t = true) : Goes (T_weave_of l t) (T0_weave_of l t) (v_weave_of l t) :=
  Goes.brk hk (fun hk =>
    Goes.brk hk (fun hk =>
      Goes.leaf) (fun hk =>
      Goes.nok hk)) (fun hk =>
    Goes.leaf)
def R_weave_of : List Int → AV := fun (r : List Int) => .d (.sl (.int .i64)) r
def S_weave_of (l : List (List Int)) (t : Int) : Empty → Nat × St := fun j => nomatch j
theorem en_weave_of (l : List (List Int)) (t : Int) (L : Lt) : entryA Go.Proofs.Tryd.prog (clOf t_weave_of) tb_weave_of Go.Proofs.Tryd.f42 c_weave_of L (toForms sg_weave_of (l, t, ())) = (T0_weave_of l t).run (fun v => some (R_weave_of v, tps (toForms sg_weave_of (l, t, ())))) fun j => L (S_weave_of l t j).1 (S_weave_of l t j).2 := by kernel_rfl
theorem lp_weave_of (l : List (List Int)) (t : Int) : ∀ (L : Lt) (j : Empty), procOf (procsF Go.Proofs.Tryd.prog (clOf t_weave_of) tb_weave_of Go.Proofs.Tryd.f42 c_weave_of (toForms sg_weave_of (l, t, ()))) (S_weave_of l t j).1 L (S_weave_of l t j).2 = (T_weave_of l t j).run (fun v => some (R_weave_of v, tps (toForms sg_weave_of (l, t, ())))) fun j => L (S_weave_of l t j).1 (S_weave_of l t j).2 := fun L j => nomatch j
noncomputable def e_weave_of : Run := entG sg_weave_of R_weave_of (fun a => k_weave_of a.1 a.2.1) (fun a => v_weave_of a.1 a.2.1)
theorem ok_weave_of : EntOK Go.Proofs.Tryd.prog 42 e_weave_of := entG_ok (tb := tb_weave_of) (c := c_weave_of) tk_weave_of (by kernel_rfl) (by kernel_rfl) (by kernel_rfl) (fun a => by kernel_rfl) fun ⟨l, t, _⟩ hk => evF_goes (c := c_weave_of) (K := fun v => (R_weave_of v, tps (toForms sg_weave_of (l, t, ())))) (S := S_weave_of l t) (by kernel_rfl) (en_weave_of l t) (lp_weave_of l t) (g_weave_of l t hk)
end Go.Ev
end

section
set_option linter.unusedSectionVars false
set_option linter.unusedVariables false
set_option linter.unusedSimpArgs false
set_option maxRecDepth 100000
set_option linter.unusedVariables false
open Go Go.Ev
namespace Go.Ev
/-! ### paling/weave.In -/
def sg_weave_In : Sig := [(true, T_api_Prog), (false, (.sl (.sl (.int .i64))))]
noncomputable def t_weave_In : Tbl := [(39, e_valid_Check), (40, e_weave_order), (41, e_valid_Copy), (42, e_weave_of)]
theorem tk_weave_In : ∀ p ∈ t_weave_In, EntOK Go.Proofs.Tryd.prog p.1 p.2 := tbl_cons ok_valid_Check (tbl_cons ok_weave_order (tbl_cons ok_valid_Copy (tbl_cons ok_weave_of (tbl_nil))))
noncomputable def c_weave_In : Code := Go.Proofs.Tryd.f14.body.getD .skip
def tb_weave_In : Tb := [(6, ⟨[1, 2, 4, 26, 27, 28], []⟩), (16, ⟨[1, 4, 8, 63, 64], []⟩), (25, ⟨[1, 4, 8, 9, 10, 11, 63, 64, 75, 76, 77], [(12, 112)]⟩), (hintK, ⟨[], [(1049601, 48), (1049602, 50)]⟩)]
inductive J_weave_In where
  | l6 (h : Int)
  | l16 (h : Int) (q : List (List (El T_api_Ins)))
  | l25 (h : List (El T_api_Ins)) (h1 : Int) (l : List Int) (h2 : Int) (out : List (El T_api_Ins)) (t : Int) (h3 : Int) (q : List (List (El T_api_Ins)))
def T_weave_In (p : El T_api_Prog) (points : List (List Int)) : J_weave_In → JT J_weave_In ((El T_api_Prog) × Bool)
  | .l6 h =>
    .br (decide (h < (Int.ofNat (List.length points))))
      (.br ((decide ((0 : Int) ≤ h)) && (decide (h < (Int.ofNat (List.length points)))))
        (.br (k_weave_order (List.getD points (Int.toNat h) (dflt (.sl (.int .i64)))))
          (.br (! (v_weave_order (List.getD points (Int.toNat h) (dflt (.sl (.int .i64))))))
            (.leaf (([], []), false))
          (.br (decide ((Int.ofNat (List.length (List.getD points (Int.toNat h) (dflt (.sl (.int .i64)))))) > (0 : Int)))
            (.br ((decide ((0 : Int) ≤ (IntKind.i64.wrap ((Int.ofNat (List.length (List.getD points (Int.toNat h) (dflt (.sl (.int .i64)))))) - (1 : Int))))) && (decide ((IntKind.i64.wrap ((Int.ofNat (List.length (List.getD points (Int.toNat h) (dflt (.sl (.int .i64)))))) - (1 : Int))) < (Int.ofNat (List.length (List.getD points (Int.toNat h) (dflt (.sl (.int .i64)))))))))
              (.br ((decide ((0 : Int) ≤ h)) && (decide (h < (Int.ofNat (List.length p.2)))))
                (.br (decide ((List.getD (List.getD points (Int.toNat h) (dflt (.sl (.int .i64)))) (Int.toNat (IntKind.i64.wrap ((Int.ofNat (List.length (List.getD points (Int.toNat h) (dflt (.sl (.int .i64)))))) - (1 : Int)))) (dflt (.int .i64))) ≥ (Int.ofNat (List.length (List.getD p.2 (Int.toNat h) (dflt (.sl T_api_Ins)))))))
                  (.leaf (([], []), false))
                (.jmp (.l6 (IntKind.i64.wrap (h + (1 : Int))))))
              (.no))
            (.no))
          (.jmp (.l6 (IntKind.i64.wrap (h + (1 : Int)))))))
        (.no))
      (.no))
    (.br (k_valid_Copy p)
      (.jmp (.l16 (0 : Int) (v_valid_Copy p).2))
    (.no))
  | .l16 h q =>
    .br (decide (h < (Int.ofNat (List.length (v_valid_Copy p).2))))
      (.br (k_weave_of points h)
        (.br ((decide ((0 : Int) ≤ h)) && (decide (h < (Int.ofNat (List.length q)))))
          (.jmp (.l25 (List.getD q (Int.toNat h) (dflt (.sl T_api_Ins))) (Int.ofNat (List.length (List.getD q (Int.toNat h) (dflt (.sl T_api_Ins))))) (v_weave_of points h) (0 : Int) [] h h q))
        (.no))
      (.no))
    (.leaf (((v_valid_Copy p).1, q), true))
  | .l25 h h1 l h2 out t h3 q =>
    .br (decide (h2 < h1))
      (.br ((decide ((0 : Int) ≤ h2)) && (decide (h2 < (Int.ofNat (List.length h)))))
        (.br (decide ((Int.ofNat (List.length l)) > (0 : Int)))
          (.br (decide ((0 : Int) < (Int.ofNat (List.length l))))
            (.br ((List.getD l 0 (dflt (.int .i64))) == h2)
              (.br ((((decide ((0 : Int) ≤ (Int.ofNat (List.length l)))) && (decide ((Int.ofNat (List.length l)) ≤ (Int.ofNat (List.length l))))) && true) && (decide ((1 : Int) ≤ (Int.ofNat (List.length l)))))
                (.br (Nat.ble (((List.length out) + 1) * 128) limit)
                  (.br (Nat.ble (((List.length (out ++ [((12 : Int), (false, ((0 : Int), (((0 : Int), ((0 : Int), ((0 : Int), (0 : Int)))), (((0 : Int), ((0 : Int), ((0 : Int), (0 : Int)))), ((bs []), (List.getD h (Int.toNat h2) (dflt T_api_Ins)).2.2.2.2.2.2))))))])) + 1) * 128) limit)
                    (.jmp (.l25 h h1 (List.drop 1 (List.take (List.length l) l)) (IntKind.i64.wrap (h2 + (1 : Int))) ((out ++ [((12 : Int), (false, ((0 : Int), (((0 : Int), ((0 : Int), ((0 : Int), (0 : Int)))), (((0 : Int), ((0 : Int), ((0 : Int), (0 : Int)))), ((bs []), (List.getD h (Int.toNat h2) (dflt T_api_Ins)).2.2.2.2.2.2))))))]) ++ [((List.getD h (Int.toNat h2) (dflt T_api_Ins)).1, ((List.getD h (Int.toNat h2) (dflt T_api_Ins)).2.1, ((List.getD h (Int.toNat h2) (dflt T_api_Ins)).2.2.1, ((List.getD h (Int.toNat h2) (dflt T_api_Ins)).2.2.2.1, ((List.getD h (Int.toNat h2) (dflt T_api_Ins)).2.2.2.2.1, ((List.getD h (Int.toNat h2) (dflt T_api_Ins)).2.2.2.2.2.1, []))))))]) t h3 q))
                  (.no))
                (.no))
              (.no))
            (.br (Nat.ble (((List.length out) + 1) * 128) limit)
              (.jmp (.l25 h h1 l (IntKind.i64.wrap (h2 + (1 : Int))) (out ++ [(List.getD h (Int.toNat h2) (dflt T_api_Ins))]) t h3 q))
            (.no)))
          (.no))
        (.br (Nat.ble (((List.length out) + 1) * 128) limit)
          (.jmp (.l25 h h1 l (IntKind.i64.wrap (h2 + (1 : Int))) (out ++ [(List.getD h (Int.toNat h2) (dflt T_api_Ins))]) t h3 q))
        (.no)))
      (.no))
    (.br ((decide ((0 : Int) ≤ t)) && (decide (t < (Int.ofNat (List.length q)))))
      (.jmp (.l16 (IntKind.i64.wrap (h3 + (1 : Int))) (List.set q (Int.toNat t) out)))
    (.no))
def T0_weave_In (p : El T_api_Prog) (points : List (List Int)) : JT J_weave_In ((El T_api_Prog) × Bool) :=
  .br (k_valid_Check p)
    (.br ((v_valid_Check p) != (0 : Int))
      (.leaf (([], []), false))
    (.br (decide ((Int.ofNat (List.length points)) > (Int.ofNat (List.length p.2))))
      (.leaf (([], []), false))
    (.jmp (.l6 (0 : Int)))))
  (.no)
def R_weave_In : (El T_api_Prog) × Bool → AV := fun (r : (El T_api_Prog) × Bool) => .tu [.ag [.rw 70 T_api_Sym r.1.1, .rw 58 (.sl T_api_Ins) r.1.2], .d .bool r.2]
def S_weave_In (p : El T_api_Prog) (points : List (List Int)) : J_weave_In → Nat × St
  | .l6 h => (6, ⟨mkTm 114 [(1, .d (.sl (.sl (.int .i64))) points), (2, .pt 3 0 0), (4, .pt 5 0 0), (26, .d (.sl (.sl (.int .i64))) points), (27, .d (.int .i64) (Int.ofNat (List.length points))), (28, .d (.int .i64) h)], [(3, 0, .box 27 [.d (.sl T_api_Sym) p.1, .d (.sl (.sl T_api_Ins)) p.2] none), (5, 0, .box 27 [.nil, .nil] none)]⟩)
  | .l16 h q => (16, ⟨mkTm 114 [(1, .d (.sl (.sl (.int .i64))) points), (4, .pt 5 0 0), (8, .pt 9 0 0), (63, .d (.int .i64) (Int.ofNat (List.length (v_valid_Copy p).2))), (64, .d (.int .i64) h)], [(5, 0, .box 27 [.nil, .nil] none), (9, 0, .box 27 [.own 9217 0 none, .own 9218 0 none] none), (9217, 0, .row 70 T_api_Sym (v_valid_Copy p).1 false), (9218, 0, .row 58 (.sl T_api_Ins) q false)]⟩)
  | .l25 h h1 l h2 out t h3 q => (25, ⟨mkTm 114 [(1, .d (.sl (.sl (.int .i64))) points), (4, .pt 5 0 0), (8, .pt 9 0 0), (9, .d (.int .i64) t), (10, .d (.sl (.int .i64)) l), (11, .own 12 0 none), (63, .d (.int .i64) (Int.ofNat (List.length (v_valid_Copy p).2))), (64, .d (.int .i64) h3), (75, .d (.sl T_api_Ins) h), (76, .d (.int .i64) h1), (77, .d (.int .i64) h2)], [(5, 0, .box 27 [.nil, .nil] none), (9, 0, .box 27 [.own 9217 0 none, .own 9218 0 none] none), (12, 0, .row 63 T_api_Ins out false), (9217, 0, .row 70 T_api_Sym (v_valid_Copy p).1 false), (9218, 0, .row 58 (.sl T_api_Ins) q false)]⟩)
theorem en_weave_In (p : El T_api_Prog) (points : List (List Int)) (L : Lt) : entryA Go.Proofs.Tryd.prog (clOf t_weave_In) tb_weave_In Go.Proofs.Tryd.f14 c_weave_In L (toForms sg_weave_In (p, points, ())) = (T0_weave_In p points).run (fun v => some (R_weave_In v, tps (toForms sg_weave_In (p, points, ())))) fun j => L (S_weave_In p points j).1 (S_weave_In p points j).2 := by kernel_rfl
theorem lp_weave_In (p : El T_api_Prog) (points : List (List Int)) : ∀ (L : Lt) (j : J_weave_In), procOf (procsF Go.Proofs.Tryd.prog (clOf t_weave_In) tb_weave_In Go.Proofs.Tryd.f14 c_weave_In (toForms sg_weave_In (p, points, ()))) (S_weave_In p points j).1 L (S_weave_In p points j).2 = (T_weave_In p points j).run (fun v => some (R_weave_In v, tps (toForms sg_weave_In (p, points, ())))) fun j => L (S_weave_In p points j).1 (S_weave_In p points j).2
  | L, .l6 h => by kernel_rfl
  | L, .l16 h q => by kernel_rfl
  | L, .l25 h h1 l h2 out t h3 q => by kernel_rfl
end Go.Ev
end

section
set_option linter.unusedSectionVars false
set_option linter.unusedVariables false
set_option linter.unusedSimpArgs false
/- Fences laid into programs, and taken out: over lists. -/
set_option linter.unusedVariables false
set_option linter.unusedSimpArgs false
namespace Go.Ev
open Go
def fenceI (ls : List ByteArray) : El T_api_Ins := ((12 : Int), (false, ((0 : Int), (((0 : Int), ((0 : Int), ((0 : Int), (0 : Int)))), (((0 : Int), ((0 : Int), ((0 : Int), (0 : Int)))), ((bs []), ls))))))
def withLs (i : El T_api_Ins) (ls : List ByteArray) : El T_api_Ins := (i.1, (i.2.1, (i.2.2.1, (i.2.2.2.1, (i.2.2.2.2.1, (i.2.2.2.2.2.1, ls))))))
def labsOf (i : El T_api_Ins) : List ByteArray := i.2.2.2.2.2.2
/-- Fences ahead of the places of a list. -/
def laidT (l : List Int) : Nat → List (El T_api_Ins) → List (El T_api_Ins)
  | _, [] => []
  | k, i :: r => if l.contains (k : Int) then fenceI (labsOf i) :: withLs i [] :: laidT l (k + 1) r else i :: laidT l (k + 1) r
theorem laidT_len (l : List Int) : ∀ (x : List (El T_api_Ins)) (k : Nat), (laidT l k x).length ≤ 2 * x.length
  | [], _ => Nat.zero_le _
  | i :: r, k => by
    have := laidT_len l r (k + 1)
    unfold laidT
    split <;> simp only [List.length_cons] <;> omega
theorem laidT_nil : ∀ (x : List (El T_api_Ins)) (k : Nat), laidT [] k x = x
  | [], _ => rfl
  | i :: r, k => by
    unfold laidT
    rw [laidT_nil r (k + 1), if_neg (by simp)]
def laidP : List (List Int) → List (List (El T_api_Ins)) → List (List (El T_api_Ins))
  | _, [] => []
  | [], x :: xs => x :: xs
  | l :: ls, x :: xs => laidT l 0 x :: laidP ls xs
theorem laidP_len : ∀ (ls : List (List Int)) (xs : List (List (El T_api_Ins))), (laidP ls xs).length = xs.length
  | _, [] => by cases ‹List (List Int)› <;> rfl
  | [], x :: xs => rfl
  | l :: ls, x :: xs => by unfold laidP; rw [List.length_cons, List.length_cons, laidP_len ls xs]
theorem laidP_get : ∀ (ls : List (List Int)) (xs : List (List (El T_api_Ins))) (t : Nat) (h : t < xs.length), (laidP ls xs)[t]? = some (laidT (ls.getD t []) 0 xs[t])
  | [], x :: xs, t, h => by
    unfold laidP
    rw [List.getElem?_eq_getElem h]
    have : List.getD ([] : List (List Int)) t [] = [] := by simp
    rw [this, laidT_nil]
  | l :: ls, x :: xs, 0, h => rfl
  | l :: ls, x :: xs, t + 1, h => by
    unfold laidP
    rw [List.getElem?_cons_succ, laidP_get ls xs t (by simpa using h)]
    simp
/-- May these be points of a thread of so many? -/
def okPts (l : List Int) (n : Nat) : Bool := rising l && l.all fun x => decide (x < (n : Int))
def okAll : List (List Int) → List (List (El T_api_Ins)) → Bool
  | [], _ => true
  | l :: ls, x :: xs => okPts l x.length && okAll ls xs
  | _ :: _, [] => false
theorem okAll_drop {ls : List (List Int)} {xs : List (List (El T_api_Ins))} {k : Nat} (h : k < ls.length) (h' : k < xs.length) : okAll (ls.drop k) (xs.drop k) = (okPts ls[k] (List.length xs[k]) && okAll (ls.drop (k + 1)) (xs.drop (k + 1))) := by
  rw [drop_cons h, drop_cons h']; rfl
/-- The last of a rising list is the greatest. -/
theorem last_ge {l : List Int} (hr : rising l = true) (h : 0 < l.length) (n : Nat) : decide (l[l.length - 1]'(by omega) ≥ (n : Int)) = ! l.all fun x => decide (x < (n : Int)) := by
  have hp := (rising_spec.1 hr).2
  rw [Bool.eq_iff_iff, decide_eq_true_iff, Bool.not_eq_true', ← Bool.not_eq_true, List.all_eq_true]
  constructor
  · intro hge hall
    have := hall _ (List.getElem_mem (show l.length - 1 < l.length by omega))
    simp at this
    omega
  · intro hall
    refine Classical.byContradiction fun hlt => hall fun x hx => ?_
    obtain ⟨i, hi, rfl⟩ := List.mem_iff_getElem.1 hx
    have : l[i] ≤ l[l.length - 1]'(by omega) := by
      by_cases he : i = l.length - 1
      · subst he; exact Int.le_refl _
      · exact Int.le_of_lt (List.pairwise_iff_getElem.1 hp i (l.length - 1) hi (by omega) (by omega))
    simp
    omega
def noProg : El T_api_Prog := ([], [])
def inC (p : El T_api_Prog) (points : List (List Int)) : El T_api_Prog × Bool :=
  if checkC p ≠ 0 ∨ p.2.length < points.length ∨ okAll points p.2 = false then (noProg, false) else ((p.1, laidP points p.2), true)
/-- So far from one, then from the other. -/
theorem mix_set {α : Type} {r x : List α} {k : Nat} (hl : r.length = x.length) (h : k < x.length) : (r.take k ++ x.drop k).set k (r[k]'(by omega)) = r.take (k + 1) ++ x.drop (k + 1) := by
  rw [List.set_append_right _ _ (by rw [List.length_take]; omega), List.length_take, Nat.min_eq_left (by omega), Nat.sub_self, drop_cons h, List.set_cons_zero, List.take_succ_eq_append_getElem (by omega), List.append_assoc]
  rfl
theorem mix_len {α : Type} {r x : List α} {k : Nat} (hl : r.length = x.length) (h : k ≤ x.length) : (r.take k ++ x.drop k).length = x.length := by
  rw [List.length_append, List.length_take, List.length_drop]; omega
theorem mix_get {α : Type} {r x : List α} {k : Nat} (hl : r.length = x.length) (h : k < x.length) : (r.take k ++ x.drop k)[k]? = some x[k] := by
  rw [List.getElem?_append_right (by rw [List.length_take]; omega), List.length_take, Nat.min_eq_left (by omega), Nat.sub_self, drop_cons h]; rfl
/-- What is left of a rising list from a place on. -/
structure Suf (pts : List Int) (k : Nat) (l : List Int) : Prop where
  pw : l.Pairwise (· < ·)
  ge : ∀ x ∈ l, (k : Int) ≤ x
  mem : ∀ x : Int, (k : Int) ≤ x → (x ∈ pts ↔ x ∈ l)
theorem Suf.start {pts : List Int} (h : rising pts = true) : Suf pts 0 pts := ⟨(rising_spec.1 h).2, fun x hx => ((rising_spec.1 h).1 x hx).1, fun x _ => Iff.rfl⟩
theorem Suf.hit {pts : List Int} {k : Nat} {n : Int} {r : List Int} (h : Suf pts k (n :: r)) (hn : n = (k : Int)) : pts.contains (k : Int) = true ∧ Suf pts (k + 1) r := by
  obtain ⟨h1, h2⟩ := List.pairwise_cons.1 h.pw
  refine ⟨?_, h2, fun x hx => ?_, fun x hx => ?_⟩
  · rw [List.contains_iff_mem]; exact (h.mem _ (Int.le_refl _)).2 (by rw [hn]; exact List.mem_cons_self ..)
  · have := h1 x hx; omega
  · rw [h.mem x (by omega), List.mem_cons]
    exact ⟨fun hx' => hx'.resolve_left (by omega), .inr⟩
theorem Suf.miss {pts : List Int} {k : Nat} {l : List Int} (h : Suf pts k l) (hn : ∀ n r, l = n :: r → n ≠ (k : Int)) : pts.contains (k : Int) = false ∧ Suf pts (k + 1) l := by
  have hk : (k : Int) ∉ l := by
    intro hm
    cases l with
    | nil => cases hm
    | cons n r =>
      have h1 := hn n r rfl
      rcases List.mem_cons.1 hm with hm | hm
      · exact h1 hm.symm
      · have := (List.pairwise_cons.1 h.pw).1 _ hm
        have := h.ge n (by simp)
        omega
  refine ⟨?_, h.pw, fun x hx => ?_, fun x hx => h.mem x (by omega)⟩
  · rw [← Bool.not_eq_true, List.contains_iff_mem, h.mem _ (Int.le_refl _)]; exact hk
  · have := h.ge x hx
    have : x ≠ (k : Int) := fun e => hk (e ▸ hx)
    omega
end Go.Ev
end

section
set_option linter.unusedSectionVars false
set_option linter.unusedVariables false
set_option linter.unusedSimpArgs false
set_option linter.unusedVariables false
set_option linter.unusedSimpArgs false
open Go
namespace Go.Ev
def v_weave_In (p : El T_api_Prog) (points : List (List Int)) : (El T_api_Prog) × Bool := inC p points
def k_weave_In (p : El T_api_Prog) (points : List (List Int)) : Bool := smallProg p && (copyB p && points.all fun l => decide (List.length l < 1099511627776))
theorem of_is {points : List (List Int)} (t : Nat) : k_weave_of points t = true ∧ v_weave_of points t = points.getD t [] := by
  unfold k_weave_of v_weave_of
  by_cases h : t < points.length
  · simp only [lt_len h, nng, Bool.and_self, cond_true, Int.toNat_natCast, true_and]
    rfl
  · simp only [lt_len_not h, cond_false, true_and]
    rw [List.getD_eq_getElem?_getD, List.getElem?_eq_none (by omega)]
    rfl
theorem g_weave_In (p : El T_api_Prog) (points : List (List Int)) (hk : k_weave_In p points = true) : Goes (T_weave_In p points) (T0_weave_In p points) (v_weave_In p points) := by
  unfold k_weave_In at hk
  simp only [Bool.and_eq_true, List.all_eq_true, decide_eq_true_eq] at hk
  obtain ⟨hsm, hcp, hpl⟩ := hk
  have hC := copyOK hcp
  have hkc : k_valid_Check p = true := hsm
  have hkC : k_valid_Copy p = true := hcp
  have hvC : v_valid_Copy p = p := rfl
  have hth := hC.thr
  obtain ⟨R, hR⟩ : ∃ R, laidP points p.2 = R := ⟨_, rfl⟩
  have hRl : R.length = p.2.length := by rw [← hR]; exact laidP_len points p.2
  have hRg : ∀ t (h : t < p.2.length), R[t]'(by omega) = laidT (points.getD t []) 0 p.2[t] := fun t h => by
    have := laidP_get points p.2 t h
    rw [hR, List.getElem?_eq_getElem (by omega)] at this
    exact Option.some.inj this
  have main : points.length ≤ p.2.length → (∀ t, t < points.length → rising (points.getD t []) = true) → Goes (T_weave_In p points) (.jmp (.l16 0 p.2)) ((p.1, R), true) := by
    intro hpt hris
    have hris' : ∀ t, rising (points.getD t []) = true := fun t => by
      by_cases h : t < points.length
      · exact hris t h
      · rw [List.getD_eq_getElem?_getD, List.getElem?_eq_none (by omega)]; rfl
    have loop : ∀ t, t ≤ p.2.length → Goes (T_weave_In p points) (.jmp (.l16 (t : Int) (R.take t ++ p.2.drop t))) ((p.1, R), true) := by
      refine down ?_ fun t ht ih => ?_
      · rw [goes_jmp]
        simp only [T_weave_In, goes_br, hvC, lt_len_not (Nat.lt_irrefl _), if_false, Bool.false_eq_true, List.drop_length, List.append_nil]
        rw [show List.take (List.length p.2) R = R by rw [← hRl, List.take_length]]
        exact .leaf
      · obtain ⟨o1, o2⟩ := of_is (points := points) t
        have hql := mix_len (k := t) hRl (by omega)
        have hqt : t < (R.take t ++ p.2.drop t).length := by omega
        have hqg : (R.take t ++ p.2.drop t)[t] = p.2[t] := by
          have := mix_get (k := t) hRl ht
          rw [List.getElem?_eq_getElem hqt] at this
          exact Option.some.inj this
        obtain ⟨x, hx⟩ : ∃ x, p.2[t] = x := ⟨_, rfl⟩
        obtain ⟨pts, hpts⟩ : ∃ pts, points.getD t [] = pts := ⟨_, rfl⟩
        have hxm : x ∈ p.2 := by rw [← hx]; exact List.getElem_mem ht
        have hxl := hC.len x hxm
        have hset := mix_set hRl ht
        rw [hRg t ht, hpts, hx] at hset
        have inner : ∀ k, k ≤ List.length x → ∀ (l : List Int) (out : List (El T_api_Ins)), Suf pts k l → out.length ≤ 2 * k → out ++ laidT pts k (List.drop k x) = laidT pts 0 x →
            Goes (T_weave_In p points) (.jmp (.l25 x (Int.ofNat (List.length x)) l (k : Int) out (t : Int) (t : Int) (R.take t ++ p.2.drop t))) ((p.1, R), true) := by
          refine down ?_ fun k hk ihk => ?_
          · intro l out hs ho he
            rw [goes_jmp]
            simp only [T_weave_In, goes_br, lt_len_not (Nat.lt_irrefl _), if_false, Bool.false_eq_true, lt_len hqt, nng, Bool.and_self, if_true, Int.toNat_natCast, wrap_succ (k := t) (by omega)]
            rw [List.drop_length, show laidT pts (List.length x) [] = [] from rfl, List.append_nil] at he
            rw [he, hset]
            exact ih
          · intro l out hs ho he
            have b1 : Nat.ble ((out.length + 1) * 128) limit = true := bleN (by unfold limit; omega)
            have b2 : ∀ y : El T_api_Ins, Nat.ble (((out ++ [y]).length + 1) * 128) limit = true := fun y => bleN (by rw [List.length_append, List.length_singleton]; unfold limit; omega)
            rw [drop_cons hk] at he
            rw [laidT] at he
            rw [goes_jmp]
            cases l with
            | nil =>
              obtain ⟨m1, m2⟩ := hs.miss (fun n r e => by cases e)
              rw [if_neg (by rw [m1]; decide)] at he
              have e0 : decide (Int.ofNat (List.length ([] : List Int)) > (0 : Int)) = false := by decide
              simp only [T_weave_In, goes_br, lt_len hk, nng, Bool.and_self, if_true, Int.toNat_natCast, getD_lt hk, e0, b1, if_false, Bool.false_eq_true, wrap_succ (k := k) (by omega)]
              exact ihk [] _ m2 (by rw [List.length_append, List.length_singleton]; omega) (by rw [List.append_assoc]; exact he)
            | cons n r =>
              have e0 : decide (Int.ofNat (List.length (n :: r)) > (0 : Int)) = true := by simp
              have e1 : decide ((0 : Int) < Int.ofNat (List.length (n :: r))) = true := by simp
              have e2 : List.getD (n :: r) 0 (dflt (.int .i64)) = n := rfl
              have e3 : ((((decide ((0 : Int) ≤ (Int.ofNat (List.length (n :: r))))) && (decide ((Int.ofNat (List.length (n :: r))) ≤ (Int.ofNat (List.length (n :: r)))))) && true) && (decide ((1 : Int) ≤ (Int.ofNat (List.length (n :: r)))))) = true := by simp; omega
              have e4 : List.drop 1 (List.take (List.length (n :: r)) (n :: r)) = r := by rw [List.take_length]; rfl
              by_cases hn : n = (k : Int)
              · obtain ⟨m1, m2⟩ := hs.hit hn
                rw [if_pos m1] at he
                have e5 : (n == (k : Int)) = true := by simpa using hn
                simp only [T_weave_In, goes_br, lt_len hk, nng, Bool.and_self, if_true, Int.toNat_natCast, getD_lt hk, e0, e1, e2, e3, e4, e5, b1, b2, wrap_succ (k := k) (by omega)]
                exact ihk r _ m2 (by rw [List.length_append, List.length_append, List.length_singleton, List.length_singleton]; omega) (by rw [List.append_assoc, List.append_assoc]; exact he)
              · obtain ⟨m1, m2⟩ := hs.miss (fun n' r' e => by cases e; exact hn)
                rw [if_neg (by rw [m1]; decide)] at he
                have e5 : (n == (k : Int)) = false := by simpa using hn
                simp only [T_weave_In, goes_br, lt_len hk, nng, Bool.and_self, if_true, Int.toNat_natCast, getD_lt hk, e0, e1, e2, e5, b1, if_false, Bool.false_eq_true, wrap_succ (k := k) (by omega)]
                exact ihk _ _ m2 (by rw [List.length_append, List.length_singleton]; omega) (by rw [List.append_assoc]; exact he)
        rw [goes_jmp]
        simp only [T_weave_In, goes_br, hvC, lt_len ht, lt_len hqt, nng, Bool.and_self, if_true, Int.toNat_natCast, getD_lt hqt, hqg, o1, o2, hpts, hx]
        exact inner 0 (Nat.zero_le _) pts [] (Suf.start (hpts ▸ hris' t)) (by simp) rfl
    have := loop 0 (Nat.zero_le _)
    simpa using this
  have check : points.length ≤ p.2.length → ∀ t, t ≤ points.length → (∀ s, s < t → rising (points.getD s []) = true) → Goes (T_weave_In p points) (.jmp (.l6 (t : Int))) (if okAll (points.drop t) (p.2.drop t) then ((p.1, R), true) else (noProg, false)) := by
    intro hpt
    refine down ?_ fun t ht ih => ?_
    · intro hris
      rw [goes_jmp]
      simp only [T_weave_In, goes_br, lt_len_not (Nat.lt_irrefl _), if_false, Bool.false_eq_true, hkC, if_true, hvC, List.drop_length]
      rw [if_pos (by rfl)]
      exact main hpt hris
    · intro hris
      have htp : t < p.2.length := by omega
      have hL := hpl _ (List.getElem_mem ht)
      obtain ⟨l, hl⟩ : ∃ l, points[t] = l := ⟨_, rfl⟩
      rw [hl] at hL
      have hko : k_weave_order l = true := decide_eq_true (by omega)
      have hvo : v_weave_order l = rising l := rfl
      rw [okAll_drop ht htp, hl, goes_jmp]
      by_cases hr : rising l = true
      · have hnext : ∀ s, s < t + 1 → rising (points.getD s []) = true := fun s hs => by
          by_cases he : s = t
          · subst he; rw [getD_lt ht, hl]; exact hr
          · exact hris s (by omega)
        by_cases h0 : 0 < List.length l
        · have e0 : decide (Int.ofNat (List.length l) > (0 : Int)) = true := by simp; omega
          have e1 : IntKind.i64.wrap (Int.ofNat (List.length l) - 1) = ((List.length l - 1 : Nat) : Int) := wrap_pred (k := List.length l) (by omega) h0
          have h1 : List.length l - 1 < List.length l := by omega
          have e2 := last_ge hr h0 (List.length p.2[t])
          have e2' : decide (l[List.length l - 1] ≥ Int.ofNat (List.length p.2[t])) = ! l.all fun x => decide (x < (List.length p.2[t] : Int)) := e2
          simp only [T_weave_In, goes_br, lt_len ht, nng, Bool.and_self, if_true, Int.toNat_natCast, getD_lt ht, hl, hko, hvo, hr, Bool.not_true, if_false, Bool.false_eq_true, e0, e1, lt_len h1, lt_len htp, getD_lt h1, getD_lt htp, e2', wrap_succ (k := t) (by omega), okPts, Bool.true_and]
          cases l.all fun x => decide (x < (List.length p.2[t] : Int)) with
          | true =>
            simp only [Bool.not_true, if_false, Bool.false_eq_true, Bool.true_and]
            exact ih hnext
          | false =>
            simp only [Bool.not_false, if_true, if_false, Bool.false_and, Bool.false_eq_true]
            exact .leaf
        · have hnil : l = [] := List.eq_nil_of_length_eq_zero (by omega)
          subst hnil
          have e0 : decide (Int.ofNat (List.length ([] : List Int)) > (0 : Int)) = false := by decide
          simp only [T_weave_In, goes_br, lt_len ht, nng, Bool.and_self, if_true, Int.toNat_natCast, getD_lt ht, hl, hko, hvo, hr, Bool.not_true, if_false, Bool.false_eq_true, e0, wrap_succ (k := t) (by omega), okPts, Bool.true_and, List.all_nil]
          exact ih hnext
      · have hr' : rising l = false := by simpa using hr
        simp only [T_weave_In, goes_br, lt_len ht, nng, Bool.and_self, if_true, Int.toNat_natCast, getD_lt ht, hl, hko, hvo, hr', Bool.not_false, okPts, Bool.false_and, if_false, Bool.false_eq_true]
        exact .leaf
  unfold T0_weave_In v_weave_In inC
  simp only [goes_br, hkc, if_true, v_valid_Check]
  by_cases hc : checkC p = 0
  · rw [if_neg (by simp [hc])]
    by_cases hp : p.2.length < points.length
    · rw [if_pos (by simp; omega), if_pos (.inr (.inl hp))]
      exact .leaf
    · rw [if_neg (by simp; omega)]
      have := check (by omega) 0 (Nat.zero_le _) (fun s hs => by omega)
      rw [List.drop_zero, List.drop_zero] at this
      cases hok : okAll points p.2 with
      | true =>
        rw [hok, if_pos rfl] at this
        rw [if_neg (by simp [hc]; omega), hR]
        exact this
      | false =>
        rw [hok, if_neg (by decide)] at this
        rw [if_pos (.inr (.inr rfl))]
        exact this
  · rw [if_pos (by simpa using hc), if_pos (.inl hc)]
    exact .leaf
end Go.Ev
end

section
set_option linter.unusedSectionVars false
set_option linter.unusedVariables false
set_option linter.unusedSimpArgs false
set_option maxRecDepth 100000
set_option linter.unusedVariables false
open Go Go.Ev
namespace Go.Ev
noncomputable def e_weave_In : Run := entG sg_weave_In R_weave_In (fun a => k_weave_In a.1 a.2.1) (fun a => v_weave_In a.1 a.2.1)
theorem ok_weave_In : EntOK Go.Proofs.Tryd.prog 14 e_weave_In := entG_ok (tb := tb_weave_In) (c := c_weave_In) tk_weave_In (by kernel_rfl) (by kernel_rfl) (by kernel_rfl) (fun a => by kernel_rfl) fun ⟨p, points, _⟩ hk => evF_goes (c := c_weave_In) (K := fun v => (R_weave_In v, tps (toForms sg_weave_In (p, points, ())))) (S := S_weave_In p points) (by kernel_rfl) (en_weave_In p points) (lp_weave_In p points) (g_weave_In p points hk)
end Go.Ev
end

section
set_option linter.unusedSectionVars false
set_option linter.unusedVariables false
set_option linter.unusedSimpArgs false
set_option maxRecDepth 100000
set_option linter.unusedVariables false
open Go Go.Ev
namespace Go.Ev
/-! ### paling/weave.Fences -/
def sg_weave_Fences : Sig := [(false, (.sl (.int .i64)))]
noncomputable def t_weave_Fences : Tbl := [(40, e_weave_order)]
theorem tk_weave_Fences : ∀ p ∈ t_weave_Fences, EntOK Go.Proofs.Tryd.prog p.1 p.2 := tbl_cons ok_weave_order (tbl_nil)
noncomputable def c_weave_Fences : Code := Go.Proofs.Tryd.f21.body.getD .skip
def tb_weave_Fences : Tb := [(7, ⟨[3, 9, 10, 11], [(4, 72)]⟩), (hintK, ⟨[], [(1, 72)]⟩)]
inductive J_weave_Fences where
  | l7 (h : Int) (out : List Int)
def T_weave_Fences (points : List Int) : J_weave_Fences → JT J_weave_Fences (List Int)
  | .l7 h out =>
    .br (decide (h < (Int.ofNat (List.length points))))
      (.br ((decide ((0 : Int) ≤ h)) && (decide (h < (Int.ofNat (List.length points)))))
        (.br (Nat.ble (((List.length out) + 1) * 8) limit)
          (.jmp (.l7 (IntKind.i64.wrap (h + (1 : Int))) (out ++ [(IntKind.i64.wrap ((List.getD points (Int.toNat h) (dflt (.int .i64))) + h))])))
        (.no))
      (.no))
    (.leaf out)
def T0_weave_Fences (points : List Int) : JT J_weave_Fences (List Int) :=
  .br (k_weave_order points)
    (.br (! (v_weave_order points))
      (.leaf [])
    (.jmp (.l7 (0 : Int) [])))
  (.no)
def R_weave_Fences : List Int → AV := fun (r : List Int) => .rw 3 (.int .i64) r
def S_weave_Fences (points : List Int) : J_weave_Fences → Nat × St
  | .l7 h out => (7, ⟨mkTm 24 [(3, .own 4 0 none), (9, .d (.sl (.int .i64)) points), (10, .d (.int .i64) (Int.ofNat (List.length points))), (11, .d (.int .i64) h)], [(4, 0, .row 3 (.int .i64) out false)]⟩)
theorem en_weave_Fences (points : List Int) (L : Lt) : entryA Go.Proofs.Tryd.prog (clOf t_weave_Fences) tb_weave_Fences Go.Proofs.Tryd.f21 c_weave_Fences L (toForms sg_weave_Fences (points, ())) = (T0_weave_Fences points).run (fun v => some (R_weave_Fences v, tps (toForms sg_weave_Fences (points, ())))) fun j => L (S_weave_Fences points j).1 (S_weave_Fences points j).2 := by kernel_rfl
theorem lp_weave_Fences (points : List Int) : ∀ (L : Lt) (j : J_weave_Fences), procOf (procsF Go.Proofs.Tryd.prog (clOf t_weave_Fences) tb_weave_Fences Go.Proofs.Tryd.f21 c_weave_Fences (toForms sg_weave_Fences (points, ()))) (S_weave_Fences points j).1 L (S_weave_Fences points j).2 = (T_weave_Fences points j).run (fun v => some (R_weave_Fences v, tps (toForms sg_weave_Fences (points, ())))) fun j => L (S_weave_Fences points j).1 (S_weave_Fences points j).2
  | L, .l7 h out => by kernel_rfl
end Go.Ev
end

section
set_option linter.unusedSectionVars false
set_option linter.unusedVariables false
set_option linter.unusedSimpArgs false
set_option linter.unusedVariables false
set_option linter.unusedSimpArgs false
open Go
namespace Go.Ev
def v_weave_Fences (points : List Int) : List Int := fencesC points
def k_weave_Fences (points : List Int) : Bool := decide (points.length < 4611686018427387904)
theorem g_weave_Fences (l : List Int) (hk : k_weave_Fences l = true) : Goes (T_weave_Fences l) (T0_weave_Fences l) (v_weave_Fences l) := by
  have hn : l.length < 4611686018427387904 := of_decide_eq_true hk
  have hko : k_weave_order l = true := hk
  unfold T0_weave_Fences v_weave_Fences fencesC
  simp only [goes_br, hko, if_true, v_weave_order]
  by_cases hr : rising l = true
  · rw [if_neg (by simp [hr]), if_pos hr]
    have hlen := rising_length hr
    have hs := (rising_spec.1 hr).1
    have loop : ∀ k, k ≤ l.length → ∀ out : List Int, out.length = k → Goes (T_weave_Fences l) (.jmp (.l7 (k : Int) out)) (out ++ fencesFrom k (l.drop k)) := by
      refine down ?_ fun k hk ih => ?_
      · intro out ho
        rw [goes_jmp]
        simp only [T_weave_Fences, goes_br, lt_len_not (Nat.lt_irrefl _), List.drop_length]
        rw [show fencesFrom l.length [] = [] from rfl, List.append_nil]
        exact .leaf
      · intro out ho
        rw [goes_jmp, drop_cons hk]
        have hb := hs _ (List.getElem_mem hk)
        obtain ⟨n, hn'⟩ : ∃ n : Int, l[k] = n := ⟨_, rfl⟩
        rw [hn'] at hb ⊢
        have b1 : Nat.ble ((out.length + 1) * 8) limit = true := Nat.ble_eq_true_of_le (by unfold limit; omega)
        simp only [T_weave_Fences, goes_br, lt_len hk, nng, Bool.and_self, if_true, Int.toNat_natCast, getD_lt hk, hn', wrap_succ (k := k) (by omega), b1, wrap_i64 (n := n + k) (by omega) (by omega)]
        have := ih (out ++ [n + k]) (by rw [List.length_append, ho]; rfl)
        rw [List.append_assoc] at this
        exact this
    have := loop 0 (Nat.zero_le _) [] rfl
    simpa using this
  · have hr' : rising l = false := by simpa using hr
    rw [if_pos (by simp [hr']), if_neg hr]
    exact .leaf
end Go.Ev
end

section
set_option linter.unusedSectionVars false
set_option linter.unusedVariables false
set_option linter.unusedSimpArgs false
set_option maxRecDepth 100000
set_option linter.unusedVariables false
open Go Go.Ev
namespace Go.Ev
noncomputable def e_weave_Fences : Run := entG sg_weave_Fences R_weave_Fences (fun a => k_weave_Fences a.1) (fun a => v_weave_Fences a.1)
theorem ok_weave_Fences : EntOK Go.Proofs.Tryd.prog 21 e_weave_Fences := entG_ok (tb := tb_weave_Fences) (c := c_weave_Fences) tk_weave_Fences (by kernel_rfl) (by kernel_rfl) (by kernel_rfl) (fun a => by kernel_rfl) fun ⟨points, _⟩ hk => evF_goes (c := c_weave_Fences) (K := fun v => (R_weave_Fences v, tps (toForms sg_weave_Fences (points, ())))) (S := S_weave_Fences points) (by kernel_rfl) (en_weave_Fences points) (lp_weave_Fences points) (g_weave_Fences points hk)
end Go.Ev
end

section
set_option linter.unusedSectionVars false
set_option linter.unusedVariables false
set_option linter.unusedSimpArgs false
set_option maxRecDepth 100000
set_option linter.unusedVariables false
open Go Go.Ev
namespace Go.Ev
/-! ### paling/palingbook.SameInts -/
def sg_book_SameInts : Sig := [(false, (.sl (.int .i64))), (false, (.sl (.int .i64)))]
noncomputable def t_book_SameInts : Tbl := []
theorem tk_book_SameInts : ∀ p ∈ t_book_SameInts, EntOK Go.Proofs.Tryd.prog p.1 p.2 := tbl_nil
noncomputable def c_book_SameInts : Code := Go.Proofs.Tryd.f20.body.getD .skip
def tb_book_SameInts : Tb := [(6, ⟨[0, 1, 5], []⟩)]
inductive J_book_SameInts where
  | l6 (i : Int)
def T_book_SameInts (a : List Int) (b : List Int) : J_book_SameInts → JT J_book_SameInts (Bool)
  | .l6 i =>
    .br (decide (i < (Int.ofNat (List.length a))))
      (.br ((decide ((0 : Int) ≤ i)) && (decide (i < (Int.ofNat (List.length a)))))
        (.br ((decide ((0 : Int) ≤ i)) && (decide (i < (Int.ofNat (List.length b)))))
          (.br ((List.getD a (Int.toNat i) (dflt (.int .i64))) != (List.getD b (Int.toNat i) (dflt (.int .i64))))
            (.leaf false)
          (.jmp (.l6 (IntKind.i64.wrap (i + (1 : Int))))))
        (.no))
      (.no))
    (.leaf true)
def T0_book_SameInts (a : List Int) (b : List Int) : JT J_book_SameInts (Bool) :=
  .br ((Int.ofNat (List.length a)) != (Int.ofNat (List.length b)))
    (.leaf false)
  (.jmp (.l6 (0 : Int)))
def R_book_SameInts : Bool → AV := fun (r : Bool) => .d .bool r
def S_book_SameInts (a : List Int) (b : List Int) : J_book_SameInts → Nat × St
  | .l6 i => (6, ⟨mkTm 26 [(0, .d (.sl (.int .i64)) a), (1, .d (.sl (.int .i64)) b), (5, .d (.int .i64) i)], []⟩)
theorem en_book_SameInts (a : List Int) (b : List Int) (L : Lt) : entryA Go.Proofs.Tryd.prog (clOf t_book_SameInts) tb_book_SameInts Go.Proofs.Tryd.f20 c_book_SameInts L (toForms sg_book_SameInts (a, b, ())) = (T0_book_SameInts a b).run (fun v => some (R_book_SameInts v, tps (toForms sg_book_SameInts (a, b, ())))) fun j => L (S_book_SameInts a b j).1 (S_book_SameInts a b j).2 := by kernel_rfl
theorem lp_book_SameInts (a : List Int) (b : List Int) : ∀ (L : Lt) (j : J_book_SameInts), procOf (procsF Go.Proofs.Tryd.prog (clOf t_book_SameInts) tb_book_SameInts Go.Proofs.Tryd.f20 c_book_SameInts (toForms sg_book_SameInts (a, b, ()))) (S_book_SameInts a b j).1 L (S_book_SameInts a b j).2 = (T_book_SameInts a b j).run (fun v => some (R_book_SameInts v, tps (toForms sg_book_SameInts (a, b, ())))) fun j => L (S_book_SameInts a b j).1 (S_book_SameInts a b j).2
  | L, .l6 i => by kernel_rfl
end Go.Ev
end

section
set_option linter.unusedSectionVars false
set_option linter.unusedVariables false
set_option linter.unusedSimpArgs false
set_option linter.unusedVariables false
set_option linter.unusedSimpArgs false
open Go
namespace Go.Ev
theorem intB_eq {a b : Int} : (a == b) = decide (a = b) := by rw [Bool.eq_iff_iff]; simp

def v_book_SameInts (a b : List Int) : Bool := decide (a = b)
def k_book_SameInts (a b : List Int) : Bool := decide (a.length < 4611686018427387904)
theorem g_book_SameInts (a b : List Int) (hk : k_book_SameInts a b = true) : Goes (T_book_SameInts a b) (T0_book_SameInts a b) (v_book_SameInts a b) := by
  have hn : a.length < 4611686018427387904 := of_decide_eq_true hk
  have loop : a.length = b.length → ∀ k, k ≤ a.length → Goes (T_book_SameInts a b) (.jmp (.l6 (k : Int))) (decide (a.drop k = b.drop k)) := by
    intro he
    refine down ?_ fun k hk ih => ?_
    · rw [goes_jmp]
      simp [T_book_SameInts, goes_br, goes_leaf, he]
    · rw [goes_jmp]
      have hkb : k < b.length := he ▸ hk
      simp only [T_book_SameInts, goes_br, lt_len hk, lt_len hkb, nng, Bool.and_self, if_true, Int.toNat_natCast, getD_lt hk, getD_lt hkb, wrap_succ (k := k) (by omega)]
      rw [drop_cons hk, drop_cons hkb]
      split
      · rename_i h1
        have h2 : (! decide (a[k] = b[k])) = true := (congrArg Bool.not intB_eq).symm.trans h1
        have h3 : ¬ a[k] = b[k] := by simpa using h2
        rw [decide_eq_false (fun e => h3 (List.cons.inj e).1)]
        exact .leaf
      · rename_i h1
        have h2 : ¬ (! decide (a[k] = b[k])) = true := fun h => h1 ((congrArg Bool.not intB_eq).trans h)
        have h3 : a[k] = b[k] := by simpa using h2
        rw [show decide (a[k] :: List.drop (k + 1) a = b[k] :: List.drop (k + 1) b) = decide (List.drop (k + 1) a = List.drop (k + 1) b) from decide_eq_decide.2 ⟨fun e => (List.cons.inj e).2, fun e => by rw [h3, e]⟩]
        exact ih
  unfold T0_book_SameInts v_book_SameInts
  rw [goes_br]
  by_cases h : a.length = b.length
  · have := loop h 0 (Nat.zero_le _)
    simpa [h] using this
  · have : a ≠ b := fun e => h (congrArg _ e)
    rw [if_pos (by simp; omega), decide_eq_false this]
    exact .leaf

end Go.Ev
end

section
set_option linter.unusedSectionVars false
set_option linter.unusedVariables false
set_option linter.unusedSimpArgs false
set_option maxRecDepth 100000
set_option linter.unusedVariables false
open Go Go.Ev
namespace Go.Ev
noncomputable def e_book_SameInts : Run := entG sg_book_SameInts R_book_SameInts (fun a => k_book_SameInts a.1 a.2.1) (fun a => v_book_SameInts a.1 a.2.1)
theorem ok_book_SameInts : EntOK Go.Proofs.Tryd.prog 20 e_book_SameInts := entG_ok (tb := tb_book_SameInts) (c := c_book_SameInts) tk_book_SameInts (by kernel_rfl) (by kernel_rfl) (by kernel_rfl) (fun a => by kernel_rfl) fun ⟨a, b, _⟩ hk => evF_goes (c := c_book_SameInts) (K := fun v => (R_book_SameInts v, tps (toForms sg_book_SameInts (a, b, ())))) (S := S_book_SameInts a b) (by kernel_rfl) (en_book_SameInts a b) (lp_book_SameInts a b) (g_book_SameInts a b hk)
end Go.Ev
end

section
set_option linter.unusedSectionVars false
set_option linter.unusedVariables false
set_option linter.unusedSimpArgs false
set_option maxRecDepth 100000
set_option linter.unusedVariables false
open Go Go.Ev
namespace Go.Ev
/-! ### paling/weave.Back -/
def sg_weave_Back : Sig := [(false, (.sl (.int .i64))), (false, (.int .i64))]
noncomputable def t_weave_Back : Tbl := [(21, e_weave_Fences)]
theorem tk_weave_Back : ∀ p ∈ t_weave_Back, EntOK Go.Proofs.Tryd.prog p.1 p.2 := tbl_cons ok_weave_Fences (tbl_nil)
noncomputable def c_weave_Back : Code := Go.Proofs.Tryd.f23.body.getD .skip
def tb_weave_Back : Tb := [(7, ⟨[1, 5, 16, 17, 18], []⟩)]
inductive J_weave_Back where
  | l7 (n : Int) (h : Int)
def T_weave_Back (points : List Int) (pc : Int) : J_weave_Back → JT J_weave_Back (Int)
  | .l7 n h =>
    .br (decide (h < (Int.ofNat (List.length (v_weave_Fences points)))))
      (.br ((decide ((0 : Int) ≤ h)) && (decide (h < (Int.ofNat (List.length (v_weave_Fences points))))))
        (.br (decide ((List.getD (v_weave_Fences points) (Int.toNat h) (dflt (.int .i64))) < pc))
          (.jmp (.l7 (IntKind.i64.wrap (n + (1 : Int))) (IntKind.i64.wrap (h + (1 : Int)))))
        (.jmp (.l7 n (IntKind.i64.wrap (h + (1 : Int))))))
      (.no))
    (.leaf (IntKind.i64.wrap (pc - n)))
def T0_weave_Back (points : List Int) (pc : Int) : JT J_weave_Back (Int) :=
  .br (decide (pc < (0 : Int)))
    (.leaf pc)
  (.br (decide (pc > (2147483647 : Int)))
    (.leaf pc)
  (.br (k_weave_Fences points)
    (.jmp (.l7 (0 : Int) (0 : Int)))
  (.no)))
def R_weave_Back : Int → AV := fun (r : Int) => .d (.int .i64) r
def S_weave_Back (points : List Int) (pc : Int) : J_weave_Back → Nat × St
  | .l7 n h => (7, ⟨mkTm 31 [(1, .d (.int .i64) pc), (5, .d (.int .i64) n), (16, .own 17 0 none), (17, .d (.int .i64) (Int.ofNat (List.length (v_weave_Fences points)))), (18, .d (.int .i64) h)], [(17, 0, .row 3 (.int .i64) (v_weave_Fences points) false)]⟩)
theorem en_weave_Back (points : List Int) (pc : Int) (L : Lt) : entryA Go.Proofs.Tryd.prog (clOf t_weave_Back) tb_weave_Back Go.Proofs.Tryd.f23 c_weave_Back L (toForms sg_weave_Back (points, pc, ())) = (T0_weave_Back points pc).run (fun v => some (R_weave_Back v, tps (toForms sg_weave_Back (points, pc, ())))) fun j => L (S_weave_Back points pc j).1 (S_weave_Back points pc j).2 := by kernel_rfl
theorem lp_weave_Back (points : List Int) (pc : Int) : ∀ (L : Lt) (j : J_weave_Back), procOf (procsF Go.Proofs.Tryd.prog (clOf t_weave_Back) tb_weave_Back Go.Proofs.Tryd.f23 c_weave_Back (toForms sg_weave_Back (points, pc, ()))) (S_weave_Back points pc j).1 L (S_weave_Back points pc j).2 = (T_weave_Back points pc j).run (fun v => some (R_weave_Back v, tps (toForms sg_weave_Back (points, pc, ())))) fun j => L (S_weave_Back points pc j).1 (S_weave_Back points pc j).2
  | L, .l7 n h => by kernel_rfl
end Go.Ev
end

section
set_option linter.unusedSectionVars false
set_option linter.unusedVariables false
set_option linter.unusedSimpArgs false
set_option linter.unusedVariables false
set_option linter.unusedSimpArgs false
open Go
namespace Go.Ev
def v_weave_Back (points : List Int) (pc : Int) : Int := backC points pc
def k_weave_Back (points : List Int) (pc : Int) : Bool := decide (points.length < 4611686018427387904)
theorem g_weave_Back (l : List Int) (pc : Int) (hk : k_weave_Back l pc = true) : Goes (T_weave_Back l pc) (T0_weave_Back l pc) (v_weave_Back l pc) := by
  have hn : l.length < 4611686018427387904 := of_decide_eq_true hk
  have hkf : k_weave_Fences l = true := hk
  have hfl := fencesC_len l
  obtain ⟨fs, hfs⟩ : ∃ fs, fencesC l = fs := ⟨_, rfl⟩
  rw [hfs] at hfl
  have hvf : v_weave_Fences l = fs := hfs
  have loop : 0 ≤ pc → pc ≤ 2147483647 → ∀ k, k ≤ fs.length → ∀ n : Nat, n ≤ k → Goes (T_weave_Back l pc) (.jmp (.l7 (n : Int) (k : Int))) (pc - ((n + below (fs.drop k) pc : Nat) : Int)) := by
    intro h0 h1
    refine down ?_ fun k hk ih => ?_
    · intro n hnk
      rw [goes_jmp]
      simp only [T_weave_Back, goes_br, hvf, lt_len_not (Nat.lt_irrefl _), List.drop_length, if_false, Bool.false_eq_true]
      rw [show below [] pc = 0 from rfl, Nat.add_zero, wrap_i64 (by omega) (by omega)]
      exact .leaf
    · intro n hnk
      rw [goes_jmp, drop_cons hk]
      simp only [T_weave_Back, goes_br, hvf, lt_len hk, nng, Bool.and_self, if_true, Int.toNat_natCast, getD_lt hk, wrap_succ (k := k) (by omega), wrap_succ (k := n) (by omega)]
      have e : below (fs[k] :: List.drop (k + 1) fs) pc = (if decide (fs[k] < pc) = true then 1 else 0) + below (List.drop (k + 1) fs) pc := by
        unfold below
        rw [List.countP_cons, Nat.add_comm]
      split
      · rename_i h
        rw [e, if_pos h, ← Nat.add_assoc]
        exact ih (n + 1) (by omega)
      · rename_i h
        rw [e, if_neg h, Nat.zero_add]
        exact ih n (by omega)
  unfold T0_weave_Back v_weave_Back backC
  rw [hfs]
  by_cases h0 : pc < 0
  · rw [if_pos (.inl h0)]
    simp only [goes_br, decide_eq_true h0, if_true]
    exact .leaf
  · by_cases h1 : 2147483647 < pc
    · rw [if_pos (.inr h1)]
      have h2 : decide (pc > 2147483647) = true := decide_eq_true h1
      simp only [goes_br, decide_eq_false h0, h2, if_true]
      exact .leaf
    · rw [if_neg (by omega)]
      have := loop (by omega) (by omega) 0 (Nat.zero_le _) 0 (Nat.le_refl _)
      rw [Nat.zero_add, List.drop_zero] at this
      have h2 : decide (pc > 2147483647) = false := decide_eq_false h1
      simp only [goes_br, decide_eq_false h0, h2, hkf, if_true]
      simpa using this
end Go.Ev
end

section
set_option linter.unusedSectionVars false
set_option linter.unusedVariables false
set_option linter.unusedSimpArgs false
set_option maxRecDepth 100000
set_option linter.unusedVariables false
open Go Go.Ev
namespace Go.Ev
noncomputable def e_weave_Back : Run := entG sg_weave_Back R_weave_Back (fun a => k_weave_Back a.1 a.2.1) (fun a => v_weave_Back a.1 a.2.1)
theorem ok_weave_Back : EntOK Go.Proofs.Tryd.prog 23 e_weave_Back := entG_ok (tb := tb_weave_Back) (c := c_weave_Back) tk_weave_Back (by kernel_rfl) (by kernel_rfl) (by kernel_rfl) (fun a => by kernel_rfl) fun ⟨points, pc, _⟩ hk => evF_goes (c := c_weave_Back) (K := fun v => (R_weave_Back v, tps (toForms sg_weave_Back (points, pc, ())))) (S := S_weave_Back points pc) (by kernel_rfl) (en_weave_Back points pc) (lp_weave_Back points pc) (g_weave_Back points pc hk)
end Go.Ev
end

section
set_option linter.unusedSectionVars false
set_option linter.unusedVariables false
set_option linter.unusedSimpArgs false
set_option maxRecDepth 100000
set_option linter.unusedVariables false
open Go Go.Ev
namespace Go.Ev
/-! ### paling/weave.There -/
def sg_weave_There : Sig := [(false, (.sl (.int .i64))), (false, (.int .i64))]
noncomputable def t_weave_There : Tbl := [(40, e_weave_order)]
theorem tk_weave_There : ∀ p ∈ t_weave_There, EntOK Go.Proofs.Tryd.prog p.1 p.2 := tbl_cons ok_weave_order (tbl_nil)
noncomputable def c_weave_There : Code := Go.Proofs.Tryd.f25.body.getD .skip
def tb_weave_There : Tb := [(7, ⟨[1, 5, 20, 21, 22], []⟩)]
inductive J_weave_There where
  | l7 (n : Int) (h : Int)
def T_weave_There (points : List Int) (i : Int) : J_weave_There → JT J_weave_There (Int)
  | .l7 n h =>
    .br (decide (h < (Int.ofNat (List.length points))))
      (.br ((decide ((0 : Int) ≤ h)) && (decide (h < (Int.ofNat (List.length points)))))
        (.br (decide ((List.getD points (Int.toNat h) (dflt (.int .i64))) ≤ i))
          (.jmp (.l7 (IntKind.i64.wrap (n + (1 : Int))) (IntKind.i64.wrap (h + (1 : Int)))))
        (.jmp (.l7 n (IntKind.i64.wrap (h + (1 : Int))))))
      (.no))
    (.leaf (IntKind.i64.wrap (i + n)))
def T0_weave_There (points : List Int) (i : Int) : JT J_weave_There (Int) :=
  .br (decide (i < (0 : Int)))
    (.leaf i)
  (.br (decide (i > (2147483647 : Int)))
    (.leaf i)
  (.br (k_weave_order points)
    (.br (! (v_weave_order points))
      (.leaf i)
    (.jmp (.l7 (0 : Int) (0 : Int))))
  (.no)))
def R_weave_There : Int → AV := fun (r : Int) => .d (.int .i64) r
def S_weave_There (points : List Int) (i : Int) : J_weave_There → Nat × St
  | .l7 n h => (7, ⟨mkTm 35 [(1, .d (.int .i64) i), (5, .d (.int .i64) n), (20, .d (.sl (.int .i64)) points), (21, .d (.int .i64) (Int.ofNat (List.length points))), (22, .d (.int .i64) h)], []⟩)
theorem en_weave_There (points : List Int) (i : Int) (L : Lt) : entryA Go.Proofs.Tryd.prog (clOf t_weave_There) tb_weave_There Go.Proofs.Tryd.f25 c_weave_There L (toForms sg_weave_There (points, i, ())) = (T0_weave_There points i).run (fun v => some (R_weave_There v, tps (toForms sg_weave_There (points, i, ())))) fun j => L (S_weave_There points i j).1 (S_weave_There points i j).2 := by kernel_rfl
theorem lp_weave_There (points : List Int) (i : Int) : ∀ (L : Lt) (j : J_weave_There), procOf (procsF Go.Proofs.Tryd.prog (clOf t_weave_There) tb_weave_There Go.Proofs.Tryd.f25 c_weave_There (toForms sg_weave_There (points, i, ()))) (S_weave_There points i j).1 L (S_weave_There points i j).2 = (T_weave_There points i j).run (fun v => some (R_weave_There v, tps (toForms sg_weave_There (points, i, ())))) fun j => L (S_weave_There points i j).1 (S_weave_There points i j).2
  | L, .l7 n h => by kernel_rfl
end Go.Ev
end

section
set_option linter.unusedSectionVars false
set_option linter.unusedVariables false
set_option linter.unusedSimpArgs false
set_option linter.unusedVariables false
set_option linter.unusedSimpArgs false
open Go
namespace Go.Ev
def v_weave_There (points : List Int) (i : Int) : Int := thereC points i
def k_weave_There (points : List Int) (i : Int) : Bool := decide (points.length < 4611686018427387904)
theorem g_weave_There (l : List Int) (i : Int) (hk : k_weave_There l i = true) : Goes (T_weave_There l i) (T0_weave_There l i) (v_weave_There l i) := by
  have hn : l.length < 4611686018427387904 := of_decide_eq_true hk
  have hko : k_weave_order l = true := hk
  have loop : 0 ≤ i → i ≤ 2147483647 → ∀ k, k ≤ l.length → ∀ n : Nat, n ≤ k → Goes (T_weave_There l i) (.jmp (.l7 (n : Int) (k : Int))) (i + ((n + upTo (l.drop k) i : Nat) : Int)) := by
    intro h0 h1
    refine down ?_ fun k hk ih => ?_
    · intro n hnk
      rw [goes_jmp]
      simp only [T_weave_There, goes_br, lt_len_not (Nat.lt_irrefl _), List.drop_length, if_false, Bool.false_eq_true]
      rw [show upTo [] i = 0 from rfl, Nat.add_zero, wrap_i64 (by omega) (by omega)]
      exact .leaf
    · intro n hnk
      rw [goes_jmp, drop_cons hk]
      simp only [T_weave_There, goes_br, lt_len hk, nng, Bool.and_self, if_true, Int.toNat_natCast, getD_lt hk, wrap_succ (k := k) (by omega), wrap_succ (k := n) (by omega)]
      have e : upTo (l[k] :: List.drop (k + 1) l) i = (if decide (l[k] ≤ i) = true then 1 else 0) + upTo (List.drop (k + 1) l) i := by
        unfold upTo
        rw [List.countP_cons, Nat.add_comm]
      split
      · rename_i h
        rw [e, if_pos h, ← Nat.add_assoc]
        exact ih (n + 1) (by omega)
      · rename_i h
        rw [e, if_neg h, Nat.zero_add]
        exact ih n (by omega)
  unfold T0_weave_There v_weave_There thereC
  by_cases h0 : i < 0
  · rw [if_pos (.inl h0)]
    simp only [goes_br, decide_eq_true h0, if_true]
    exact .leaf
  · by_cases h1 : 2147483647 < i
    · rw [if_pos (.inr (.inl h1))]
      have h2 : decide (i > 2147483647) = true := decide_eq_true h1
      simp only [goes_br, decide_eq_false h0, h2, if_true]
      exact .leaf
    · have := loop (by omega) (by omega) 0 (Nat.zero_le _) 0 (Nat.le_refl _)
      rw [Nat.zero_add, List.drop_zero] at this
      have h2 : decide (i > 2147483647) = false := decide_eq_false h1
      simp only [goes_br, decide_eq_false h0, h2, hko, if_true, v_weave_order, if_false, Bool.false_eq_true]
      by_cases hr : rising l = true
      · rw [if_neg (by simp [hr]), if_neg (by simp [hr]; omega)]
        exact this
      · have hr' : rising l = false := by simpa using hr
        rw [if_pos (by simp [hr']), if_pos (.inr (.inr hr'))]
        exact .leaf
end Go.Ev
end

section
set_option linter.unusedSectionVars false
set_option linter.unusedVariables false
set_option linter.unusedSimpArgs false
set_option maxRecDepth 100000
set_option linter.unusedVariables false
open Go Go.Ev
namespace Go.Ev
noncomputable def e_weave_There : Run := entG sg_weave_There R_weave_There (fun a => k_weave_There a.1 a.2.1) (fun a => v_weave_There a.1 a.2.1)
theorem ok_weave_There : EntOK Go.Proofs.Tryd.prog 25 e_weave_There := entG_ok (tb := tb_weave_There) (c := c_weave_There) tk_weave_There (by kernel_rfl) (by kernel_rfl) (by kernel_rfl) (fun a => by kernel_rfl) fun ⟨points, i, _⟩ hk => evF_goes (c := c_weave_There) (K := fun v => (R_weave_There v, tps (toForms sg_weave_There (points, i, ())))) (S := S_weave_There points i) (by kernel_rfl) (en_weave_There points i) (lp_weave_There points i) (g_weave_There points i hk)
end Go.Ev
end

section
set_option linter.unusedSectionVars false
set_option linter.unusedVariables false
set_option linter.unusedSimpArgs false
set_option maxRecDepth 100000
set_option linter.unusedVariables false
open Go Go.Ev
namespace Go.Ev
/-! ### paling/palinglaw26.alive -/
def sg_law26_alive : Sig := []
noncomputable def t_law26_alive : Tbl := [(14, e_weave_In), (21, e_weave_Fences), (20, e_book_SameInts), (23, e_weave_Back), (25, e_weave_There)]
theorem tk_law26_alive : ∀ p ∈ t_law26_alive, EntOK Go.Proofs.Tryd.prog p.1 p.2 := tbl_cons ok_weave_In (tbl_cons ok_weave_Fences (tbl_cons ok_book_SameInts (tbl_cons ok_weave_Back (tbl_cons ok_weave_There (tbl_nil)))))
noncomputable def c_law26_alive : Code := Go.Proofs.Tryd.f12.body.getD .skip
def tb_law26_alive : Tb := []
def T_law26_alive : Empty → JT Empty (Bool) := fun j => nomatch j
def T0_law26_alive : JT Empty (Bool) :=
  .br (k_weave_In ([], [[((14 : Int), (false, ((0 : Int), (((0 : Int), ((0 : Int), ((0 : Int), (0 : Int)))), (((0 : Int), ((0 : Int), ((0 : Int), (0 : Int)))), ((bs []), [(bs [97])]))))))]]) [[(0 : Int)]])
    (.br (k_weave_In ([], [[((14 : Int), (false, ((0 : Int), (((0 : Int), ((0 : Int), ((0 : Int), (0 : Int)))), (((0 : Int), ((0 : Int), ((0 : Int), (0 : Int)))), ((bs []), [(bs [97])]))))))]]) [[(1 : Int)]])
      (.br (v_weave_In ([], [[((14 : Int), (false, ((0 : Int), (((0 : Int), ((0 : Int), ((0 : Int), (0 : Int)))), (((0 : Int), ((0 : Int), ((0 : Int), (0 : Int)))), ((bs []), [(bs [97])]))))))]]) [[(0 : Int)]]).2
        (.br (! (v_weave_In ([], [[((14 : Int), (false, ((0 : Int), (((0 : Int), ((0 : Int), ((0 : Int), (0 : Int)))), (((0 : Int), ((0 : Int), ((0 : Int), (0 : Int)))), ((bs []), [(bs [97])]))))))]]) [[(1 : Int)]]).2)
          (.br ((Int.ofNat (List.length (v_weave_In ([], [[((14 : Int), (false, ((0 : Int), (((0 : Int), ((0 : Int), ((0 : Int), (0 : Int)))), (((0 : Int), ((0 : Int), ((0 : Int), (0 : Int)))), ((bs []), [(bs [97])]))))))]]) [[(0 : Int)]]).1.2)) == (1 : Int))
            (.br (decide ((0 : Int) < (Int.ofNat (List.length (v_weave_In ([], [[((14 : Int), (false, ((0 : Int), (((0 : Int), ((0 : Int), ((0 : Int), (0 : Int)))), (((0 : Int), ((0 : Int), ((0 : Int), (0 : Int)))), ((bs []), [(bs [97])]))))))]]) [[(0 : Int)]]).1.2))))
              (.br ((Int.ofNat (List.length (List.getD (v_weave_In ([], [[((14 : Int), (false, ((0 : Int), (((0 : Int), ((0 : Int), ((0 : Int), (0 : Int)))), (((0 : Int), ((0 : Int), ((0 : Int), (0 : Int)))), ((bs []), [(bs [97])]))))))]]) [[(0 : Int)]]).1.2 0 (dflt (.sl T_api_Ins))))) == (2 : Int))
                (.br (decide ((0 : Int) < (Int.ofNat (List.length (v_weave_In ([], [[((14 : Int), (false, ((0 : Int), (((0 : Int), ((0 : Int), ((0 : Int), (0 : Int)))), (((0 : Int), ((0 : Int), ((0 : Int), (0 : Int)))), ((bs []), [(bs [97])]))))))]]) [[(0 : Int)]]).1.2))))
                  (.br (decide ((0 : Int) < (Int.ofNat (List.length (List.getD (v_weave_In ([], [[((14 : Int), (false, ((0 : Int), (((0 : Int), ((0 : Int), ((0 : Int), (0 : Int)))), (((0 : Int), ((0 : Int), ((0 : Int), (0 : Int)))), ((bs []), [(bs [97])]))))))]]) [[(0 : Int)]]).1.2 0 (dflt (.sl T_api_Ins)))))))
                    (.br ((List.getD (List.getD (v_weave_In ([], [[((14 : Int), (false, ((0 : Int), (((0 : Int), ((0 : Int), ((0 : Int), (0 : Int)))), (((0 : Int), ((0 : Int), ((0 : Int), (0 : Int)))), ((bs []), [(bs [97])]))))))]]) [[(0 : Int)]]).1.2 0 (dflt (.sl T_api_Ins))) 0 (dflt T_api_Ins)).1 == (12 : Int))
                      (.br (decide ((0 : Int) < (Int.ofNat (List.length (v_weave_In ([], [[((14 : Int), (false, ((0 : Int), (((0 : Int), ((0 : Int), ((0 : Int), (0 : Int)))), (((0 : Int), ((0 : Int), ((0 : Int), (0 : Int)))), ((bs []), [(bs [97])]))))))]]) [[(0 : Int)]]).1.2))))
                        (.br (decide ((0 : Int) < (Int.ofNat (List.length (List.getD (v_weave_In ([], [[((14 : Int), (false, ((0 : Int), (((0 : Int), ((0 : Int), ((0 : Int), (0 : Int)))), (((0 : Int), ((0 : Int), ((0 : Int), (0 : Int)))), ((bs []), [(bs [97])]))))))]]) [[(0 : Int)]]).1.2 0 (dflt (.sl T_api_Ins)))))))
                          (.br ((Int.ofNat (List.length (List.getD (List.getD (v_weave_In ([], [[((14 : Int), (false, ((0 : Int), (((0 : Int), ((0 : Int), ((0 : Int), (0 : Int)))), (((0 : Int), ((0 : Int), ((0 : Int), (0 : Int)))), ((bs []), [(bs [97])]))))))]]) [[(0 : Int)]]).1.2 0 (dflt (.sl T_api_Ins))) 0 (dflt T_api_Ins)).2.2.2.2.2.2)) == (1 : Int))
                            (.br (k_weave_Fences [(1 : Int), (2 : Int)])
                              (.br (k_book_SameInts (v_weave_Fences [(1 : Int), (2 : Int)]) [(1 : Int), (3 : Int)])
                                (.br (v_book_SameInts (v_weave_Fences [(1 : Int), (2 : Int)]) [(1 : Int), (3 : Int)])
                                  (.br (k_weave_Back [(1 : Int), (2 : Int)] (4 : Int))
                                    (.br ((v_weave_Back [(1 : Int), (2 : Int)] (4 : Int)) == (2 : Int))
                                      (.br (k_weave_There [(1 : Int), (2 : Int)] (2 : Int))
                                        (.leaf ((v_weave_There [(1 : Int), (2 : Int)] (2 : Int)) == (4 : Int)))
                                      (.no))
                                    (.leaf false))
                                  (.no))
                                (.leaf false))
                              (.no))
                            (.no))
                          (.leaf false))
                        (.no))
                      (.no))
                    (.leaf false))
                  (.no))
                (.no))
              (.leaf false))
            (.no))
          (.leaf false))
        (.leaf false))
      (.leaf false))
    (.no))
  (.no)
def v_law26_alive : Bool :=
  bif (k_weave_In ([], [[((14 : Int), (false, ((0 : Int), (((0 : Int), ((0 : Int), ((0 : Int), (0 : Int)))), (((0 : Int), ((0 : Int), ((0 : Int), (0 : Int)))), ((bs []), [(bs [97])]))))))]]) [[(0 : Int)]]) then
    bif (k_weave_In ([], [[((14 : Int), (false, ((0 : Int), (((0 : Int), ((0 : Int), ((0 : Int), (0 : Int)))), (((0 : Int), ((0 : Int), ((0 : Int), (0 : Int)))), ((bs []), [(bs [97])]))))))]]) [[(1 : Int)]]) then
      bif (v_weave_In ([], [[((14 : Int), (false, ((0 : Int), (((0 : Int), ((0 : Int), ((0 : Int), (0 : Int)))), (((0 : Int), ((0 : Int), ((0 : Int), (0 : Int)))), ((bs []), [(bs [97])]))))))]]) [[(0 : Int)]]).2 then
        bif (! (v_weave_In ([], [[((14 : Int), (false, ((0 : Int), (((0 : Int), ((0 : Int), ((0 : Int), (0 : Int)))), (((0 : Int), ((0 : Int), ((0 : Int), (0 : Int)))), ((bs []), [(bs [97])]))))))]]) [[(1 : Int)]]).2) then
          bif ((Int.ofNat (List.length (v_weave_In ([], [[((14 : Int), (false, ((0 : Int), (((0 : Int), ((0 : Int), ((0 : Int), (0 : Int)))), (((0 : Int), ((0 : Int), ((0 : Int), (0 : Int)))), ((bs []), [(bs [97])]))))))]]) [[(0 : Int)]]).1.2)) == (1 : Int)) then
            bif (decide ((0 : Int) < (Int.ofNat (List.length (v_weave_In ([], [[((14 : Int), (false, ((0 : Int), (((0 : Int), ((0 : Int), ((0 : Int), (0 : Int)))), (((0 : Int), ((0 : Int), ((0 : Int), (0 : Int)))), ((bs []), [(bs [97])]))))))]]) [[(0 : Int)]]).1.2)))) then
              bif ((Int.ofNat (List.length (List.getD (v_weave_In ([], [[((14 : Int), (false, ((0 : Int), (((0 : Int), ((0 : Int), ((0 : Int), (0 : Int)))), (((0 : Int), ((0 : Int), ((0 : Int), (0 : Int)))), ((bs []), [(bs [97])]))))))]]) [[(0 : Int)]]).1.2 0 (dflt (.sl T_api_Ins))))) == (2 : Int)) then
                bif (decide ((0 : Int) < (Int.ofNat (List.length (v_weave_In ([], [[((14 : Int), (false, ((0 : Int), (((0 : Int), ((0 : Int), ((0 : Int), (0 : Int)))), (((0 : Int), ((0 : Int), ((0 : Int), (0 : Int)))), ((bs []), [(bs [97])]))))))]]) [[(0 : Int)]]).1.2)))) then
                  bif (decide ((0 : Int) < (Int.ofNat (List.length (List.getD (v_weave_In ([], [[((14 : Int), (false, ((0 : Int), (((0 : Int), ((0 : Int), ((0 : Int), (0 : Int)))), (((0 : Int), ((0 : Int), ((0 : Int), (0 : Int)))), ((bs []), [(bs [97])]))))))]]) [[(0 : Int)]]).1.2 0 (dflt (.sl T_api_Ins))))))) then
                    bif ((List.getD (List.getD (v_weave_In ([], [[((14 : Int), (false, ((0 : Int), (((0 : Int), ((0 : Int), ((0 : Int), (0 : Int)))), (((0 : Int), ((0 : Int), ((0 : Int), (0 : Int)))), ((bs []), [(bs [97])]))))))]]) [[(0 : Int)]]).1.2 0 (dflt (.sl T_api_Ins))) 0 (dflt T_api_Ins)).1 == (12 : Int)) then
                      bif (decide ((0 : Int) < (Int.ofNat (List.length (v_weave_In ([], [[((14 : Int), (false, ((0 : Int), (((0 : Int), ((0 : Int), ((0 : Int), (0 : Int)))), (((0 : Int), ((0 : Int), ((0 : Int), (0 : Int)))), ((bs []), [(bs [97])]))))))]]) [[(0 : Int)]]).1.2)))) then
                        bif (decide ((0 : Int) < (Int.ofNat (List.length (List.getD (v_weave_In ([], [[((14 : Int), (false, ((0 : Int), (((0 : Int), ((0 : Int), ((0 : Int), (0 : Int)))), (((0 : Int), ((0 : Int), ((0 : Int), (0 : Int)))), ((bs []), [(bs [97])]))))))]]) [[(0 : Int)]]).1.2 0 (dflt (.sl T_api_Ins))))))) then
                          bif ((Int.ofNat (List.length (List.getD (List.getD (v_weave_In ([], [[((14 : Int), (false, ((0 : Int), (((0 : Int), ((0 : Int), ((0 : Int), (0 : Int)))), (((0 : Int), ((0 : Int), ((0 : Int), (0 : Int)))), ((bs []), [(bs [97])]))))))]]) [[(0 : Int)]]).1.2 0 (dflt (.sl T_api_Ins))) 0 (dflt T_api_Ins)).2.2.2.2.2.2)) == (1 : Int)) then
                            bif (k_weave_Fences [(1 : Int), (2 : Int)]) then
                              bif (k_book_SameInts (v_weave_Fences [(1 : Int), (2 : Int)]) [(1 : Int), (3 : Int)]) then
                                bif (v_book_SameInts (v_weave_Fences [(1 : Int), (2 : Int)]) [(1 : Int), (3 : Int)]) then
                                  bif (k_weave_Back [(1 : Int), (2 : Int)] (4 : Int)) then
                                    bif ((v_weave_Back [(1 : Int), (2 : Int)] (4 : Int)) == (2 : Int)) then
                                      bif (k_weave_There [(1 : Int), (2 : Int)] (2 : Int)) then
                                        ((v_weave_There [(1 : Int), (2 : Int)] (2 : Int)) == (4 : Int))
                                      else false
                                    else false
                                  else false
                                else false
                              else false
                            else false
                          else false
                        else false
                      else false
                    else false
                  else false
                else false
              else false
            else false
          else false
        else false
      else false
    else false
  else false
def k_law26_alive : Bool :=
  bif (k_weave_In ([], [[((14 : Int), (false, ((0 : Int), (((0 : Int), ((0 : Int), ((0 : Int), (0 : Int)))), (((0 : Int), ((0 : Int), ((0 : Int), (0 : Int)))), ((bs []), [(bs [97])]))))))]]) [[(0 : Int)]]) then
    bif (k_weave_In ([], [[((14 : Int), (false, ((0 : Int), (((0 : Int), ((0 : Int), ((0 : Int), (0 : Int)))), (((0 : Int), ((0 : Int), ((0 : Int), (0 : Int)))), ((bs []), [(bs [97])]))))))]]) [[(1 : Int)]]) then
      bif (v_weave_In ([], [[((14 : Int), (false, ((0 : Int), (((0 : Int), ((0 : Int), ((0 : Int), (0 : Int)))), (((0 : Int), ((0 : Int), ((0 : Int), (0 : Int)))), ((bs []), [(bs [97])]))))))]]) [[(0 : Int)]]).2 then
        bif (! (v_weave_In ([], [[((14 : Int), (false, ((0 : Int), (((0 : Int), ((0 : Int), ((0 : Int), (0 : Int)))), (((0 : Int), ((0 : Int), ((0 : Int), (0 : Int)))), ((bs []), [(bs [97])]))))))]]) [[(1 : Int)]]).2) then
          bif ((Int.ofNat (List.length (v_weave_In ([], [[((14 : Int), (false, ((0 : Int), (((0 : Int), ((0 : Int), ((0 : Int), (0 : Int)))), (((0 : Int), ((0 : Int), ((0 : Int), (0 : Int)))), ((bs []), [(bs [97])]))))))]]) [[(0 : Int)]]).1.2)) == (1 : Int)) then
            bif (decide ((0 : Int) < (Int.ofNat (List.length (v_weave_In ([], [[((14 : Int), (false, ((0 : Int), (((0 : Int), ((0 : Int), ((0 : Int), (0 : Int)))), (((0 : Int), ((0 : Int), ((0 : Int), (0 : Int)))), ((bs []), [(bs [97])]))))))]]) [[(0 : Int)]]).1.2)))) then
              bif ((Int.ofNat (List.length (List.getD (v_weave_In ([], [[((14 : Int), (false, ((0 : Int), (((0 : Int), ((0 : Int), ((0 : Int), (0 : Int)))), (((0 : Int), ((0 : Int), ((0 : Int), (0 : Int)))), ((bs []), [(bs [97])]))))))]]) [[(0 : Int)]]).1.2 0 (dflt (.sl T_api_Ins))))) == (2 : Int)) then
                bif (decide ((0 : Int) < (Int.ofNat (List.length (v_weave_In ([], [[((14 : Int), (false, ((0 : Int), (((0 : Int), ((0 : Int), ((0 : Int), (0 : Int)))), (((0 : Int), ((0 : Int), ((0 : Int), (0 : Int)))), ((bs []), [(bs [97])]))))))]]) [[(0 : Int)]]).1.2)))) then
                  bif (decide ((0 : Int) < (Int.ofNat (List.length (List.getD (v_weave_In ([], [[((14 : Int), (false, ((0 : Int), (((0 : Int), ((0 : Int), ((0 : Int), (0 : Int)))), (((0 : Int), ((0 : Int), ((0 : Int), (0 : Int)))), ((bs []), [(bs [97])]))))))]]) [[(0 : Int)]]).1.2 0 (dflt (.sl T_api_Ins))))))) then
                    bif ((List.getD (List.getD (v_weave_In ([], [[((14 : Int), (false, ((0 : Int), (((0 : Int), ((0 : Int), ((0 : Int), (0 : Int)))), (((0 : Int), ((0 : Int), ((0 : Int), (0 : Int)))), ((bs []), [(bs [97])]))))))]]) [[(0 : Int)]]).1.2 0 (dflt (.sl T_api_Ins))) 0 (dflt T_api_Ins)).1 == (12 : Int)) then
                      bif (decide ((0 : Int) < (Int.ofNat (List.length (v_weave_In ([], [[((14 : Int), (false, ((0 : Int), (((0 : Int), ((0 : Int), ((0 : Int), (0 : Int)))), (((0 : Int), ((0 : Int), ((0 : Int), (0 : Int)))), ((bs []), [(bs [97])]))))))]]) [[(0 : Int)]]).1.2)))) then
                        bif (decide ((0 : Int) < (Int.ofNat (List.length (List.getD (v_weave_In ([], [[((14 : Int), (false, ((0 : Int), (((0 : Int), ((0 : Int), ((0 : Int), (0 : Int)))), (((0 : Int), ((0 : Int), ((0 : Int), (0 : Int)))), ((bs []), [(bs [97])]))))))]]) [[(0 : Int)]]).1.2 0 (dflt (.sl T_api_Ins))))))) then
                          bif ((Int.ofNat (List.length (List.getD (List.getD (v_weave_In ([], [[((14 : Int), (false, ((0 : Int), (((0 : Int), ((0 : Int), ((0 : Int), (0 : Int)))), (((0 : Int), ((0 : Int), ((0 : Int), (0 : Int)))), ((bs []), [(bs [97])]))))))]]) [[(0 : Int)]]).1.2 0 (dflt (.sl T_api_Ins))) 0 (dflt T_api_Ins)).2.2.2.2.2.2)) == (1 : Int)) then
                            bif (k_weave_Fences [(1 : Int), (2 : Int)]) then
                              bif (k_book_SameInts (v_weave_Fences [(1 : Int), (2 : Int)]) [(1 : Int), (3 : Int)]) then
                                bif (v_book_SameInts (v_weave_Fences [(1 : Int), (2 : Int)]) [(1 : Int), (3 : Int)]) then
                                  bif (k_weave_Back [(1 : Int), (2 : Int)] (4 : Int)) then
                                    bif ((v_weave_Back [(1 : Int), (2 : Int)] (4 : Int)) == (2 : Int)) then
                                      bif (k_weave_There [(1 : Int), (2 : Int)] (2 : Int)) then
                                        true
                                      else false
                                    else true
                                  else false
                                else true
                              else false
                            else false
                          else true
                        else false
                      else false
                    else true
                  else false
                else false
              else true
            else false
          else true
        else true
      else true
    else false
  else false
theorem g_law26_alive (hk : k_law26_alive = true) : Goes (T_law26_alive) (T0_law26_alive) (v_law26_alive) :=
  Goes.brk hk (fun hk =>
    Goes.brk hk (fun hk =>
      Goes.brk hk (fun hk =>
        Goes.brk hk (fun hk =>
          Goes.brk hk (fun hk =>
            Goes.brk hk (fun hk =>
              Goes.brk hk (fun hk =>
                Goes.brk hk (fun hk =>
                  Goes.brk hk (fun hk =>
                    Goes.brk hk (fun hk =>
                      Goes.brk hk (fun hk =>
                        Goes.brk hk (fun hk =>
                          Goes.brk hk (fun hk =>
                            Goes.brk hk (fun hk =>
                              Goes.brk hk (fun hk =>
                                Goes.brk hk (fun hk =>
                                  Goes.brk hk (fun hk =>
                                    Goes.brk hk (fun hk =>
                                      Goes.brk hk (fun hk =>
                                        Goes.leaf) (fun hk =>
                                        Goes.nok hk)) (fun hk =>
                                      Goes.leaf)) (fun hk =>
                                    Goes.nok hk)) (fun hk =>
                                  Goes.leaf)) (fun hk =>
                                Goes.nok hk)) (fun hk =>
                              Goes.nok hk)) (fun hk =>
                            Goes.leaf)) (fun hk =>
                          Goes.nok hk)) (fun hk =>
                        Goes.nok hk)) (fun hk =>
                      Goes.leaf)) (fun hk =>
                    Goes.nok hk)) (fun hk =>
                  Goes.nok hk)) (fun hk =>
                Goes.leaf)) (fun hk =>
              Goes.nok hk)) (fun hk =>
            Goes.leaf)) (fun hk =>
          Goes.leaf)) (fun hk =>
        Goes.leaf)) (fun hk =>
      Goes.nok hk)) (fun hk =>
    Goes.nok hk)
def R_law26_alive : Bool → AV := fun (r : Bool) => .d .bool r
def S_law26_alive : Empty → Nat × St := fun j => nomatch j
theorem en_law26_alive (L : Lt) : entryA Go.Proofs.Tryd.prog (clOf t_law26_alive) tb_law26_alive Go.Proofs.Tryd.f12 c_law26_alive L (toForms sg_law26_alive (())) = (T0_law26_alive).run (fun v => some (R_law26_alive v, tps (toForms sg_law26_alive (())))) fun j => L (S_law26_alive j).1 (S_law26_alive j).2 := by kernel_rfl
theorem lp_law26_alive : ∀ (L : Lt) (j : Empty), procOf (procsF Go.Proofs.Tryd.prog (clOf t_law26_alive) tb_law26_alive Go.Proofs.Tryd.f12 c_law26_alive (toForms sg_law26_alive (()))) (S_law26_alive j).1 L (S_law26_alive j).2 = (T_law26_alive j).run (fun v => some (R_law26_alive v, tps (toForms sg_law26_alive (())))) fun j => L (S_law26_alive j).1 (S_law26_alive j).2 := fun L j => nomatch j
noncomputable def e_law26_alive : Run := entG sg_law26_alive R_law26_alive (fun a => k_law26_alive) (fun a => v_law26_alive)
theorem ok_law26_alive : EntOK Go.Proofs.Tryd.prog 12 e_law26_alive := entG_ok (tb := tb_law26_alive) (c := c_law26_alive) tk_law26_alive (by kernel_rfl) (by kernel_rfl) (by kernel_rfl) (fun a => by kernel_rfl) fun _ hk => evF_goes (c := c_law26_alive) (K := fun v => (R_law26_alive v, tps (toForms sg_law26_alive (())))) (S := S_law26_alive) (by kernel_rfl) (en_law26_alive) (lp_law26_alive) (g_law26_alive hk)
theorem co_law26_alive (hk : k_law26_alive = true) : CallOK Go.Proofs.Tryd.prog 12 (toForms sg_law26_alive (())) (R_law26_alive (v_law26_alive), tps (toForms sg_law26_alive (()))) := by
  obtain ⟨h1, h2⟩ := clOf_ok tk_law26_alive
  obtain ⟨n, hn⟩ := evF_goes (c := c_law26_alive) (K := fun v => (R_law26_alive v, tps (toForms sg_law26_alive (())))) (S := S_law26_alive) (by kernel_rfl) (en_law26_alive) (lp_law26_alive) (g_law26_alive hk)
  exact evF_sound (f := 12) (c := c_law26_alive) h1 h2 (by kernel_rfl) (by kernel_rfl) (by kernel_rfl) hn
end Go.Ev
end

section
set_option linter.unusedSectionVars false
set_option linter.unusedVariables false
set_option linter.unusedSimpArgs false
set_option maxRecDepth 100000
set_option linter.unusedVariables false
open Go Go.Ev
namespace Go.Ev
/-! ### paling/palingbook.Points -/
def sg_book_Points : Sig := [(true, T_api_Prog), (false, (.sl (.sl (.int .i64)))), (false, .bool)]
noncomputable def t_book_Points : Tbl := [(18, e_book_Pick)]
theorem tk_book_Points : ∀ p ∈ t_book_Points, EntOK Go.Proofs.Tryd.prog p.1 p.2 := tbl_cons ok_book_Pick (tbl_nil)
noncomputable def c_book_Points : Code := Go.Proofs.Tryd.f13.body.getD .skip
def tb_book_Points : Tb := [(7, ⟨[1, 3, 7, 8], [(8, 46)]⟩), (14, ⟨[1, 3, 7, 8, 9, 10], []⟩), (21, ⟨[1, 3, 7, 8, 9, 11, 12], [(12, 72)]⟩), (hintK, ⟨[1], []⟩)]
inductive J_book_Points where
  | l7 (t : Int) (out : List (List Int))
  | l14 (is : List Bool) (i : Int) (t : Int) (out : List (List Int))
  | l21 (is : List Bool) (i : Int) (row : List Int) (t : Int) (out : List (List Int))
def T_book_Points (p : El T_api_Prog) (l : List (List Int)) (raw : Bool) : J_book_Points → JT J_book_Points (List (List Int))
  | .l7 t out =>
    .br (decide (t < (Int.ofNat (List.length l))))
      (.br (decide (t < (Int.ofNat (List.length p.2))))
        (.br ((decide ((0 : Int) ≤ t)) && (decide (t < (Int.ofNat (List.length p.2)))))
          (.br ((((Int.ofNat (List.length (List.getD p.2 (Int.toNat t) (dflt (.sl T_api_Ins))))) == (Int.ofNat (List.length (List.getD p.2 (Int.toNat t) (dflt (.sl T_api_Ins)))))) && (decide ((0 : Int) ≤ (Int.ofNat (List.length (List.getD p.2 (Int.toNat t) (dflt (.sl T_api_Ins)))))))) && (decide (((Int.ofNat (List.length (List.getD p.2 (Int.toNat t) (dflt (.sl T_api_Ins))))) * (1 : Int)) ≤ (limit : Int))))
            (.jmp (.l14 (List.replicate (List.length (List.getD p.2 (Int.toNat t) (dflt (.sl T_api_Ins)))) false) (0 : Int) t out))
          (.no))
        (.no))
      (.leaf out))
    (.leaf out)
  | .l14 is i t out =>
    .br ((decide ((0 : Int) ≤ t)) && (decide (t < (Int.ofNat (List.length l)))))
      (.br (decide (i < (Int.ofNat (List.length (List.getD l (Int.toNat t) (dflt (.sl (.int .i64))))))))
        (.br (decide ((Int.ofNat (List.length is)) > (0 : Int)))
          (.br ((decide ((0 : Int) ≤ t)) && (decide (t < (Int.ofNat (List.length l)))))
            (.br ((decide ((0 : Int) ≤ i)) && (decide (i < (Int.ofNat (List.length (List.getD l (Int.toNat t) (dflt (.sl (.int .i64)))))))))
              (.br (k_book_Pick (List.getD (List.getD l (Int.toNat t) (dflt (.sl (.int .i64)))) (Int.toNat i) (dflt (.int .i64))) (Int.ofNat (List.length is)))
                (.br ((decide ((0 : Int) ≤ (v_book_Pick (List.getD (List.getD l (Int.toNat t) (dflt (.sl (.int .i64)))) (Int.toNat i) (dflt (.int .i64))) (Int.ofNat (List.length is))))) && (decide ((v_book_Pick (List.getD (List.getD l (Int.toNat t) (dflt (.sl (.int .i64)))) (Int.toNat i) (dflt (.int .i64))) (Int.ofNat (List.length is))) < (Int.ofNat (List.length is)))))
                  (.jmp (.l14 (List.set is (Int.toNat (v_book_Pick (List.getD (List.getD l (Int.toNat t) (dflt (.sl (.int .i64)))) (Int.toNat i) (dflt (.int .i64))) (Int.ofNat (List.length is)))) true) (IntKind.i64.wrap (i + (1 : Int))) t out))
                (.no))
              (.no))
            (.no))
          (.no))
        (.jmp (.l21 is (0 : Int) [] t out)))
      (.jmp (.l21 is (0 : Int) [] t out)))
    (.no)
  | .l21 is i row t out =>
    .br (decide (i < (Int.ofNat (List.length is))))
      (.br ((decide ((0 : Int) ≤ i)) && (decide (i < (Int.ofNat (List.length is)))))
        (.br (List.getD is (Int.toNat i) (dflt .bool))
          (.br (Nat.ble (((List.length row) + 1) * 8) limit)
            (.jmp (.l21 is (IntKind.i64.wrap (i + (1 : Int))) (row ++ [i]) t out))
          (.no))
        (.jmp (.l21 is (IntKind.i64.wrap (i + (1 : Int))) row t out)))
      (.no))
    (.br (Nat.ble (((List.length out) + 1) * 24) limit)
      (.jmp (.l7 (IntKind.i64.wrap (t + (1 : Int))) (out ++ [row])))
    (.no))
def T0_book_Points (p : El T_api_Prog) (l : List (List Int)) (raw : Bool) : JT J_book_Points (List (List Int)) :=
  .br raw
    (.leaf l)
  (.jmp (.l7 (0 : Int) []))
def R_book_Points : List (List Int) → AV := fun (r : List (List Int)) => .d (.sl (.sl (.int .i64))) r
def S_book_Points (p : El T_api_Prog) (l : List (List Int)) (raw : Bool) : J_book_Points → Nat × St
  | .l7 t out => (7, ⟨mkTm 81 [(1, .d (.sl (.sl (.int .i64))) l), (3, .pt 4 0 0), (7, .own 8 0 none), (8, .d (.int .i64) t)], [(4, 0, .box 27 [.d (.sl T_api_Sym) p.1, .d (.sl (.sl T_api_Ins)) p.2] none), (8, 0, .row 36 (.sl (.int .i64)) out false)]⟩)
  | .l14 is i t out => (14, ⟨mkTm 81 [(1, .d (.sl (.sl (.int .i64))) l), (3, .pt 4 0 0), (7, .own 8 0 none), (8, .d (.int .i64) t), (9, .own 10 0 none), (10, .d (.int .i64) i)], [(4, 0, .box 27 [.d (.sl T_api_Sym) p.1, .d (.sl (.sl T_api_Ins)) p.2] none), (8, 0, .row 36 (.sl (.int .i64)) out false), (10, 0, .row 4 .bool is false)]⟩)
  | .l21 is i row t out => (21, ⟨mkTm 81 [(1, .d (.sl (.sl (.int .i64))) l), (3, .pt 4 0 0), (7, .own 8 0 none), (8, .d (.int .i64) t), (9, .own 10 0 none), (11, .own 12 0 none), (12, .d (.int .i64) i)], [(4, 0, .box 27 [.d (.sl T_api_Sym) p.1, .d (.sl (.sl T_api_Ins)) p.2] none), (8, 0, .row 36 (.sl (.int .i64)) out false), (10, 0, .row 4 .bool is false), (12, 0, .row 3 (.int .i64) row false)]⟩)
theorem en_book_Points (p : El T_api_Prog) (l : List (List Int)) (raw : Bool) (L : Lt) : entryA Go.Proofs.Tryd.prog (clOf t_book_Points) tb_book_Points Go.Proofs.Tryd.f13 c_book_Points L (toForms sg_book_Points (p, l, raw, ())) = (T0_book_Points p l raw).run (fun v => some (R_book_Points v, tps (toForms sg_book_Points (p, l, raw, ())))) fun j => L (S_book_Points p l raw j).1 (S_book_Points p l raw j).2 := by kernel_rfl
theorem lp_book_Points (p : El T_api_Prog) (l : List (List Int)) (raw : Bool) : ∀ (L : Lt) (j : J_book_Points), procOf (procsF Go.Proofs.Tryd.prog (clOf t_book_Points) tb_book_Points Go.Proofs.Tryd.f13 c_book_Points (toForms sg_book_Points (p, l, raw, ()))) (S_book_Points p l raw j).1 L (S_book_Points p l raw j).2 = (T_book_Points p l raw j).run (fun v => some (R_book_Points v, tps (toForms sg_book_Points (p, l, raw, ())))) fun j => L (S_book_Points p l raw j).1 (S_book_Points p l raw j).2
  | L, .l7 t out => by kernel_rfl
  | L, .l14 is i t out => by kernel_rfl
  | L, .l21 is i row t out => by kernel_rfl
end Go.Ev
end

section
set_option linter.unusedSectionVars false
set_option linter.unusedVariables false
set_option linter.unusedSimpArgs false
set_option linter.unusedVariables false
set_option linter.unusedSimpArgs false
open Go
namespace Go.Ev
/-- Which places raw numbers mean, of so many. -/
def marksC (n : Nat) (l : List Int) : List Bool := l.foldl (fun is x => is.set (v_book_Pick x (n : Int)).toNat true) (List.replicate n false)
theorem marks_len {n : Nat} (l : List Int) : ∀ is : List Bool, (l.foldl (fun (is : List Bool) (x : Int) => is.set (v_book_Pick x (n : Int)).toNat true) is).length = is.length := by
  induction l with
  | nil => intro is; rfl
  | cons x l ih => intro is; rw [List.foldl_cons, ih, List.length_set]
theorem marksC_len (n : Nat) (l : List Int) : (marksC n l).length = n := by unfold marksC; rw [marks_len]; simp
def ptsC : List (List Int) → List (List (El T_api_Ins)) → List (List Int)
  | l :: ls, x :: xs => listFrom 0 (marksC x.length l) :: ptsC ls xs
  | _, _ => []
def v_book_Points (p : El T_api_Prog) (l : List (List Int)) (raw : Bool) : List (List Int) := if raw then l else ptsC l p.2
def k_book_Points (p : El T_api_Prog) (l : List (List Int)) (raw : Bool) : Bool := copyB p && (decide (l.length < 1099511627776) && l.all fun x => decide (List.length x < 1099511627776))
theorem g_book_Points (p : El T_api_Prog) (l : List (List Int)) (raw : Bool) (hk : k_book_Points p l raw = true) : Goes (T_book_Points p l raw) (T0_book_Points p l raw) (v_book_Points p l raw) := by
  unfold k_book_Points at hk
  simp only [Bool.and_eq_true, List.all_eq_true, decide_eq_true_eq] at hk
  obtain ⟨hcp, hll, hl⟩ := hk
  have hC := copyOK hcp
  have hth := hC.thr
  have row : ∀ (t : Nat) (out : List (List Int)) (v : List (List Int)) (is : List Bool), is.length < 1073741824 → out.length < 1073741824 → t < 1099511627776 → Goes (T_book_Points p l raw) (.jmp (.l7 ((t + 1 : Nat) : Int) (out ++ [listFrom 0 is]))) v → Goes (T_book_Points p l raw) (.jmp (.l21 is 0 [] (t : Int) out)) v := by
    intro t out v is his ho ht hv
    have loop : ∀ i, i ≤ is.length → ∀ r : List Int, r.length ≤ i → r ++ listFrom i (is.drop i) = listFrom 0 is → Goes (T_book_Points p l raw) (.jmp (.l21 is (i : Int) r (t : Int) out)) v := by
      refine down ?_ fun i hi ih => ?_
      · intro r hr he
        have b : Nat.ble ((out.length + 1) * 24) limit = true := bleN (by unfold limit; omega)
        rw [List.drop_length, show listFrom is.length [] = [] from rfl, List.append_nil] at he
        rw [goes_jmp]
        simp only [T_book_Points, goes_br, lt_len_not (Nat.lt_irrefl _), if_false, Bool.false_eq_true, b, if_true, wrap_succ (k := t) (by omega), he]
        exact hv
      · intro r hr he
        have b : Nat.ble ((r.length + 1) * 8) limit = true := bleN (by unfold limit; omega)
        rw [drop_cons hi, listFrom] at he
        rw [goes_jmp]
        simp only [T_book_Points, goes_br, lt_len hi, nng, Bool.and_self, if_true, Int.toNat_natCast, getD_lt hi, b, wrap_succ (k := i) (by omega)]
        split
        · rename_i hb
          rw [if_pos hb] at he
          exact ih _ (by rw [List.length_append, List.length_singleton]; omega) (by rw [List.append_assoc]; exact he)
        · rename_i hb
          rw [if_neg hb] at he
          exact ih _ (by omega) he
    exact loop 0 (Nat.zero_le _) [] (by simp) rfl
  have main : ∀ m t, t + m = min l.length p.2.length → ∀ out : List (List Int), out.length = t → Goes (T_book_Points p l raw) (.jmp (.l7 (t : Int) out)) (out ++ ptsC (l.drop t) (p.2.drop t)) := by
    intro m
    induction m with
    | zero =>
      intro t ht out ho
      rw [goes_jmp, T_book_Points, goes_br]
      by_cases h1 : t < l.length
      · have h2 : ¬ t < p.2.length := by omega
        rw [if_pos (lt_len h1), goes_br, if_neg (by rw [lt_len_not h2]; decide), show List.drop t p.2 = [] from List.drop_eq_nil_of_le (by omega)]
        rw [show ptsC (List.drop t l) [] = [] by cases List.drop t l <;> rfl, List.append_nil]
        exact .leaf
      · rw [if_neg (by rw [lt_len_not h1]; decide), show List.drop t l = [] from List.drop_eq_nil_of_le (by omega), show ptsC [] (List.drop t p.2) = [] from rfl, List.append_nil]
        exact .leaf
    | succ m ih =>
      intro t ht out ho
      have h1 : t < l.length := by omega
      have h2 : t < p.2.length := by omega
      obtain ⟨a, ha⟩ : ∃ a, l[t] = a := ⟨_, rfl⟩
      obtain ⟨x, hx⟩ : ∃ x, p.2[t] = x := ⟨_, rfl⟩
      have hal := hl _ (List.getElem_mem h1)
      rw [ha] at hal
      have hxl := hC.len x (by rw [← hx]; exact List.getElem_mem h2)
      have hb1 : ((((Int.ofNat (List.length x)) == (Int.ofNat (List.length x))) && (decide ((0 : Int) ≤ (Int.ofNat (List.length x))))) && (decide (((Int.ofNat (List.length x)) * (1 : Int)) ≤ (limit : Int)))) = true := by simp [limit]; omega
      rw [drop_cons h1, drop_cons h2, ha, hx]
      have nx := ih (t + 1) (by omega) (out ++ [listFrom 0 (marksC (List.length x) a)]) (by rw [List.length_append, ho]; rfl)
      rw [List.append_assoc] at nx
      have marks : ∀ j, j ≤ List.length a → ∀ is : List Bool, is.length = List.length x → (List.drop j a).foldl (fun is y => is.set (v_book_Pick y ((List.length x : Nat) : Int)).toNat true) is = marksC (List.length x) a →
          Goes (T_book_Points p l raw) (.jmp (.l14 is (j : Int) (t : Int) out)) (out ++ (listFrom 0 (marksC (List.length x) a) :: ptsC (List.drop (t + 1) l) (List.drop (t + 1) p.2))) := by
        refine down ?_ fun j hj ihj => ?_
        · intro is his he
          rw [List.drop_length, List.foldl_nil] at he
          rw [goes_jmp]
          simp only [T_book_Points, goes_br, lt_len h1, nng, Bool.and_self, if_true, Int.toNat_natCast, getD_lt h1, ha, lt_len_not (Nat.lt_irrefl _), if_false, Bool.false_eq_true]
          exact row t out _ is (by omega) (by omega) (by omega) (by rw [he]; exact nx)
        · intro is his he
          rw [drop_cons hj, List.foldl_cons] at he
          rw [goes_jmp]
          by_cases h0 : 0 < is.length
          · have e0 : decide (Int.ofNat (List.length is) > (0 : Int)) = true := by simp; omega
            obtain ⟨q1, q2, q3⟩ := pick_lt (n := a[j]) (m := (is.length : Int)) (by omega) (by omega)
            have hb : (decide ((0 : Int) ≤ v_book_Pick a[j] (Int.ofNat is.length)) && decide (v_book_Pick a[j] (Int.ofNat is.length) < Int.ofNat is.length)) = true := by simp; omega
            have q1' : k_book_Pick a[j] (Int.ofNat is.length) = true := q1
            simp only [T_book_Points, goes_br, lt_len h1, nng, Bool.and_self, if_true, Int.toNat_natCast, getD_lt h1, ha, lt_len hj, getD_lt hj, e0, q1', hb, wrap_succ (k := j) (by omega)]
            refine ihj _ (by rw [List.length_set]; exact his) ?_
            rw [his]
            exact he
          · have e0 : decide (Int.ofNat (List.length is) > (0 : Int)) = false := decide_eq_false (by simp only [Int.ofNat_eq_natCast]; omega)
            have hnil : is = [] := List.eq_nil_of_length_eq_zero (by omega)
            have hm : marksC (List.length x) a = [] := List.eq_nil_of_length_eq_zero (by rw [marksC_len]; omega)
            simp only [T_book_Points, goes_br, lt_len h1, nng, Bool.and_self, if_true, Int.toNat_natCast, getD_lt h1, ha, lt_len hj, getD_lt hj, e0, if_false, Bool.false_eq_true]
            exact row t out _ is (by omega) (by omega) (by omega) (by rw [hnil, ← hm]; exact nx)
      rw [goes_jmp]
      simp only [T_book_Points, goes_br, lt_len h1, lt_len h2, nng, Bool.and_self, if_true, Int.toNat_natCast, getD_lt h2, hx]
      rw [if_pos (by simpa using hb1)]
      exact marks 0 (Nat.zero_le _) _ (by simp) rfl
  unfold T0_book_Points v_book_Points
  rw [goes_br]
  split
  · exact .leaf
  · have := main (min l.length p.2.length) 0 (by omega) [] rfl
    simpa using this
end Go.Ev
end

section
set_option linter.unusedSectionVars false
set_option linter.unusedVariables false
set_option linter.unusedSimpArgs false
set_option maxRecDepth 100000
set_option linter.unusedVariables false
open Go Go.Ev
namespace Go.Ev
noncomputable def e_book_Points : Run := entG sg_book_Points R_book_Points (fun a => k_book_Points a.1 a.2.1 a.2.2.1) (fun a => v_book_Points a.1 a.2.1 a.2.2.1)
theorem ok_book_Points : EntOK Go.Proofs.Tryd.prog 13 e_book_Points := entG_ok (tb := tb_book_Points) (c := c_book_Points) tk_book_Points (by kernel_rfl) (by kernel_rfl) (by kernel_rfl) (fun a => by kernel_rfl) fun ⟨p, l, raw, _⟩ hk => evF_goes (c := c_book_Points) (K := fun v => (R_book_Points v, tps (toForms sg_book_Points (p, l, raw, ())))) (S := S_book_Points p l raw) (by kernel_rfl) (en_book_Points p l raw) (lp_book_Points p l raw) (g_book_Points p l raw hk)
end Go.Ev
end

section
set_option linter.unusedSectionVars false
set_option linter.unusedVariables false
set_option linter.unusedSimpArgs false
set_option maxRecDepth 100000
set_option linter.unusedVariables false
open Go Go.Ev
namespace Go.Ev
/-! ### paling/palingref1.Spots -/
def sg_ref1_Spots : Sig := [(false, .str)]
noncomputable def t_ref1_Spots : Tbl := []
theorem tk_ref1_Spots : ∀ p ∈ t_ref1_Spots, EntOK Go.Proofs.Tryd.prog p.1 p.2 := tbl_nil
noncomputable def c_ref1_Spots : Code := Go.Proofs.Tryd.f61.body.getD .skip
def tb_ref1_Spots : Tb := [(5, ⟨[0, 3, 4, 5, 10], [(4, 198)]⟩), (18, ⟨[3, 8], []⟩)]
inductive J_ref1_Spots where
  | l5 (line : Int) (out : List (El T_ref1_Spot)) (pos : Nat) (col : Int)
  | l18 (out : List (El T_ref1_Spot)) (i : Int)
def T_ref1_Spots (s : ByteArray) : J_ref1_Spots → JT J_ref1_Spots (List (El T_ref1_Spot))
  | .l5 line out pos col =>
    .br (decide (pos < (ByteArray.size s)))
      (.br (decide ((Int.ofNat (List.length out)) > (0 : Int)))
        (.br ((decide ((0 : Int) ≤ (IntKind.i64.wrap ((Int.ofNat (List.length out)) - (1 : Int))))) && (decide ((IntKind.i64.wrap ((Int.ofNat (List.length out)) - (1 : Int))) < (Int.ofNat (List.length out)))))
          (.br ((decide ((0 : Int) ≤ (IntKind.i64.wrap ((Int.ofNat (List.length out)) - (1 : Int))))) && (decide ((IntKind.i64.wrap ((Int.ofNat (List.length out)) - (1 : Int))) < (Int.ofNat (List.length out)))))
            (.br (Nat.ble (((List.length (List.set out (Int.toNat (IntKind.i64.wrap ((Int.ofNat (List.length out)) - (1 : Int)))) ((List.getD out (Int.toNat (IntKind.i64.wrap ((Int.ofNat (List.length out)) - (1 : Int)))) (dflt T_ref1_Spot)).1, ((List.getD out (Int.toNat (IntKind.i64.wrap ((Int.ofNat (List.length out)) - (1 : Int)))) (dflt T_ref1_Spot)).2.1, ((IntKind.i64.wrap ((Int.ofNat pos) - (List.getD out (Int.toNat (IntKind.i64.wrap ((Int.ofNat (List.length out)) - (1 : Int)))) (dflt T_ref1_Spot)).2.1)), (List.getD out (Int.toNat (IntKind.i64.wrap ((Int.ofNat (List.length out)) - (1 : Int)))) (dflt T_ref1_Spot)).2.2.2))))) + 1) * 48) limit)
              (.br ((Int.ofNat (Utf8.decode s pos).1) == (10 : Int))
                (.jmp (.l5 (IntKind.i64.wrap (line + (1 : Int))) ((List.set out (Int.toNat (IntKind.i64.wrap ((Int.ofNat (List.length out)) - (1 : Int)))) ((List.getD out (Int.toNat (IntKind.i64.wrap ((Int.ofNat (List.length out)) - (1 : Int)))) (dflt T_ref1_Spot)).1, ((List.getD out (Int.toNat (IntKind.i64.wrap ((Int.ofNat (List.length out)) - (1 : Int)))) (dflt T_ref1_Spot)).2.1, ((IntKind.i64.wrap ((Int.ofNat pos) - (List.getD out (Int.toNat (IntKind.i64.wrap ((Int.ofNat (List.length out)) - (1 : Int)))) (dflt T_ref1_Spot)).2.1)), (List.getD out (Int.toNat (IntKind.i64.wrap ((Int.ofNat (List.length out)) - (1 : Int)))) (dflt T_ref1_Spot)).2.2.2)))) ++ [((Int.ofNat (Utf8.decode s pos).1), ((Int.ofNat pos), ((0 : Int), (line, (col, false)))))]) (pos + (Utf8.decode s pos).2) (1 : Int)))
              (.jmp (.l5 line ((List.set out (Int.toNat (IntKind.i64.wrap ((Int.ofNat (List.length out)) - (1 : Int)))) ((List.getD out (Int.toNat (IntKind.i64.wrap ((Int.ofNat (List.length out)) - (1 : Int)))) (dflt T_ref1_Spot)).1, ((List.getD out (Int.toNat (IntKind.i64.wrap ((Int.ofNat (List.length out)) - (1 : Int)))) (dflt T_ref1_Spot)).2.1, ((IntKind.i64.wrap ((Int.ofNat pos) - (List.getD out (Int.toNat (IntKind.i64.wrap ((Int.ofNat (List.length out)) - (1 : Int)))) (dflt T_ref1_Spot)).2.1)), (List.getD out (Int.toNat (IntKind.i64.wrap ((Int.ofNat (List.length out)) - (1 : Int)))) (dflt T_ref1_Spot)).2.2.2)))) ++ [((Int.ofNat (Utf8.decode s pos).1), ((Int.ofNat pos), ((0 : Int), (line, (col, false)))))]) (pos + (Utf8.decode s pos).2) (IntKind.i64.wrap (col + (1 : Int))))))
            (.no))
          (.no))
        (.no))
      (.br (Nat.ble (((List.length out) + 1) * 48) limit)
        (.br ((Int.ofNat (Utf8.decode s pos).1) == (10 : Int))
          (.jmp (.l5 (IntKind.i64.wrap (line + (1 : Int))) (out ++ [((Int.ofNat (Utf8.decode s pos).1), ((Int.ofNat pos), ((0 : Int), (line, (col, false)))))]) (pos + (Utf8.decode s pos).2) (1 : Int)))
        (.jmp (.l5 line (out ++ [((Int.ofNat (Utf8.decode s pos).1), ((Int.ofNat pos), ((0 : Int), (line, (col, false)))))]) (pos + (Utf8.decode s pos).2) (IntKind.i64.wrap (col + (1 : Int))))))
      (.no)))
    (.br (decide ((Int.ofNat (List.length out)) > (0 : Int)))
      (.br ((decide ((0 : Int) ≤ (IntKind.i64.wrap ((Int.ofNat (List.length out)) - (1 : Int))))) && (decide ((IntKind.i64.wrap ((Int.ofNat (List.length out)) - (1 : Int))) < (Int.ofNat (List.length out)))))
        (.br ((decide ((0 : Int) ≤ (IntKind.i64.wrap ((Int.ofNat (List.length out)) - (1 : Int))))) && (decide ((IntKind.i64.wrap ((Int.ofNat (List.length out)) - (1 : Int))) < (Int.ofNat (List.length out)))))
          (.jmp (.l18 (List.set out (Int.toNat (IntKind.i64.wrap ((Int.ofNat (List.length out)) - (1 : Int)))) ((List.getD out (Int.toNat (IntKind.i64.wrap ((Int.ofNat (List.length out)) - (1 : Int)))) (dflt T_ref1_Spot)).1, ((List.getD out (Int.toNat (IntKind.i64.wrap ((Int.ofNat (List.length out)) - (1 : Int)))) (dflt T_ref1_Spot)).2.1, ((IntKind.i64.wrap ((Int.ofNat (ByteArray.size s)) - (List.getD out (Int.toNat (IntKind.i64.wrap ((Int.ofNat (List.length out)) - (1 : Int)))) (dflt T_ref1_Spot)).2.1)), (List.getD out (Int.toNat (IntKind.i64.wrap ((Int.ofNat (List.length out)) - (1 : Int)))) (dflt T_ref1_Spot)).2.2.2)))) (0 : Int)))
        (.no))
      (.no))
    (.jmp (.l18 out (0 : Int))))
  | .l18 out i =>
    .br (decide (i < (Int.ofNat (List.length out))))
      (.br ((decide ((0 : Int) ≤ i)) && (decide (i < (Int.ofNat (List.length out)))))
        (.br ((List.getD out (Int.toNat i) (dflt T_ref1_Spot)).1 == (65533 : Int))
          (.br ((decide ((0 : Int) ≤ i)) && (decide (i < (Int.ofNat (List.length out)))))
            (.br ((decide ((0 : Int) ≤ i)) && (decide (i < (Int.ofNat (List.length out)))))
              (.jmp (.l18 (List.set out (Int.toNat i) ((List.getD out (Int.toNat i) (dflt T_ref1_Spot)).1, ((List.getD out (Int.toNat i) (dflt T_ref1_Spot)).2.1, ((List.getD out (Int.toNat i) (dflt T_ref1_Spot)).2.2.1, ((List.getD out (Int.toNat i) (dflt T_ref1_Spot)).2.2.2.1, ((List.getD out (Int.toNat i) (dflt T_ref1_Spot)).2.2.2.2.1, ((List.getD out (Int.toNat i) (dflt T_ref1_Spot)).2.2.1 == (1 : Int)))))))) (IntKind.i64.wrap (i + (1 : Int)))))
            (.no))
          (.no))
        (.br ((decide ((0 : Int) ≤ i)) && (decide (i < (Int.ofNat (List.length out)))))
          (.jmp (.l18 (List.set out (Int.toNat i) ((List.getD out (Int.toNat i) (dflt T_ref1_Spot)).1, ((List.getD out (Int.toNat i) (dflt T_ref1_Spot)).2.1, ((List.getD out (Int.toNat i) (dflt T_ref1_Spot)).2.2.1, ((List.getD out (Int.toNat i) (dflt T_ref1_Spot)).2.2.2.1, ((List.getD out (Int.toNat i) (dflt T_ref1_Spot)).2.2.2.2.1, false)))))) (IntKind.i64.wrap (i + (1 : Int)))))
        (.no)))
      (.no))
    (.leaf out)
def T0_ref1_Spots (s : ByteArray) : JT J_ref1_Spots (List (El T_ref1_Spot)) :=
  .jmp (.l5 (1 : Int) [] 0 (1 : Int))
def R_ref1_Spots : List (El T_ref1_Spot) → AV := fun (r : List (El T_ref1_Spot)) => .rw 102 T_ref1_Spot r
def S_ref1_Spots (s : ByteArray) : J_ref1_Spots → Nat × St
  | .l5 line out pos col => (5, ⟨mkTm 91 [(0, .d .str s), (3, .own 4 0 none), (4, .d (.int .i64) line), (5, .d (.int .i64) col), (10, .it 11 0)], [(4, 0, .row 102 T_ref1_Spot out false), (11, 0, .sit s pos)]⟩)
  | .l18 out i => (18, ⟨mkTm 91 [(3, .own 4 0 none), (8, .d (.int .i64) i)], [(4, 0, .row 102 T_ref1_Spot out false)]⟩)
theorem en_ref1_Spots (s : ByteArray) (L : Lt) : entryA Go.Proofs.Tryd.prog (clOf t_ref1_Spots) tb_ref1_Spots Go.Proofs.Tryd.f61 c_ref1_Spots L (toForms sg_ref1_Spots (s, ())) = (T0_ref1_Spots s).run (fun v => some (R_ref1_Spots v, tps (toForms sg_ref1_Spots (s, ())))) fun j => L (S_ref1_Spots s j).1 (S_ref1_Spots s j).2 := by kernel_rfl
theorem lp_ref1_Spots (s : ByteArray) : ∀ (L : Lt) (j : J_ref1_Spots), procOf (procsF Go.Proofs.Tryd.prog (clOf t_ref1_Spots) tb_ref1_Spots Go.Proofs.Tryd.f61 c_ref1_Spots (toForms sg_ref1_Spots (s, ()))) (S_ref1_Spots s j).1 L (S_ref1_Spots s j).2 = (T_ref1_Spots s j).run (fun v => some (R_ref1_Spots v, tps (toForms sg_ref1_Spots (s, ())))) fun j => L (S_ref1_Spots s j).1 (S_ref1_Spots s j).2
  | L, .l5 line out pos col => by kernel_rfl
  | L, .l18 out i => by kernel_rfl
end Go.Ev
end

section
set_option linter.unusedSectionVars false
set_option linter.unusedVariables false
set_option linter.unusedSimpArgs false
set_option linter.unusedVariables false
set_option linter.unusedSimpArgs false
open Go
namespace Go.Ev

/-- as in spotsFrom, but not told yet which are bad -/
def rawFrom (s : ByteArray) : Nat → Nat → Int → Int → List (El T_glyph_Spot)
  | 0, _, _, _ => []
  | n + 1, pos, line, col =>
    if pos < s.size then
      spotAt s pos line col false :: rawFrom s n (pos + (Utf8.decode s pos).2) (v_glyph_step line col (Int.ofNat (Utf8.decode s pos).1)).1 (v_glyph_step line col (Int.ofNat (Utf8.decode s pos).1)).2
    else []
def tellBad (x : El T_glyph_Spot) : El T_glyph_Spot := (x.1, x.2.1, x.2.2.1, x.2.2.2.1, x.2.2.2.2.1, x.1 == (65533 : Int) && x.2.2.1 == (1 : Int))
def noSize (x : El T_glyph_Spot) : El T_glyph_Spot := (x.1, x.2.1, 0, x.2.2.2.1, x.2.2.2.2.1, x.2.2.2.2.2)
theorem raw_spots (s : ByteArray) : ∀ (n pos : Nat) (line col : Int), (rawFrom s n pos line col).map tellBad = spotsFrom s n pos line col
  | 0, _, _, _ => rfl
  | n + 1, pos, line, col => by
    unfold rawFrom spotsFrom
    split
    · rw [List.map_cons, raw_spots s n]
      congr 1
      unfold tellBad spotAt badAt
      have e1 : (Int.ofNat (Utf8.decode s pos).1 == (65533 : Int)) = decide ((Utf8.decode s pos).1 = 65533) := by rw [Bool.eq_iff_iff]; simp <;> omega
      have e2 : (Int.ofNat (Utf8.decode s pos).2 == (1 : Int)) = decide ((Utf8.decode s pos).2 = 1) := by rw [Bool.eq_iff_iff]; simp <;> omega
      simp only [e1, e2]
    · rfl
def v_ref1_Spots (s : ByteArray) : List (El T_glyph_Spot) := spots s
def k_ref1_Spots (s : ByteArray) : Bool := smallText s
theorem g_ref1_Spots (s : ByteArray) (hk : k_ref1_Spots s = true) : Goes (T_ref1_Spots s) (T0_ref1_Spots s) (v_ref1_Spots s) := by
  have hs : s.size < 549755813888 := of_decide_eq_true hk
  have loop2 : ∀ (rest pre : List (El T_glyph_Spot)), pre.length + rest.length ≤ s.size → (∀ x ∈ rest, x.2.2.2.2.2 = false) → Goes (T_ref1_Spots s) (.jmp (.l18 (pre ++ rest) (pre.length : Int))) (pre ++ rest.map tellBad) := by
    intro rest
    induction rest with
    | nil =>
      intro pre _ _
      rw [goes_jmp]
      simp [T_ref1_Spots, goes_br, goes_leaf]
    | cons x rest ih =>
      intro pre hl hx
      rw [goes_jmp]
      have hk : pre.length < (pre ++ x :: rest).length := by simp
      have hg : (pre ++ x :: rest).getD pre.length (dflt T_glyph_Spot) = x := by simp [List.getD]
      have hset : ∀ y, (pre ++ x :: rest).set pre.length y = pre ++ y :: rest := fun y => by simp
      have hl' : (pre ++ x :: rest).length ≤ s.size := by simpa using hl
      simp only [T_ref1_Spots, goes_br, lt_len hk, nng, Bool.and_self, if_true, Int.toNat_natCast, hg, hset, wrap_succ (k := pre.length) (by omega)]
      have hb : x.2.2.2.2.2 = false := hx x (by simp)
      have key : ∀ b, b = (x.1 == (65533 : Int) && x.2.2.1 == (1 : Int)) → Goes (T_ref1_Spots s) (.jmp (.l18 (pre ++ (x.1, x.2.1, x.2.2.1, x.2.2.2.1, x.2.2.2.2.1, b) :: rest) ((pre.length + 1 : Nat) : Int))) (pre ++ (x :: rest).map tellBad) := by
        intro b e
        subst e
        have := ih (pre ++ [tellBad x]) (by simp at hl ⊢; omega) (fun y hy => hx y (by simp [hy]))
        simpa [tellBad] using this
      by_cases h : x.1 = 65533
      · rw [if_pos (by simp [h])]
        exact key _ (by simp [h])
      · rw [if_neg (by simp [h])]
        exact key _ (by simp [h])
  have raw_false : ∀ (n pos : Nat) (line col : Int), ∀ x ∈ rawFrom s n pos line col, x.2.2.2.2.2 = false := by
    intro n
    induction n with
    | zero => intro pos line col x hx; simp [rawFrom] at hx
    | succ n ih =>
      intro pos line col x hx
      unfold rawFrom at hx
      split at hx
      · rcases List.mem_cons.1 hx with rfl | hx
        · rfl
        · exact ih _ _ _ x hx
      · simp at hx
  -- the first loop: what is there, of which the last one has no size yet
  have loop1 : ∀ (n pos : Nat) (line col : Int) (done : List (El T_glyph_Spot)) (out : List (El T_glyph_Spot)), s.size - pos < n → pos ≤ s.size → done.length ≤ pos → (∀ x ∈ done, x.2.2.2.2.2 = false) →
      ((done = [] ∧ out = []) ∨ ∃ ini x, done = ini ++ [x] ∧ out = ini ++ [noSize x] ∧ ∃ a m : Nat, x.2.1 = (a : Int) ∧ x.2.2.1 = (m : Int) ∧ a + m = pos) →
      Goes (T_ref1_Spots s) (.jmp (.l5 line out pos col)) ((done ++ rawFrom s n pos line col).map tellBad) := by
    intro n
    induction n with
    | zero => intro pos line col done out h; omega
    | succ n ih =>
      intro pos line col done out hn hp hd hfalse hinv
      rw [goes_jmp]
      simp only [T_ref1_Spots, goes_br]
      by_cases h : pos < s.size
      · have hle := dec_le h
        have h1 := dec_ge (s := s) (pos := pos)
        have hraw : rawFrom s (n + 1) pos line col = spotAt s pos line col false :: rawFrom s n (pos + (Utf8.decode s pos).2) (v_glyph_step line col (Int.ofNat (Utf8.decode s pos).1)).1 (v_glyph_step line col (Int.ofNat (Utf8.decode s pos).1)).2 := by
          rw [rawFrom, if_pos h]
        have hnext : ∀ (l c : Int), l = (v_glyph_step line col (Int.ofNat (Utf8.decode s pos).1)).1 → c = (v_glyph_step line col (Int.ofNat (Utf8.decode s pos).1)).2 →
            Goes (T_ref1_Spots s) (.jmp (.l5 l (done ++ [(Int.ofNat (Utf8.decode s pos).1, Int.ofNat pos, 0, line, col, false)]) (pos + (Utf8.decode s pos).2) c)) ((done ++ rawFrom s (n + 1) pos line col).map tellBad) := by
          intro l c el ec
          subst el; subst ec
          have e : ∀ (r : List (El T_glyph_Spot)), done ++ spotAt s pos line col false :: r = (done ++ [spotAt s pos line col false]) ++ r := fun r => List.append_cons ..
          rw [hraw, e]
          refine ih (pos + (Utf8.decode s pos).2) _ _ (done ++ [spotAt s pos line col false]) _ (by omega) (by omega) (by simp <;> omega) ?_ (.inr ⟨done, spotAt s pos line col false, rfl, rfl, pos, (Utf8.decode s pos).2, rfl, rfl, rfl⟩)
          intro x hx
          rcases List.mem_append.1 hx with hx | hx
          · exact hfalse x hx
          · simp at hx; subst hx; rfl
        have hfin : if (Int.ofNat (Utf8.decode s pos).1 == (10 : Int)) = true then
              Goes (T_ref1_Spots s) (.jmp (.l5 (IntKind.i64.wrap (line + 1)) (done ++ [(Int.ofNat (Utf8.decode s pos).1, Int.ofNat pos, 0, line, col, false)]) (pos + (Utf8.decode s pos).2) 1)) ((done ++ rawFrom s (n + 1) pos line col).map tellBad)
            else Goes (T_ref1_Spots s) (.jmp (.l5 line (done ++ [(Int.ofNat (Utf8.decode s pos).1, Int.ofNat pos, 0, line, col, false)]) (pos + (Utf8.decode s pos).2) (IntKind.i64.wrap (col + 1)))) ((done ++ rawFrom s (n + 1) pos line col).map tellBad) := by
          split
          · rename_i hr
            exact hnext _ _ (by simp only [v_glyph_step, hr, cond_true]) (by simp only [v_glyph_step, hr, cond_true])
          · rename_i hr
            rw [Bool.not_eq_true] at hr
            exact hnext _ _ (by simp only [v_glyph_step, hr, cond_false]) (by simp only [v_glyph_step, hr, cond_false])
        rcases hinv with ⟨rfl, rfl⟩ | ⟨ini, x, rfl, rfl, a, m, ha, hm, ham⟩
        · have hb : Nat.ble ((([] : List (El T_glyph_Spot)).length + 1) * 48) limit = true := by decide
          simp only [h, decide_true, if_true, hb]
          rw [if_neg (by simp)]
          exact hfin
        · have hlen : (ini ++ [noSize x]).length = ini.length + 1 := by simp
          have hd2 : ini.length + 1 ≤ pos := by simpa using hd
          have hw : IntKind.i64.wrap (Int.ofNat (ini ++ [noSize x]).length - 1) = (ini.length : Int) := by rw [hlen, wrap_i64 (by simp <;> omega) (by simp <;> omega)]; simp
          have hg : (ini ++ [noSize x]).getD ini.length (dflt T_glyph_Spot) = noSize x := by simp [List.getD]
          have hset : ∀ y, (ini ++ [noSize x]).set ini.length y = ini ++ [y] := fun y => by simp
          have hat : IntKind.i64.wrap (Int.ofNat pos - (noSize x).2.1) = x.2.2.1 := by
            show IntKind.i64.wrap (Int.ofNat pos - x.2.1) = _
            rw [ha, hm, wrap_i64 (by simp <;> omega) (by simp <;> omega)]
            simp; omega
          have hy : ((noSize x).1, (noSize x).2.1, x.2.2.1, (noSize x).2.2.2) = x := rfl
          have hgt : decide (Int.ofNat (ini ++ [noSize x]).length > 0) = true := by rw [hlen]; simp <;> omega
          have hb : Nat.ble (((ini ++ [x]).length + 1) * 48) limit = true := by
            apply Nat.ble_eq_true_of_le; unfold limit; simp <;> omega
          have hlt : ini.length < (ini ++ [noSize x]).length := by simp
          simp only [h, decide_true, if_true, hgt, hw, lt_len hlt, nng, Bool.and_self, Int.toNat_natCast, hg, hset, hat, hy, hb]
          exact hfin
      · have hend : rawFrom s (n + 1) pos line col = [] := by rw [rawFrom, if_neg h]
        have hpos : pos = s.size := by omega
        rw [hend, List.append_nil]
        simp only [h, decide_false]
        rw [if_neg (by simp)]
        rcases hinv with ⟨rfl, rfl⟩ | ⟨ini, x, rfl, rfl, a, m, ha, hm, ham⟩
        · rw [if_neg (by simp)]
          exact loop2 [] [] (by simp) (by simp)
        · have hlen : (ini ++ [noSize x]).length = ini.length + 1 := by simp
          have hd2 : ini.length + 1 ≤ pos := by simpa using hd
          have hw : IntKind.i64.wrap (Int.ofNat (ini ++ [noSize x]).length - 1) = (ini.length : Int) := by rw [hlen, wrap_i64 (by simp <;> omega) (by simp <;> omega)]; simp
          have hg : (ini ++ [noSize x]).getD ini.length (dflt T_glyph_Spot) = noSize x := by simp [List.getD]
          have hset : ∀ y, (ini ++ [noSize x]).set ini.length y = ini ++ [y] := fun y => by simp
          have hat : IntKind.i64.wrap (Int.ofNat s.size - (noSize x).2.1) = x.2.2.1 := by
            show IntKind.i64.wrap (Int.ofNat s.size - x.2.1) = _
            rw [ha, hm, wrap_i64 (by simp <;> omega) (by simp <;> omega)]
            simp; omega
          have hy : ((noSize x).1, (noSize x).2.1, x.2.2.1, (noSize x).2.2.2) = x := rfl
          have hgt : decide (Int.ofNat (ini ++ [noSize x]).length > 0) = true := by rw [hlen]; simp <;> omega
          have hlt : ini.length < (ini ++ [noSize x]).length := by simp
          simp only [if_true, hgt, hw, lt_len hlt, nng, Bool.and_self, Int.toNat_natCast, hg, hset, hat, hy]
          exact loop2 (ini ++ [x]) [] (by simp <;> omega) hfalse
  unfold T0_ref1_Spots v_ref1_Spots spots
  have := loop1 (s.size + 1) 0 1 1 [] [] (by omega) (by omega) (by simp) (by simp) (.inl ⟨rfl, rfl⟩)
  rw [List.nil_append, raw_spots] at this
  exact this

end Go.Ev
end

section
set_option linter.unusedSectionVars false
set_option linter.unusedVariables false
set_option linter.unusedSimpArgs false
set_option maxRecDepth 100000
set_option linter.unusedVariables false
open Go Go.Ev
namespace Go.Ev
noncomputable def e_ref1_Spots : Run := entG sg_ref1_Spots R_ref1_Spots (fun a => k_ref1_Spots a.1) (fun a => v_ref1_Spots a.1)
theorem ok_ref1_Spots : EntOK Go.Proofs.Tryd.prog 61 e_ref1_Spots := entG_ok (tb := tb_ref1_Spots) (c := c_ref1_Spots) tk_ref1_Spots (by kernel_rfl) (by kernel_rfl) (by kernel_rfl) (fun a => by kernel_rfl) fun ⟨s, _⟩ hk => evF_goes (c := c_ref1_Spots) (K := fun v => (R_ref1_Spots v, tps (toForms sg_ref1_Spots (s, ())))) (S := S_ref1_Spots s) (by kernel_rfl) (en_ref1_Spots s) (lp_ref1_Spots s) (g_ref1_Spots s hk)
end Go.Ev
end

section
set_option linter.unusedSectionVars false
set_option linter.unusedVariables false
set_option linter.unusedSimpArgs false
set_option maxRecDepth 100000
set_option linter.unusedVariables false
open Go Go.Ev
namespace Go.Ev
/-! ### paling/palingref1.Regs -/
def sg_ref1_Regs : Sig := []
noncomputable def t_ref1_Regs : Tbl := []
theorem tk_ref1_Regs : ∀ p ∈ t_ref1_Regs, EntOK Go.Proofs.Tryd.prog p.1 p.2 := tbl_nil
noncomputable def c_ref1_Regs : Code := Go.Proofs.Tryd.f80.body.getD .skip
def tb_ref1_Regs : Tb := []
def T_ref1_Regs : Empty → JT Empty (List ByteArray) := fun j => nomatch j
def T0_ref1_Regs : JT Empty (List ByteArray) :=
  .leaf ([(bs [114, 97, 120]), (bs [114, 98, 120]), (bs [114, 99, 120]), (bs [114, 100, 120]), (bs [114, 115, 105]), (bs [114, 100, 105]), (bs [114, 56]), (bs [114, 57])])
def v_ref1_Regs : List ByteArray :=
  ([(bs [114, 97, 120]), (bs [114, 98, 120]), (bs [114, 99, 120]), (bs [114, 100, 120]), (bs [114, 115, 105]), (bs [114, 100, 105]), (bs [114, 56]), (bs [114, 57])])
theorem g_ref1_Regs : Goes (T_ref1_Regs) (T0_ref1_Regs) (v_ref1_Regs) :=
  Goes.leaf
def R_ref1_Regs : List ByteArray → AV := fun (r : List ByteArray) => .rw 9 .str r
def S_ref1_Regs : Empty → Nat × St := fun j => nomatch j
theorem en_ref1_Regs (L : Lt) : entryA Go.Proofs.Tryd.prog (clOf t_ref1_Regs) tb_ref1_Regs Go.Proofs.Tryd.f80 c_ref1_Regs L (toForms sg_ref1_Regs (())) = (T0_ref1_Regs).run (fun v => some (R_ref1_Regs v, tps (toForms sg_ref1_Regs (())))) fun j => L (S_ref1_Regs j).1 (S_ref1_Regs j).2 := by kernel_rfl
theorem lp_ref1_Regs : ∀ (L : Lt) (j : Empty), procOf (procsF Go.Proofs.Tryd.prog (clOf t_ref1_Regs) tb_ref1_Regs Go.Proofs.Tryd.f80 c_ref1_Regs (toForms sg_ref1_Regs (()))) (S_ref1_Regs j).1 L (S_ref1_Regs j).2 = (T_ref1_Regs j).run (fun v => some (R_ref1_Regs v, tps (toForms sg_ref1_Regs (())))) fun j => L (S_ref1_Regs j).1 (S_ref1_Regs j).2 := fun L j => nomatch j
noncomputable def e_ref1_Regs : Run := entT sg_ref1_Regs R_ref1_Regs (fun a => v_ref1_Regs)
theorem ok_ref1_Regs : EntOK Go.Proofs.Tryd.prog 80 e_ref1_Regs := entT_ok (tb := tb_ref1_Regs) (c := c_ref1_Regs) tk_ref1_Regs (by kernel_rfl) (by kernel_rfl) (by kernel_rfl) (fun a => by kernel_rfl) fun _ => evF_goes (c := c_ref1_Regs) (K := fun v => (R_ref1_Regs v, tps (toForms sg_ref1_Regs (())))) (S := S_ref1_Regs) (by kernel_rfl) (en_ref1_Regs) (lp_ref1_Regs) (g_ref1_Regs)
end Go.Ev
end

section
set_option linter.unusedSectionVars false
set_option linter.unusedVariables false
set_option linter.unusedSimpArgs false
set_option maxRecDepth 100000
set_option linter.unusedVariables false
open Go Go.Ev
namespace Go.Ev
/-! ### paling/palingref1.ops -/
def sg_ref1_ops : Sig := []
noncomputable def t_ref1_ops : Tbl := []
theorem tk_ref1_ops : ∀ p ∈ t_ref1_ops, EntOK Go.Proofs.Tryd.prog p.1 p.2 := tbl_nil
noncomputable def c_ref1_ops : Code := Go.Proofs.Tryd.f81.body.getD .skip
def tb_ref1_ops : Tb := []
def T_ref1_ops : Empty → JT Empty (List ByteArray) := fun j => nomatch j
def T0_ref1_ops : JT Empty (List ByteArray) :=
  .leaf ([(bs []), (bs [109, 111, 118]), (bs [97, 100, 100]), (bs [115, 117, 98]), (bs [97, 110, 100]), (bs [111, 114]), (bs [120, 111, 114]), (bs [99, 109, 112]), (bs [120, 99, 104, 103]), (bs [99, 109, 112, 120, 99, 104, 103]), (bs [106, 109, 112]), (bs []), (bs [109, 102, 101, 110, 99, 101]), (bs [110, 111, 112]), (bs [104, 108, 116])])
def v_ref1_ops : List ByteArray :=
  ([(bs []), (bs [109, 111, 118]), (bs [97, 100, 100]), (bs [115, 117, 98]), (bs [97, 110, 100]), (bs [111, 114]), (bs [120, 111, 114]), (bs [99, 109, 112]), (bs [120, 99, 104, 103]), (bs [99, 109, 112, 120, 99, 104, 103]), (bs [106, 109, 112]), (bs []), (bs [109, 102, 101, 110, 99, 101]), (bs [110, 111, 112]), (bs [104, 108, 116])])
theorem g_ref1_ops : Goes (T_ref1_ops) (T0_ref1_ops) (v_ref1_ops) :=
  Goes.leaf
def R_ref1_ops : List ByteArray → AV := fun (r : List ByteArray) => .rw 9 .str r
def S_ref1_ops : Empty → Nat × St := fun j => nomatch j
theorem en_ref1_ops (L : Lt) : entryA Go.Proofs.Tryd.prog (clOf t_ref1_ops) tb_ref1_ops Go.Proofs.Tryd.f81 c_ref1_ops L (toForms sg_ref1_ops (())) = (T0_ref1_ops).run (fun v => some (R_ref1_ops v, tps (toForms sg_ref1_ops (())))) fun j => L (S_ref1_ops j).1 (S_ref1_ops j).2 := by kernel_rfl
theorem lp_ref1_ops : ∀ (L : Lt) (j : Empty), procOf (procsF Go.Proofs.Tryd.prog (clOf t_ref1_ops) tb_ref1_ops Go.Proofs.Tryd.f81 c_ref1_ops (toForms sg_ref1_ops (()))) (S_ref1_ops j).1 L (S_ref1_ops j).2 = (T_ref1_ops j).run (fun v => some (R_ref1_ops v, tps (toForms sg_ref1_ops (())))) fun j => L (S_ref1_ops j).1 (S_ref1_ops j).2 := fun L j => nomatch j
noncomputable def e_ref1_ops : Run := entT sg_ref1_ops R_ref1_ops (fun a => v_ref1_ops)
theorem ok_ref1_ops : EntOK Go.Proofs.Tryd.prog 81 e_ref1_ops := entT_ok (tb := tb_ref1_ops) (c := c_ref1_ops) tk_ref1_ops (by kernel_rfl) (by kernel_rfl) (by kernel_rfl) (fun a => by kernel_rfl) fun _ => evF_goes (c := c_ref1_ops) (K := fun v => (R_ref1_ops v, tps (toForms sg_ref1_ops (())))) (S := S_ref1_ops) (by kernel_rfl) (en_ref1_ops) (lp_ref1_ops) (g_ref1_ops)
end Go.Ev
end

section
set_option linter.unusedSectionVars false
set_option linter.unusedVariables false
set_option linter.unusedSimpArgs false
set_option maxRecDepth 100000
set_option linter.unusedVariables false
open Go Go.Ev
namespace Go.Ev
/-! ### paling/palingref1.conds -/
def sg_ref1_conds : Sig := []
noncomputable def t_ref1_conds : Tbl := []
theorem tk_ref1_conds : ∀ p ∈ t_ref1_conds, EntOK Go.Proofs.Tryd.prog p.1 p.2 := tbl_nil
noncomputable def c_ref1_conds : Code := Go.Proofs.Tryd.f82.body.getD .skip
def tb_ref1_conds : Tb := []
def T_ref1_conds : Empty → JT Empty (List ByteArray) := fun j => nomatch j
def T0_ref1_conds : JT Empty (List ByteArray) :=
  .leaf ([(bs []), (bs [106, 101]), (bs [106, 110, 101]), (bs [106, 108]), (bs [106, 108, 101]), (bs [106, 103]), (bs [106, 103, 101]), (bs [106, 98]), (bs [106, 98, 101]), (bs [106, 97]), (bs [106, 97, 101])])
def v_ref1_conds : List ByteArray :=
  ([(bs []), (bs [106, 101]), (bs [106, 110, 101]), (bs [106, 108]), (bs [106, 108, 101]), (bs [106, 103]), (bs [106, 103, 101]), (bs [106, 98]), (bs [106, 98, 101]), (bs [106, 97]), (bs [106, 97, 101])])
theorem g_ref1_conds : Goes (T_ref1_conds) (T0_ref1_conds) (v_ref1_conds) :=
  Goes.leaf
def R_ref1_conds : List ByteArray → AV := fun (r : List ByteArray) => .rw 9 .str r
def S_ref1_conds : Empty → Nat × St := fun j => nomatch j
theorem en_ref1_conds (L : Lt) : entryA Go.Proofs.Tryd.prog (clOf t_ref1_conds) tb_ref1_conds Go.Proofs.Tryd.f82 c_ref1_conds L (toForms sg_ref1_conds (())) = (T0_ref1_conds).run (fun v => some (R_ref1_conds v, tps (toForms sg_ref1_conds (())))) fun j => L (S_ref1_conds j).1 (S_ref1_conds j).2 := by kernel_rfl
theorem lp_ref1_conds : ∀ (L : Lt) (j : Empty), procOf (procsF Go.Proofs.Tryd.prog (clOf t_ref1_conds) tb_ref1_conds Go.Proofs.Tryd.f82 c_ref1_conds (toForms sg_ref1_conds (()))) (S_ref1_conds j).1 L (S_ref1_conds j).2 = (T_ref1_conds j).run (fun v => some (R_ref1_conds v, tps (toForms sg_ref1_conds (())))) fun j => L (S_ref1_conds j).1 (S_ref1_conds j).2 := fun L j => nomatch j
noncomputable def e_ref1_conds : Run := entT sg_ref1_conds R_ref1_conds (fun a => v_ref1_conds)
theorem ok_ref1_conds : EntOK Go.Proofs.Tryd.prog 82 e_ref1_conds := entT_ok (tb := tb_ref1_conds) (c := c_ref1_conds) tk_ref1_conds (by kernel_rfl) (by kernel_rfl) (by kernel_rfl) (fun a => by kernel_rfl) fun _ => evF_goes (c := c_ref1_conds) (K := fun v => (R_ref1_conds v, tps (toForms sg_ref1_conds (())))) (S := S_ref1_conds) (by kernel_rfl) (en_ref1_conds) (lp_ref1_conds) (g_ref1_conds)
end Go.Ev
end

section
set_option linter.unusedSectionVars false
set_option linter.unusedVariables false
set_option linter.unusedSimpArgs false
set_option maxRecDepth 100000
set_option linter.unusedVariables false
open Go Go.Ev
namespace Go.Ev
/-! ### paling/palingref1.Word -/
def sg_ref1_Word : Sig := [(false, .str)]
noncomputable def t_ref1_Word : Tbl := [(80, e_ref1_Regs), (66, e_ref1_index), (81, e_ref1_ops), (82, e_ref1_conds)]
theorem tk_ref1_Word : ∀ p ∈ t_ref1_Word, EntOK Go.Proofs.Tryd.prog p.1 p.2 := tbl_cons ok_ref1_Regs (tbl_cons ok_ref1_index (tbl_cons ok_ref1_ops (tbl_cons ok_ref1_conds (tbl_nil))))
noncomputable def c_ref1_Word : Code := Go.Proofs.Tryd.f62.body.getD .skip
def tb_ref1_Word : Tb := []
def T_ref1_Word (s : ByteArray) : Empty → JT Empty (Bool) := fun j => nomatch j
def T0_ref1_Word (s : ByteArray) : JT Empty (Bool) :=
  .br (! (eqB s (bs [])))
    (.br (eqB s (bs [115, 121, 109]))
      (.leaf true)
    (.br (eqB s (bs [116, 104, 114, 101, 97, 100]))
      (.leaf true)
    (.br (eqB s (bs [108, 111, 99, 107]))
      (.leaf true)
    (.br (k_ref1_index v_ref1_Regs s)
      (.br (decide ((v_ref1_index v_ref1_Regs s) ≥ (0 : Int)))
        (.leaf true)
      (.br (k_ref1_index v_ref1_ops s)
        (.br (decide ((v_ref1_index v_ref1_ops s) > (0 : Int)))
          (.leaf true)
        (.br (k_ref1_index v_ref1_conds s)
          (.leaf (decide ((v_ref1_index v_ref1_conds s) > (0 : Int))))
        (.no)))
      (.no)))
    (.no)))))
  (.leaf false)
def u_ref1_Word (s : ByteArray) : Bool :=
  bif (! (eqB s (bs []))) then
    bif (eqB s (bs [115, 121, 109])) then
      true
    else bif (eqB s (bs [116, 104, 114, 101, 97, 100])) then
      true
    else bif (eqB s (bs [108, 111, 99, 107])) then
      true
    else bif (k_ref1_index v_ref1_Regs s) then
      bif (decide ((v_ref1_index v_ref1_Regs s) ≥ (0 : Int))) then
        true
      else bif (k_ref1_index v_ref1_ops s) then
        bif (decide ((v_ref1_index v_ref1_ops s) > (0 : Int))) then
          true
        else bif (k_ref1_index v_ref1_conds s) then
          (decide ((v_ref1_index v_ref1_conds s) > (0 : Int)))
        else false
      else false
    else false
  else false
def ku_ref1_Word (s : ByteArray) : Bool :=
  bif (! (eqB s (bs []))) then
    bif (eqB s (bs [115, 121, 109])) then
      true
    else bif (eqB s (bs [116, 104, 114, 101, 97, 100])) then
      true
    else bif (eqB s (bs [108, 111, 99, 107])) then
      true
    else bif (k_ref1_index v_ref1_Regs s) then
      bif (decide ((v_ref1_index v_ref1_Regs s) ≥ (0 : Int))) then
        true
      else bif (k_ref1_index v_ref1_ops s) then
        bif (decide ((v_ref1_index v_ref1_ops s) > (0 : Int))) then
          true
        else bif (k_ref1_index v_ref1_conds s) then
          true
        else false
      else false
    else false
  else true
theorem gu_ref1_Word (s : ByteArray) (hk : ku_ref1_Word s = true) : Goes (T_ref1_Word s) (T0_ref1_Word s) (u_ref1_Word s) :=
  Goes.brk hk (fun hk =>
    Goes.brk hk (fun hk =>
      Goes.leaf) (fun hk =>
      Goes.brk hk (fun hk =>
        Goes.leaf) (fun hk =>
        Goes.brk hk (fun hk =>
          Goes.leaf) (fun hk =>
          Goes.brk hk (fun hk =>
            Goes.brk hk (fun hk =>
              Goes.leaf) (fun hk =>
              Goes.brk hk (fun hk =>
                Goes.brk hk (fun hk =>
                  Goes.leaf) (fun hk =>
                  Goes.brk hk (fun hk =>
                    Goes.leaf) (fun hk =>
                    Goes.nok hk))) (fun hk =>
                Goes.nok hk))) (fun hk =>
            Goes.nok hk))))) (fun hk =>
    Goes.leaf)
def R_ref1_Word : Bool → AV := fun (r : Bool) => .d .bool r
def S_ref1_Word (s : ByteArray) : Empty → Nat × St := fun j => nomatch j
theorem en_ref1_Word (s : ByteArray) (L : Lt) : entryA Go.Proofs.Tryd.prog (clOf t_ref1_Word) tb_ref1_Word Go.Proofs.Tryd.f62 c_ref1_Word L (toForms sg_ref1_Word (s, ())) = (T0_ref1_Word s).run (fun v => some (R_ref1_Word v, tps (toForms sg_ref1_Word (s, ())))) fun j => L (S_ref1_Word s j).1 (S_ref1_Word s j).2 := by kernel_rfl
theorem lp_ref1_Word (s : ByteArray) : ∀ (L : Lt) (j : Empty), procOf (procsF Go.Proofs.Tryd.prog (clOf t_ref1_Word) tb_ref1_Word Go.Proofs.Tryd.f62 c_ref1_Word (toForms sg_ref1_Word (s, ()))) (S_ref1_Word s j).1 L (S_ref1_Word s j).2 = (T_ref1_Word s j).run (fun v => some (R_ref1_Word v, tps (toForms sg_ref1_Word (s, ())))) fun j => L (S_ref1_Word s j).1 (S_ref1_Word s j).2 := fun L j => nomatch j
end Go.Ev
end

section
set_option linter.unusedSectionVars false
set_option linter.unusedVariables false
set_option linter.unusedSimpArgs false
set_option linter.unusedVariables false
set_option linter.unusedSimpArgs false
open Go
namespace Go.Ev

def v_ref1_Word (s : ByteArray) : Bool := v_names_Word s
theorem g_ref1_Word (s : ByteArray) : Goes (T_ref1_Word s) (T0_ref1_Word s) (v_ref1_Word s) := by
  have hk : ∀ l : List ByteArray, l.length < 100 → k_ref1_index l s = true := fun l h => decide_eq_true (by omega)
  have h1 : k_ref1_index v_ref1_Regs s = true := hk _ (by decide)
  have h2 : k_ref1_index v_ref1_ops s = true := hk _ (by decide)
  have h3 : k_ref1_index v_ref1_conds s = true := hk _ (by decide)
  have hku : ku_ref1_Word s = true := by
    unfold ku_ref1_Word
    simp only [h1, h2, h3, cond_true]
    cases eqB s (bs []) <;> cases eqB s (bs [115, 121, 109]) <;> cases eqB s (bs [116, 104, 114, 101, 97, 100]) <;> cases eqB s (bs [108, 111, 99, 107]) <;> cases decide (v_ref1_index v_ref1_Regs s ≥ 0) <;> cases decide (v_ref1_index v_ref1_ops s > 0) <;> rfl
  have hv : v_ref1_Word s = u_ref1_Word s := by
    unfold v_ref1_Word u_ref1_Word v_names_Word
    simp only [h1, h2, h3, cond_true, eqB_eq]
    have hr : decide (v_ref1_index v_ref1_Regs s ≥ 0) = (findFrom s v_names_regs 0).isSome := by
      unfold v_ref1_index
      rw [show v_ref1_Regs = v_names_regs from rfl]
      cases findFrom s v_names_regs 0 <;> simp
    have hR : (v_names_Reg s).2 = (findFrom s v_names_regs 0).isSome := by
      unfold v_names_Reg
      cases findFrom s v_names_regs 0 <;> rfl
    rw [hr, hR]
    by_cases h0 : s = bs []
    · subst h0
      decide
    have hidx : ∀ l : List ByteArray, decide (v_ref1_index (bs [] :: l) s > 0) = (findFrom s l 0).isSome := by
      intro l
      unfold v_ref1_index
      rw [show findFrom s (bs [] :: l) 0 = findFrom s l (0 + 1) by rw [findFrom, if_neg (fun e => h0 e.symm)], findFrom_shift (k := 0) (j := 0 + 1)]
      cases h : findFrom s l (0 + 1) with
      | none => simp
      | some n => have := findFrom_some h; simp; omega
    have ho := hidx v_names_ops
    have hj := hidx v_names_jumps
    rw [show v_ref1_ops = bs [] :: v_names_ops from rfl, ho, show v_ref1_conds = bs [] :: v_names_jumps from rfl, hj]
    have hO : (v_names_Op s).2.2 = ((findFrom s v_names_ops 0).isSome || (findFrom s v_names_jumps 0).isSome) := by
      unfold v_names_Op
      rw [if_neg h0]
      cases findFrom s v_names_ops 0 with
      | some k => rfl
      | none => cases findFrom s v_names_jumps 0 <;> rfl
    rw [hO]
    simp only [h0, decide_false, Bool.not_false, cond_true]
    cases (findFrom s v_names_ops 0).isSome <;> cases (findFrom s v_names_jumps 0).isSome <;> rfl
  rw [hv]
  exact gu_ref1_Word s hku

end Go.Ev
end

section
set_option linter.unusedSectionVars false
set_option linter.unusedVariables false
set_option linter.unusedSimpArgs false
set_option maxRecDepth 100000
set_option linter.unusedVariables false
open Go Go.Ev
namespace Go.Ev
noncomputable def e_ref1_Word : Run := entT sg_ref1_Word R_ref1_Word (fun a => v_ref1_Word a.1)
theorem ok_ref1_Word : EntOK Go.Proofs.Tryd.prog 62 e_ref1_Word := entT_ok (tb := tb_ref1_Word) (c := c_ref1_Word) tk_ref1_Word (by kernel_rfl) (by kernel_rfl) (by kernel_rfl) (fun a => by kernel_rfl) fun ⟨s, _⟩ => evF_goes (c := c_ref1_Word) (K := fun v => (R_ref1_Word v, tps (toForms sg_ref1_Word (s, ())))) (S := S_ref1_Word s) (by kernel_rfl) (en_ref1_Word s) (lp_ref1_Word s) (g_ref1_Word s)
end Go.Ev
end

section
set_option linter.unusedSectionVars false
set_option linter.unusedVariables false
set_option linter.unusedSimpArgs false
set_option maxRecDepth 100000
set_option linter.unusedVariables false
open Go Go.Ev
namespace Go.Ev
/-! ### paling/palingref1.Letter -/
def sg_ref1_Letter : Sig := [(false, (.int .i32))]
noncomputable def t_ref1_Letter : Tbl := []
theorem tk_ref1_Letter : ∀ p ∈ t_ref1_Letter, EntOK Go.Proofs.Tryd.prog p.1 p.2 := tbl_nil
noncomputable def c_ref1_Letter : Code := Go.Proofs.Tryd.f63.body.getD .skip
def tb_ref1_Letter : Tb := []
def T_ref1_Letter (r : Int) : Empty → JT Empty (Bool) := fun j => nomatch j
def T0_ref1_Letter (r : Int) : JT Empty (Bool) :=
  .br (decide (r ≥ (97 : Int)))
    (.br (decide (r ≤ (122 : Int)))
      (.leaf true)
    (.br (decide (r ≥ (65 : Int)))
      (.br (decide (r ≤ (90 : Int)))
        (.leaf true)
      (.br (r == (95 : Int))
        (.leaf true)
      (.br (decide (r ≥ (161 : Int)))
        (.leaf (decide (r ≤ (1114111 : Int))))
      (.leaf false))))
    (.br (r == (95 : Int))
      (.leaf true)
    (.br (decide (r ≥ (161 : Int)))
      (.leaf (decide (r ≤ (1114111 : Int))))
    (.leaf false)))))
  (.br (decide (r ≥ (65 : Int)))
    (.br (decide (r ≤ (90 : Int)))
      (.leaf true)
    (.br (r == (95 : Int))
      (.leaf true)
    (.br (decide (r ≥ (161 : Int)))
      (.leaf (decide (r ≤ (1114111 : Int))))
    (.leaf false))))
  (.br (r == (95 : Int))
    (.leaf true)
  (.br (decide (r ≥ (161 : Int)))
    (.leaf (decide (r ≤ (1114111 : Int))))
  (.leaf false))))
def v_ref1_Letter (r : Int) : Bool :=
  bif (decide (r ≥ (97 : Int))) then
    bif (decide (r ≤ (122 : Int))) then
      true
    else bif (decide (r ≥ (65 : Int))) then
      bif (decide (r ≤ (90 : Int))) then
        true
      else bif (r == (95 : Int)) then
        true
      else bif (decide (r ≥ (161 : Int))) then
        (decide (r ≤ (1114111 : Int)))
      else false
    else bif (r == (95 : Int)) then
      true
    else bif (decide (r ≥ (161 : Int))) then
      (decide (r ≤ (1114111 : Int)))
    else false
  else bif (decide (r ≥ (65 : Int))) then
    bif (decide (r ≤ (90 : Int))) then
      true
    else bif (r == (95 : Int)) then
      true
    else bif (decide (r ≥ (161 : Int))) then
      (decide (r ≤ (1114111 : Int)))
    else false
  else bif (r == (95 : Int)) then
    true
  else bif (decide (r ≥ (161 : Int))) then
    (decide (r ≤ (1114111 : Int)))
  else false
theorem g_ref1_Letter (r : Int) : Goes (T_ref1_Letter r) (T0_ref1_Letter r) (v_ref1_Letter r) :=
  Goes.br (
    Goes.br (
      Goes.leaf) (
      Goes.br (
        Goes.br (
          Goes.leaf) (
          Goes.br (
            Goes.leaf) (
            Goes.br (
              Goes.leaf) (
              Goes.leaf)))) (
        Goes.br (
          Goes.leaf) (
          Goes.br (
            Goes.leaf) (
            Goes.leaf))))) (
    Goes.br (
      Goes.br (
        Goes.leaf) (
        Goes.br (
          Goes.leaf) (
          Goes.br (
            Goes.leaf) (
            Goes.leaf)))) (
      Goes.br (
        Goes.leaf) (
        Goes.br (
          Goes.leaf) (
          Goes.leaf))))
def R_ref1_Letter : Bool → AV := fun (r : Bool) => .d .bool r
def S_ref1_Letter (r : Int) : Empty → Nat × St := fun j => nomatch j
theorem en_ref1_Letter (r : Int) (L : Lt) : entryA Go.Proofs.Tryd.prog (clOf t_ref1_Letter) tb_ref1_Letter Go.Proofs.Tryd.f63 c_ref1_Letter L (toForms sg_ref1_Letter (r, ())) = (T0_ref1_Letter r).run (fun v => some (R_ref1_Letter v, tps (toForms sg_ref1_Letter (r, ())))) fun j => L (S_ref1_Letter r j).1 (S_ref1_Letter r j).2 := by kernel_rfl
theorem lp_ref1_Letter (r : Int) : ∀ (L : Lt) (j : Empty), procOf (procsF Go.Proofs.Tryd.prog (clOf t_ref1_Letter) tb_ref1_Letter Go.Proofs.Tryd.f63 c_ref1_Letter (toForms sg_ref1_Letter (r, ()))) (S_ref1_Letter r j).1 L (S_ref1_Letter r j).2 = (T_ref1_Letter r j).run (fun v => some (R_ref1_Letter v, tps (toForms sg_ref1_Letter (r, ())))) fun j => L (S_ref1_Letter r j).1 (S_ref1_Letter r j).2 := fun L j => nomatch j
noncomputable def e_ref1_Letter : Run := entT sg_ref1_Letter R_ref1_Letter (fun a => v_ref1_Letter a.1)
theorem ok_ref1_Letter : EntOK Go.Proofs.Tryd.prog 63 e_ref1_Letter := entT_ok (tb := tb_ref1_Letter) (c := c_ref1_Letter) tk_ref1_Letter (by kernel_rfl) (by kernel_rfl) (by kernel_rfl) (fun a => by kernel_rfl) fun ⟨r, _⟩ => evF_goes (c := c_ref1_Letter) (K := fun v => (R_ref1_Letter v, tps (toForms sg_ref1_Letter (r, ())))) (S := S_ref1_Letter r) (by kernel_rfl) (en_ref1_Letter r) (lp_ref1_Letter r) (g_ref1_Letter r)
end Go.Ev
end

section
set_option linter.unusedSectionVars false
set_option linter.unusedVariables false
set_option linter.unusedSimpArgs false
set_option maxRecDepth 100000
set_option linter.unusedVariables false
open Go Go.Ev
namespace Go.Ev
/-! ### paling/palingref1.Digit -/
def sg_ref1_Digit : Sig := [(false, (.int .i32))]
noncomputable def t_ref1_Digit : Tbl := []
theorem tk_ref1_Digit : ∀ p ∈ t_ref1_Digit, EntOK Go.Proofs.Tryd.prog p.1 p.2 := tbl_nil
noncomputable def c_ref1_Digit : Code := Go.Proofs.Tryd.f64.body.getD .skip
def tb_ref1_Digit : Tb := []
def T_ref1_Digit (r : Int) : Empty → JT Empty (Bool) := fun j => nomatch j
def T0_ref1_Digit (r : Int) : JT Empty (Bool) :=
  .br (decide (r ≥ (48 : Int)))
    (.leaf (decide (r ≤ (57 : Int))))
  (.leaf false)
def v_ref1_Digit (r : Int) : Bool :=
  bif (decide (r ≥ (48 : Int))) then
    (decide (r ≤ (57 : Int)))
  else false
theorem g_ref1_Digit (r : Int) : Goes (T_ref1_Digit r) (T0_ref1_Digit r) (v_ref1_Digit r) :=
  Goes.br (
    Goes.leaf) (
    Goes.leaf)
def R_ref1_Digit : Bool → AV := fun (r : Bool) => .d .bool r
def S_ref1_Digit (r : Int) : Empty → Nat × St := fun j => nomatch j
theorem en_ref1_Digit (r : Int) (L : Lt) : entryA Go.Proofs.Tryd.prog (clOf t_ref1_Digit) tb_ref1_Digit Go.Proofs.Tryd.f64 c_ref1_Digit L (toForms sg_ref1_Digit (r, ())) = (T0_ref1_Digit r).run (fun v => some (R_ref1_Digit v, tps (toForms sg_ref1_Digit (r, ())))) fun j => L (S_ref1_Digit r j).1 (S_ref1_Digit r j).2 := by kernel_rfl
theorem lp_ref1_Digit (r : Int) : ∀ (L : Lt) (j : Empty), procOf (procsF Go.Proofs.Tryd.prog (clOf t_ref1_Digit) tb_ref1_Digit Go.Proofs.Tryd.f64 c_ref1_Digit (toForms sg_ref1_Digit (r, ()))) (S_ref1_Digit r j).1 L (S_ref1_Digit r j).2 = (T_ref1_Digit r j).run (fun v => some (R_ref1_Digit v, tps (toForms sg_ref1_Digit (r, ())))) fun j => L (S_ref1_Digit r j).1 (S_ref1_Digit r j).2 := fun L j => nomatch j
noncomputable def e_ref1_Digit : Run := entT sg_ref1_Digit R_ref1_Digit (fun a => v_ref1_Digit a.1)
theorem ok_ref1_Digit : EntOK Go.Proofs.Tryd.prog 64 e_ref1_Digit := entT_ok (tb := tb_ref1_Digit) (c := c_ref1_Digit) tk_ref1_Digit (by kernel_rfl) (by kernel_rfl) (by kernel_rfl) (fun a => by kernel_rfl) fun ⟨r, _⟩ => evF_goes (c := c_ref1_Digit) (K := fun v => (R_ref1_Digit v, tps (toForms sg_ref1_Digit (r, ())))) (S := S_ref1_Digit r) (by kernel_rfl) (en_ref1_Digit r) (lp_ref1_Digit r) (g_ref1_Digit r)
end Go.Ev
end

section
set_option linter.unusedSectionVars false
set_option linter.unusedVariables false
set_option linter.unusedSimpArgs false
set_option maxRecDepth 100000
set_option linter.unusedVariables false
open Go Go.Ev
namespace Go.Ev
/-! ### paling/palingref1.Right -/
def sg_ref1_Right : Sig := [(false, .str)]
noncomputable def t_ref1_Right : Tbl := [(61, e_ref1_Spots), (62, e_ref1_Word), (63, e_ref1_Letter), (64, e_ref1_Digit)]
theorem tk_ref1_Right : ∀ p ∈ t_ref1_Right, EntOK Go.Proofs.Tryd.prog p.1 p.2 := tbl_cons ok_ref1_Spots (tbl_cons ok_ref1_Word (tbl_cons ok_ref1_Letter (tbl_cons ok_ref1_Digit (tbl_nil))))
noncomputable def c_ref1_Right : Code := Go.Proofs.Tryd.f52.body.getD .skip
def tb_ref1_Right : Tb := [(7, ⟨[3, 4], []⟩)]
inductive J_ref1_Right where
  | l7 (i : Int)
def T_ref1_Right (s : ByteArray) : J_ref1_Right → JT J_ref1_Right (Bool)
  | .l7 i =>
    .br (decide (i < (Int.ofNat (List.length (v_ref1_Spots s)))))
      (.br ((decide ((0 : Int) ≤ i)) && (decide (i < (Int.ofNat (List.length (v_ref1_Spots s))))))
        (.br (List.getD (v_ref1_Spots s) (Int.toNat i) (dflt T_ref1_Spot)).2.2.2.2.2
          (.leaf false)
        (.br ((decide ((0 : Int) ≤ i)) && (decide (i < (Int.ofNat (List.length (v_ref1_Spots s))))))
          (.br (! (v_ref1_Letter (List.getD (v_ref1_Spots s) (Int.toNat i) (dflt T_ref1_Spot)).1))
            (.br (i == (0 : Int))
              (.leaf false)
            (.br ((decide ((0 : Int) ≤ i)) && (decide (i < (Int.ofNat (List.length (v_ref1_Spots s))))))
              (.br (! (v_ref1_Digit (List.getD (v_ref1_Spots s) (Int.toNat i) (dflt T_ref1_Spot)).1))
                (.leaf false)
              (.jmp (.l7 (IntKind.i64.wrap (i + (1 : Int))))))
            (.no)))
          (.jmp (.l7 (IntKind.i64.wrap (i + (1 : Int))))))
        (.no)))
      (.no))
    (.leaf true)
def T0_ref1_Right (s : ByteArray) : JT J_ref1_Right (Bool) :=
  .br (k_ref1_Spots s)
    (.br (decide ((Int.ofNat (List.length (v_ref1_Spots s))) < (1 : Int)))
      (.leaf false)
    (.br (decide ((Int.ofNat (List.length (v_ref1_Spots s))) > (16 : Int)))
      (.leaf false)
    (.br (v_ref1_Word s)
      (.leaf false)
    (.jmp (.l7 (0 : Int))))))
  (.no)
def R_ref1_Right : Bool → AV := fun (r : Bool) => .d .bool r
def S_ref1_Right (s : ByteArray) : J_ref1_Right → Nat × St
  | .l7 i => (7, ⟨mkTm 52 [(3, .own 4 0 none), (4, .d (.int .i64) i)], [(4, 0, .row 102 T_ref1_Spot (v_ref1_Spots s) false)]⟩)
theorem en_ref1_Right (s : ByteArray) (L : Lt) : entryA Go.Proofs.Tryd.prog (clOf t_ref1_Right) tb_ref1_Right Go.Proofs.Tryd.f52 c_ref1_Right L (toForms sg_ref1_Right (s, ())) = (T0_ref1_Right s).run (fun v => some (R_ref1_Right v, tps (toForms sg_ref1_Right (s, ())))) fun j => L (S_ref1_Right s j).1 (S_ref1_Right s j).2 := by kernel_rfl
theorem lp_ref1_Right (s : ByteArray) : ∀ (L : Lt) (j : J_ref1_Right), procOf (procsF Go.Proofs.Tryd.prog (clOf t_ref1_Right) tb_ref1_Right Go.Proofs.Tryd.f52 c_ref1_Right (toForms sg_ref1_Right (s, ()))) (S_ref1_Right s j).1 L (S_ref1_Right s j).2 = (T_ref1_Right s j).run (fun v => some (R_ref1_Right v, tps (toForms sg_ref1_Right (s, ())))) fun j => L (S_ref1_Right s j).1 (S_ref1_Right s j).2
  | L, .l7 i => by kernel_rfl
end Go.Ev
end

section
set_option linter.unusedSectionVars false
set_option linter.unusedVariables false
set_option linter.unusedSimpArgs false
set_option linter.unusedVariables false
set_option linter.unusedSimpArgs false
open Go
namespace Go.Ev

def v_ref1_Right (s : ByteArray) : Bool := nameRight s
def k_ref1_Right (s : ByteArray) : Bool := smallText s
theorem g_ref1_Right (s : ByteArray) (hk : k_ref1_Right s = true) : Goes (T_ref1_Right s) (T0_ref1_Right s) (v_ref1_Right s) := by
  have hs : s.size < 549755813888 := of_decide_eq_true hk
  have hl : (v_ref1_Spots s).length ≤ s.size := spots_length s
  have loop : ∀ k, k ≤ (v_ref1_Spots s).length → Goes (T_ref1_Right s) (.jmp (.l7 (k : Int))) (spotsOK k ((v_ref1_Spots s).drop k)) := by
    refine down ?_ fun k hk ih => ?_
    · rw [goes_jmp]
      simp [T_ref1_Right, goes_br, goes_leaf, spotsOK]
    · rw [goes_jmp]
      dsimp only [T_ref1_Right]
      simp only [goes_br, goes_leaf, lt_len hk, nng, Bool.and_self, if_true, Int.toNat_natCast, getD_lt hk, wrap_succ (k := k) (by omega)]
      rw [drop_cons hk, spotsOK]
      generalize (v_ref1_Spots s)[k] = x at *
      unfold spotOK
      rw [show v_ref1_Letter = v_glyph_Letter from rfl, show v_ref1_Digit = v_glyph_Digit from rfl]
      cases x.2.2.2.2.2
      · cases v_glyph_Letter x.1
        · by_cases h0 : k = 0
          · subst h0; simp
          · have e1 : ((k : Int) == 0) = false := by rw [Bool.eq_false_iff]; simp; omega
            have e2 : (k == 0) = false := by rw [Bool.eq_false_iff]; simpa using h0
            cases v_glyph_Digit x.1
            · simp [e1, e2]
            · simpa [e1, e2] using ih
        · simpa using ih
      · simp
  have hv : v_ref1_Right s = (spotsOK 0 (v_ref1_Spots s) && (decide (1 ≤ (v_ref1_Spots s).length) && (decide ((v_ref1_Spots s).length ≤ 16) && !v_names_Word s))) := rfl
  rw [hv]
  unfold T0_ref1_Right
  simp only [goes_br, show k_ref1_Spots s = true from hk, if_true, v_ref1_Word, goes_leaf]
  by_cases h1 : 1 ≤ (v_ref1_Spots s).length
  · by_cases h2 : (v_ref1_Spots s).length ≤ 16
    · cases v_names_Word s
      · rw [if_neg (by simp <;> omega), if_neg (by simp <;> omega)]
        simpa [h1, h2] using loop 0 (Nat.zero_le _)
      · rw [if_neg (by simp <;> omega), if_neg (by simp <;> omega)]
        simp
    · rw [if_neg (by simp <;> omega), if_pos (by simp <;> omega)]
      simp [h2]
  · rw [if_pos (by simp <;> omega)]
    simp [h1]

end Go.Ev
end

section
set_option linter.unusedSectionVars false
set_option linter.unusedVariables false
set_option linter.unusedSimpArgs false
set_option maxRecDepth 100000
set_option linter.unusedVariables false
open Go Go.Ev
namespace Go.Ev
noncomputable def e_ref1_Right : Run := entG sg_ref1_Right R_ref1_Right (fun a => k_ref1_Right a.1) (fun a => v_ref1_Right a.1)
theorem ok_ref1_Right : EntOK Go.Proofs.Tryd.prog 52 e_ref1_Right := entG_ok (tb := tb_ref1_Right) (c := c_ref1_Right) tk_ref1_Right (by kernel_rfl) (by kernel_rfl) (by kernel_rfl) (fun a => by kernel_rfl) fun ⟨s, _⟩ hk => evF_goes (c := c_ref1_Right) (K := fun v => (R_ref1_Right v, tps (toForms sg_ref1_Right (s, ())))) (S := S_ref1_Right s) (by kernel_rfl) (en_ref1_Right s) (lp_ref1_Right s) (g_ref1_Right s hk)
end Go.Ev
end

section
set_option linter.unusedSectionVars false
set_option linter.unusedVariables false
set_option linter.unusedSimpArgs false
set_option maxRecDepth 100000
set_option linter.unusedVariables false
open Go Go.Ev
namespace Go.Ev
/-! ### paling/palingref1.Count -/
def sg_ref1_Count : Sig := [(true, (.sl T_api_Ins))]
noncomputable def t_ref1_Count : Tbl := []
theorem tk_ref1_Count : ∀ p ∈ t_ref1_Count, EntOK Go.Proofs.Tryd.prog p.1 p.2 := tbl_nil
noncomputable def c_ref1_Count : Code := Go.Proofs.Tryd.f65.body.getD .skip
def tb_ref1_Count : Tb := [(4, ⟨[1, 3, 4], []⟩)]
inductive J_ref1_Count where
  | l4 (n : Int) (i : Int)
def T_ref1_Count (t : List (El T_api_Ins)) : J_ref1_Count → JT J_ref1_Count (Int)
  | .l4 n i =>
    .br (decide (i < (Int.ofNat (List.length t))))
      (.br ((decide ((0 : Int) ≤ i)) && (decide (i < (Int.ofNat (List.length t)))))
        (.br ((List.getD t (Int.toNat i) (dflt T_api_Ins)).1 != (12 : Int))
          (.jmp (.l4 (IntKind.i64.wrap (n + (1 : Int))) (IntKind.i64.wrap (i + (1 : Int)))))
        (.jmp (.l4 n (IntKind.i64.wrap (i + (1 : Int))))))
      (.no))
    (.leaf n)
def T0_ref1_Count (t : List (El T_api_Ins)) : JT J_ref1_Count (Int) :=
  .jmp (.l4 (0 : Int) (0 : Int))
def R_ref1_Count : Int → AV := fun (r : Int) => .d (.int .i64) r
def S_ref1_Count (t : List (El T_api_Ins)) : J_ref1_Count → Nat × St
  | .l4 n i => (4, ⟨mkTm 22 [(1, .pt 2 0 0), (3, .d (.int .i64) n), (4, .d (.int .i64) i)], [(2, 0, .box 58 [.d (.sl T_api_Ins) t] none)]⟩)
theorem en_ref1_Count (t : List (El T_api_Ins)) (L : Lt) : entryA Go.Proofs.Tryd.prog (clOf t_ref1_Count) tb_ref1_Count Go.Proofs.Tryd.f65 c_ref1_Count L (toForms sg_ref1_Count (t, ())) = (T0_ref1_Count t).run (fun v => some (R_ref1_Count v, tps (toForms sg_ref1_Count (t, ())))) fun j => L (S_ref1_Count t j).1 (S_ref1_Count t j).2 := by kernel_rfl
theorem lp_ref1_Count (t : List (El T_api_Ins)) : ∀ (L : Lt) (j : J_ref1_Count), procOf (procsF Go.Proofs.Tryd.prog (clOf t_ref1_Count) tb_ref1_Count Go.Proofs.Tryd.f65 c_ref1_Count (toForms sg_ref1_Count (t, ()))) (S_ref1_Count t j).1 L (S_ref1_Count t j).2 = (T_ref1_Count t j).run (fun v => some (R_ref1_Count v, tps (toForms sg_ref1_Count (t, ())))) fun j => L (S_ref1_Count t j).1 (S_ref1_Count t j).2
  | L, .l4 n i => by kernel_rfl
end Go.Ev
end

section
set_option linter.unusedSectionVars false
set_option linter.unusedVariables false
set_option linter.unusedSimpArgs false
set_option linter.unusedVariables false
set_option linter.unusedSimpArgs false
open Go
namespace Go.Ev
def v_ref1_Count (t : List (El T_api_Ins)) : Int := (countM t : Int)
def k_ref1_Count (t : List (El T_api_Ins)) : Bool := decide (t.length < 1099511627776)
theorem g_ref1_Count (t : List (El T_api_Ins)) (hk : k_ref1_Count t = true) : Goes (T_ref1_Count t) (T0_ref1_Count t) (v_ref1_Count t) := by
  have hn : t.length < 1099511627776 := of_decide_eq_true hk
  have loop : ∀ k, k ≤ t.length → ∀ n : Nat, n ≤ k → Goes (T_ref1_Count t) (.jmp (.l4 (n : Int) (k : Int))) ((n + countM (t.drop k) : Nat) : Int) := by
    refine down ?_ fun k hk ih => ?_
    · intro n hnk
      rw [goes_jmp]
      simp only [T_ref1_Count, goes_br, lt_len_not (Nat.lt_irrefl _), goes_leaf, List.drop_length]
      simp [countM]
    · intro n hnk
      rw [goes_jmp]
      simp only [T_ref1_Count, goes_br, lt_len hk, nng, Bool.and_self, if_true, Int.toNat_natCast, getD_lt hk, wrap_succ (k := k) (by omega), wrap_succ (k := n) (by omega)]
      rw [drop_cons hk]
      unfold countM
      rw [List.filter_cons]
      split
      · rename_i h
        have := ih (n + 1) (by omega)
        unfold countM at this
        rw [List.length_cons, show n + ((List.filter (fun i => i.1 != (12 : Int)) (List.drop (k + 1) t)).length + 1) = n + 1 + (List.filter (fun i => i.1 != (12 : Int)) (List.drop (k + 1) t)).length by omega]
        exact this
      · exact ih n (by omega)
  have := loop 0 (Nat.zero_le _) 0 (Nat.le_refl _)
  unfold T0_ref1_Count v_ref1_Count
  simpa using this
end Go.Ev
end

section
set_option linter.unusedSectionVars false
set_option linter.unusedVariables false
set_option linter.unusedSimpArgs false
set_option maxRecDepth 100000
set_option linter.unusedVariables false
open Go Go.Ev
namespace Go.Ev
noncomputable def e_ref1_Count : Run := entG sg_ref1_Count R_ref1_Count (fun a => k_ref1_Count a.1) (fun a => v_ref1_Count a.1)
theorem ok_ref1_Count : EntOK Go.Proofs.Tryd.prog 65 e_ref1_Count := entG_ok (tb := tb_ref1_Count) (c := c_ref1_Count) tk_ref1_Count (by kernel_rfl) (by kernel_rfl) (by kernel_rfl) (fun a => by kernel_rfl) fun ⟨t, _⟩ hk => evF_goes (c := c_ref1_Count) (K := fun v => (R_ref1_Count v, tps (toForms sg_ref1_Count (t, ())))) (S := S_ref1_Count t) (by kernel_rfl) (en_ref1_Count t) (lp_ref1_Count t) (g_ref1_Count t hk)
end Go.Ev
end

section
set_option linter.unusedSectionVars false
set_option linter.unusedVariables false
set_option linter.unusedSimpArgs false
set_option maxRecDepth 100000
set_option linter.unusedVariables false
open Go Go.Ev
namespace Go.Ev
/-! ### paling/palingref1.InsRight -/
def sg_ref1_InsRight : Sig := [(true, T_api_Ins)]
noncomputable def t_ref1_InsRight : Tbl := [(83, e_ref1_row), (69, e_ref1_Jumps), (52, e_ref1_Right)]
theorem tk_ref1_InsRight : ∀ p ∈ t_ref1_InsRight, EntOK Go.Proofs.Tryd.prog p.1 p.2 := tbl_cons ok_ref1_row (tbl_cons ok_ref1_Jumps (tbl_cons ok_ref1_Right (tbl_nil)))
noncomputable def c_ref1_InsRight : Code := Go.Proofs.Tryd.f67.body.getD .skip
def tb_ref1_InsRight : Tb := [(2, ⟨[1, 26, 34, 37, 44, 47], []⟩), (5, ⟨[1, 49], []⟩)]
inductive J_ref1_InsRight where
  | l2 (h : Bool)
  | l5 (h : Bool)
def T_ref1_InsRight (i : El T_api_Ins) : J_ref1_InsRight → JT J_ref1_InsRight (Int)
  | .l2 h =>
    .br h
      (.leaf (4 : Int))
    (.br (i.1 == (11 : Int))
      (.br (decide (i.2.2.1 < (1 : Int)))
        (.jmp (.l5 true))
      (.br (decide (i.2.2.1 > (10 : Int)))
        (.jmp (.l5 true))
      (.br (i.1 != (11 : Int))
        (.jmp (.l5 (i.2.2.1 != (0 : Int))))
      (.jmp (.l5 false)))))
    (.br (i.1 != (11 : Int))
      (.jmp (.l5 (i.2.2.1 != (0 : Int))))
    (.jmp (.l5 false))))
  | .l5 h =>
    .br h
      (.leaf (4 : Int))
    (.br (v_ref1_Jumps i.1)
      (.br (k_ref1_Right i.2.2.2.2.2.1)
        (.br (! (v_ref1_Right i.2.2.2.2.2.1))
          (.leaf (3 : Int))
        (.leaf (0 : Int)))
      (.no))
    (.leaf (0 : Int)))
def T0_ref1_InsRight (i : El T_api_Ins) : JT J_ref1_InsRight (Int) :=
  .br (decide (i.1 < (1 : Int)))
    (.jmp (.l2 true))
  (.br (decide (i.1 > (14 : Int)))
    (.jmp (.l2 true))
  (.br (! (v_ref1_row i))
    (.jmp (.l2 true))
  (.br (! (v_ref1_Jumps i.1))
    (.jmp (.l2 (! (eqB i.2.2.2.2.2.1 (bs [])))))
  (.jmp (.l2 false)))))
def v_ref1_InsRight_l5 (i : El T_api_Ins) (h : Bool) : Int :=
  bif h then
    (4 : Int)
  else bif (v_ref1_Jumps i.1) then
    bif (k_ref1_Right i.2.2.2.2.2.1) then
      bif (! (v_ref1_Right i.2.2.2.2.2.1)) then
        (3 : Int)
      else (0 : Int)
    else (0 : Int)
  else (0 : Int)
def k_ref1_InsRight_l5 (i : El T_api_Ins) (h : Bool) : Bool :=
  bif h then
    true
  else bif (v_ref1_Jumps i.1) then
    bif (k_ref1_Right i.2.2.2.2.2.1) then
      bif (! (v_ref1_Right i.2.2.2.2.2.1)) then
        true
      else true
    else false
  else true
theorem g_ref1_InsRight_l5 (i : El T_api_Ins) (h : Bool) (hk : k_ref1_InsRight_l5 i h = true) : Goes (T_ref1_InsRight i) (.jmp (.l5 h)) (v_ref1_InsRight_l5 i h) :=
  Goes.jmp (Goes.brk hk (fun hk =>
    Goes.leaf) (fun hk =>
    Goes.brk hk (fun hk =>
      Goes.brk hk (fun hk =>
        Goes.brk hk (fun hk =>
          Goes.leaf) (fun hk =>
          Goes.leaf)) (fun hk =>
        Goes.nok hk)) (fun hk =>
      Goes.leaf)))
def v_ref1_InsRight_l2 (i : El T_api_Ins) (h : Bool) : Int :=
  bif h then
    (4 : Int)
  else bif (i.1 == (11 : Int)) then
    bif (decide (i.2.2.1 < (1 : Int))) then
      v_ref1_InsRight_l5 i true
    else bif (decide (i.2.2.1 > (10 : Int))) then
      v_ref1_InsRight_l5 i true
    else bif (i.1 != (11 : Int)) then
      v_ref1_InsRight_l5 i (i.2.2.1 != (0 : Int))
    else v_ref1_InsRight_l5 i false
  else bif (i.1 != (11 : Int)) then
    v_ref1_InsRight_l5 i (i.2.2.1 != (0 : Int))
  else v_ref1_InsRight_l5 i false
def k_ref1_InsRight_l2 (i : El T_api_Ins) (h : Bool) : Bool :=
  bif h then
    true
  else bif (i.1 == (11 : Int)) then
    bif (decide (i.2.2.1 < (1 : Int))) then
      k_ref1_InsRight_l5 i true
    else bif (decide (i.2.2.1 > (10 : Int))) then
      k_ref1_InsRight_l5 i true
    else bif (i.1 != (11 : Int)) then
      k_ref1_InsRight_l5 i (i.2.2.1 != (0 : Int))
    else k_ref1_InsRight_l5 i false
  else bif (i.1 != (11 : Int)) then
    k_ref1_InsRight_l5 i (i.2.2.1 != (0 : Int))
  else k_ref1_InsRight_l5 i false
theorem g_ref1_InsRight_l2 (i : El T_api_Ins) (h : Bool) (hk : k_ref1_InsRight_l2 i h = true) : Goes (T_ref1_InsRight i) (.jmp (.l2 h)) (v_ref1_InsRight_l2 i h) :=
  Goes.jmp (Goes.brk hk (fun hk =>
    Goes.leaf) (fun hk =>
    Goes.brk hk (fun hk =>
      Goes.brk hk (fun hk =>
        g_ref1_InsRight_l5 i true hk) (fun hk =>
        Goes.brk hk (fun hk =>
          g_ref1_InsRight_l5 i true hk) (fun hk =>
          Goes.brk hk (fun hk =>
            g_ref1_InsRight_l5 i (i.2.2.1 != (0 : Int)) hk) (fun hk =>
            g_ref1_InsRight_l5 i false hk)))) (fun hk =>
      Goes.brk hk (fun hk =>
        g_ref1_InsRight_l5 i (i.2.2.1 != (0 : Int)) hk) (fun hk =>
        g_ref1_InsRight_l5 i false hk))))
def u_ref1_InsRight (i : El T_api_Ins) : Int :=
  bif (decide (i.1 < (1 : Int))) then
    v_ref1_InsRight_l2 i true
  else bif (decide (i.1 > (14 : Int))) then
    v_ref1_InsRight_l2 i true
  else bif (! (v_ref1_row i)) then
    v_ref1_InsRight_l2 i true
  else bif (! (v_ref1_Jumps i.1)) then
    v_ref1_InsRight_l2 i (! (eqB i.2.2.2.2.2.1 (bs [])))
  else v_ref1_InsRight_l2 i false
def ku_ref1_InsRight (i : El T_api_Ins) : Bool :=
  bif (decide (i.1 < (1 : Int))) then
    k_ref1_InsRight_l2 i true
  else bif (decide (i.1 > (14 : Int))) then
    k_ref1_InsRight_l2 i true
  else bif (! (v_ref1_row i)) then
    k_ref1_InsRight_l2 i true
  else bif (! (v_ref1_Jumps i.1)) then
    k_ref1_InsRight_l2 i (! (eqB i.2.2.2.2.2.1 (bs [])))
  else k_ref1_InsRight_l2 i false
theorem gu_ref1_InsRight (i : El T_api_Ins) (hk : ku_ref1_InsRight i = true) : Goes (T_ref1_InsRight i) (T0_ref1_InsRight i) (u_ref1_InsRight i) :=
  Goes.brk hk (fun hk =>
    g_ref1_InsRight_l2 i true hk) (fun hk =>
    Goes.brk hk (fun hk =>
      g_ref1_InsRight_l2 i true hk) (fun hk =>
      Goes.brk hk (fun hk =>
        g_ref1_InsRight_l2 i true hk) (fun hk =>
        Goes.brk hk (fun hk =>
          g_ref1_InsRight_l2 i (! (eqB i.2.2.2.2.2.1 (bs []))) hk) (fun hk =>
          g_ref1_InsRight_l2 i false hk))))
def R_ref1_InsRight : Int → AV := fun (r : Int) => .d (.int .i64) r
def S_ref1_InsRight (i : El T_api_Ins) : J_ref1_InsRight → Nat × St
  | .l2 h => (2, ⟨mkTm 59 [(1, .pt 2 0 0), (26, .d .bool h)], [(2, 0, .box 63 [.d (.int .i64) i.1, .d .bool i.2.1, .d (.int .i64) i.2.2.1, .d (.int .i64) i.2.2.2.1.1, .d (.int .i64) i.2.2.2.1.2.1, .d (.int .i64) i.2.2.2.1.2.2.1, .d (.int .i64) i.2.2.2.1.2.2.2, .d (.int .i64) i.2.2.2.2.1.1, .d (.int .i64) i.2.2.2.2.1.2.1, .d (.int .i64) i.2.2.2.2.1.2.2.1, .d (.int .i64) i.2.2.2.2.1.2.2.2, .d .str i.2.2.2.2.2.1, .d (.sl .str) i.2.2.2.2.2.2] none)]⟩)
  | .l5 h => (5, ⟨mkTm 59 [(1, .pt 2 0 0), (49, .d .bool h)], [(2, 0, .box 63 [.d (.int .i64) i.1, .d .bool i.2.1, .d (.int .i64) i.2.2.1, .d (.int .i64) i.2.2.2.1.1, .d (.int .i64) i.2.2.2.1.2.1, .d (.int .i64) i.2.2.2.1.2.2.1, .d (.int .i64) i.2.2.2.1.2.2.2, .d (.int .i64) i.2.2.2.2.1.1, .d (.int .i64) i.2.2.2.2.1.2.1, .d (.int .i64) i.2.2.2.2.1.2.2.1, .d (.int .i64) i.2.2.2.2.1.2.2.2, .d .str i.2.2.2.2.2.1, .d (.sl .str) i.2.2.2.2.2.2] none)]⟩)
theorem en_ref1_InsRight (i : El T_api_Ins) (L : Lt) : entryA Go.Proofs.Tryd.prog (clOf t_ref1_InsRight) tb_ref1_InsRight Go.Proofs.Tryd.f67 c_ref1_InsRight L (toForms sg_ref1_InsRight (i, ())) = (T0_ref1_InsRight i).run (fun v => some (R_ref1_InsRight v, tps (toForms sg_ref1_InsRight (i, ())))) fun j => L (S_ref1_InsRight i j).1 (S_ref1_InsRight i j).2 := by kernel_rfl
theorem lp_ref1_InsRight (i : El T_api_Ins) : ∀ (L : Lt) (j : J_ref1_InsRight), procOf (procsF Go.Proofs.Tryd.prog (clOf t_ref1_InsRight) tb_ref1_InsRight Go.Proofs.Tryd.f67 c_ref1_InsRight (toForms sg_ref1_InsRight (i, ()))) (S_ref1_InsRight i j).1 L (S_ref1_InsRight i j).2 = (T_ref1_InsRight i j).run (fun v => some (R_ref1_InsRight v, tps (toForms sg_ref1_InsRight (i, ())))) fun j => L (S_ref1_InsRight i j).1 (S_ref1_InsRight i j).2
  | L, .l2 h => by kernel_rfl
  | L, .l5 h => by kernel_rfl
end Go.Ev
end

section
set_option linter.unusedSectionVars false
set_option linter.unusedVariables false
set_option linter.unusedSimpArgs false
set_option linter.unusedVariables false
set_option linter.unusedSimpArgs false
open Go
namespace Go.Ev
def refRB_l5 (op cond : Int) (row nm te : Bool) (h : Bool) : Int :=
  bif h then
    (4 : Int)
  else bif (bif (op == (10 : Int)) then true else (op == (11 : Int))) then
    bif true then
      bif (! nm) then
        (3 : Int)
      else (0 : Int)
    else (0 : Int)
  else (0 : Int)
def refRB_l2 (op cond : Int) (row nm te : Bool) (h : Bool) : Int :=
  bif h then
    (4 : Int)
  else bif (op == (11 : Int)) then
    bif (decide (cond < (1 : Int))) then
      refRB_l5 op cond row nm te true
    else bif (decide (cond > (10 : Int))) then
      refRB_l5 op cond row nm te true
    else bif (op != (11 : Int)) then
      refRB_l5 op cond row nm te (cond != (0 : Int))
    else refRB_l5 op cond row nm te false
  else bif (op != (11 : Int)) then
    refRB_l5 op cond row nm te (cond != (0 : Int))
  else refRB_l5 op cond row nm te false
def refRB (op cond : Int) (row nm te : Bool) : Int :=
  bif (decide (op < (1 : Int))) then
    refRB_l2 op cond row nm te true
  else bif (decide (op > (14 : Int))) then
    refRB_l2 op cond row nm te true
  else bif (! row) then
    refRB_l2 op cond row nm te true
  else bif (! (bif (op == (10 : Int)) then true else (op == (11 : Int)))) then
    refRB_l2 op cond row nm te (! te)
  else refRB_l2 op cond row nm te false
def insRB (op cond : Int) (row nm te : Bool) : Int :=
  bif (op == (10 : Int)) then
    bif (! (decide (1 ≤ op) && (decide (op ≤ 14) && (row && condOK op cond)))) then
      (4 : Int)
    else bif true then
      bif (! nm) then
        (3 : Int)
      else (0 : Int)
    else (0 : Int)
  else bif (! (decide (1 ≤ op) && (decide (op ≤ 14) && (row && condOK op cond)))) then
    (4 : Int)
  else bif (! (op == (11 : Int))) then
    bif (! te) then
      (4 : Int)
    else bif (op == (11 : Int)) then
      bif true then
        bif (! nm) then
          (3 : Int)
        else (0 : Int)
      else (0 : Int)
    else (0 : Int)
  else bif (op == (11 : Int)) then
    bif true then
      bif (! nm) then
        (3 : Int)
      else (0 : Int)
    else (0 : Int)
  else (0 : Int)

theorem rightB (op cond : Int) (row nm te : Bool) : refRB op cond row nm te = insRB op cond row nm te := by
  unfold refRB refRB_l2 refRB_l5 insRB condOK
  have beqs : ∀ (k c : Int), (k == c) = decide (k = c) := fun k c => by rw [Bool.eq_iff_iff]; simp
  have bnes : ∀ (k c : Int), (k != c) = !decide (k = c) := fun k c => by rw [Bool.eq_iff_iff]; simp
  simp only [beqs, bnes]
  by_cases h1 : op < 1
  · have e1 : decide (op = 10) = false := by simp; omega
    have e2 : decide (op = 11) = false := by simp; omega
    have e3 : decide (1 ≤ op) = false := by simp; omega
    simp [h1, e1, e2, e3]
  by_cases h2 : op > 14
  · have e1 : decide (op = 10) = false := by simp; omega
    have e2 : decide (op = 11) = false := by simp; omega
    have e3 : decide (op ≤ 14) = false := by simp; omega
    simp [h1, h2, e1, e2, e3]
  have e3 : decide (1 ≤ op) = true := by simp; omega
  have e4 : decide (op ≤ 14) = true := by simp; omega
  by_cases h10 : op = 10
  · subst h10
    by_cases hc : cond = 0 <;> cases row <;> cases nm <;> simp [hc]
  by_cases h11 : op = 11
  · subst h11
    have f1 : decide (1 ≤ cond) = !decide (cond < 1) := by by_cases h : cond < 1 <;> simp [h] <;> omega
    have f2 : decide (cond ≤ 10) = !decide (cond > 10) := by by_cases h : cond > 10 <;> simp [h] <;> omega
    rw [f1, f2]
    by_cases hc : cond < 1 <;> by_cases hd : cond > 10 <;> cases row <;> cases nm <;> simp [hc, hd]
  by_cases hc : cond = 0 <;> cases row <;> cases te <;> simp [h1, h2, h10, h11, e3, e4, hc]
def v_ref1_InsRight (i : El T_api_Ins) : Int := v_ins_Right i
def k_ref1_InsRight (i : El T_api_Ins) : Bool := smallText i.2.2.2.2.2.1
theorem g_ref1_InsRight (i : El T_api_Ins) (hk : k_ref1_InsRight i = true) : Goes (T_ref1_InsRight i) (T0_ref1_InsRight i) (v_ref1_InsRight i) := by
  have h1 : k_ref1_Right i.2.2.2.2.2.1 = true := hk
  have h2 : k_names_Right i.2.2.2.2.2.1 = true := hk
  have hku : ku_ref1_InsRight i = true := by
    unfold ku_ref1_InsRight k_ref1_InsRight_l2 k_ref1_InsRight_l5
    simp only [h1, cond_true, Bool.cond_self]
  have hr : u_ref1_InsRight i = refRB i.1 i.2.2.1 (v_ref1_row i) (nameRight i.2.2.2.2.2.1) (eqB i.2.2.2.2.2.1 (bs [])) := by
    unfold u_ref1_InsRight v_ref1_InsRight_l2 v_ref1_InsRight_l5
    simp only [h1]
    rfl
  have hp : u_ins_Right i = insRB i.1 i.2.2.1 (v_ref1_row i) (nameRight i.2.2.2.2.2.1) (eqB i.2.2.2.2.2.1 (bs [])) := by
    unfold u_ins_Right
    simp only [h2, fits_row]
    rfl
  have e : v_ref1_InsRight i = u_ref1_InsRight i := by
    rw [hr, rightB, ← hp]
    rfl
  rw [e]
  exact gu_ref1_InsRight i hku
end Go.Ev
end

section
set_option linter.unusedSectionVars false
set_option linter.unusedVariables false
set_option linter.unusedSimpArgs false
set_option maxRecDepth 100000
set_option linter.unusedVariables false
open Go Go.Ev
namespace Go.Ev
noncomputable def e_ref1_InsRight : Run := entG sg_ref1_InsRight R_ref1_InsRight (fun a => k_ref1_InsRight a.1) (fun a => v_ref1_InsRight a.1)
theorem ok_ref1_InsRight : EntOK Go.Proofs.Tryd.prog 67 e_ref1_InsRight := entG_ok (tb := tb_ref1_InsRight) (c := c_ref1_InsRight) tk_ref1_InsRight (by kernel_rfl) (by kernel_rfl) (by kernel_rfl) (fun a => by kernel_rfl) fun ⟨i, _⟩ hk => evF_goes (c := c_ref1_InsRight) (K := fun v => (R_ref1_InsRight v, tps (toForms sg_ref1_InsRight (i, ())))) (S := S_ref1_InsRight i) (by kernel_rfl) (en_ref1_InsRight i) (lp_ref1_InsRight i) (g_ref1_InsRight i hk)
end Go.Ev
end

section
set_option linter.unusedSectionVars false
set_option linter.unusedVariables false
set_option linter.unusedSimpArgs false
set_option maxRecDepth 100000
set_option linter.unusedVariables false
open Go Go.Ev
namespace Go.Ev
/-! ### paling/palingref1.operand -/
def sg_ref1_operand : Sig := [(true, T_api_Prog), (true, T_api_Opd)]
noncomputable def t_ref1_operand : Tbl := [(84, e_ref1_Memory)]
theorem tk_ref1_operand : ∀ p ∈ t_ref1_operand, EntOK Go.Proofs.Tryd.prog p.1 p.2 := tbl_cons ok_ref1_Memory (tbl_nil)
noncomputable def c_ref1_operand : Code := Go.Proofs.Tryd.f68.body.getD .skip
def tb_ref1_operand : Tb := []
def T_ref1_operand (p : El T_api_Prog) (o : El T_api_Opd) : Empty → JT Empty (Int) := fun j => nomatch j
def T0_ref1_operand (p : El T_api_Prog) (o : El T_api_Opd) : JT Empty (Int) :=
  .br (! (v_ref1_Memory o))
    (.leaf (0 : Int))
  (.br (decide (o.2.2.1 ≥ (Int.ofNat (List.length p.1))))
    (.leaf (7 : Int))
  (.br (o.1 == (3 : Int))
    (.br ((decide ((0 : Int) ≤ o.2.2.1)) && (decide (o.2.2.1 < (Int.ofNat (List.length p.1)))))
      (.br (decide (o.2.2.2 ≥ (List.getD p.1 (Int.toNat o.2.2.1) (dflt T_api_Sym)).2.1))
        (.leaf (8 : Int))
      (.leaf (0 : Int)))
    (.no))
  (.leaf (0 : Int))))
def v_ref1_operand (p : El T_api_Prog) (o : El T_api_Opd) : Int :=
  bif (! (v_ref1_Memory o)) then
    (0 : Int)
  else bif (decide (o.2.2.1 ≥ (Int.ofNat (List.length p.1)))) then
    (7 : Int)
  else bif (o.1 == (3 : Int)) then
    bif ((decide ((0 : Int) ≤ o.2.2.1)) && (decide (o.2.2.1 < (Int.ofNat (List.length p.1))))) then
      bif (decide (o.2.2.2 ≥ (List.getD p.1 (Int.toNat o.2.2.1) (dflt T_api_Sym)).2.1)) then
        (8 : Int)
      else (0 : Int)
    else (0 : Int)
  else (0 : Int)
def k_ref1_operand (p : El T_api_Prog) (o : El T_api_Opd) : Bool :=
  bif (! (v_ref1_Memory o)) then
    true
  else bif (decide (o.2.2.1 ≥ (Int.ofNat (List.length p.1)))) then
    true
  else bif (o.1 == (3 : Int)) then
    bif ((decide ((0 : Int) ≤ o.2.2.1)) && (decide (o.2.2.1 < (Int.ofNat (List.length p.1))))) then
      bif (decide (o.2.2.2 ≥ (List.getD p.1 (Int.toNat o.2.2.1) (dflt T_api_Sym)).2.1)) then
        true
      else true
    else false
  else true
theorem g_ref1_operand (p : El T_api_Prog) (o : El T_api_Opd) (hk : k_ref1_operand p o = true) : Goes (T_ref1_operand p o) (T0_ref1_operand p o) (v_ref1_operand p o) :=
  Goes.brk hk (fun hk =>
    Goes.leaf) (fun hk =>
    Goes.brk hk (fun hk =>
      Goes.leaf) (fun hk =>
      Goes.brk hk (fun hk =>
        Goes.brk hk (fun hk =>
          Goes.brk hk (fun hk =>
            Goes.leaf) (fun hk =>
            Goes.leaf)) (fun hk =>
          Goes.nok hk)) (fun hk =>
        Goes.leaf)))
def R_ref1_operand : Int → AV := fun (r : Int) => .d (.int .i64) r
def S_ref1_operand (p : El T_api_Prog) (o : El T_api_Opd) : Empty → Nat × St := fun j => nomatch j
theorem en_ref1_operand (p : El T_api_Prog) (o : El T_api_Opd) (L : Lt) : entryA Go.Proofs.Tryd.prog (clOf t_ref1_operand) tb_ref1_operand Go.Proofs.Tryd.f68 c_ref1_operand L (toForms sg_ref1_operand (p, o, ())) = (T0_ref1_operand p o).run (fun v => some (R_ref1_operand v, tps (toForms sg_ref1_operand (p, o, ())))) fun j => L (S_ref1_operand p o j).1 (S_ref1_operand p o j).2 := by kernel_rfl
theorem lp_ref1_operand (p : El T_api_Prog) (o : El T_api_Opd) : ∀ (L : Lt) (j : Empty), procOf (procsF Go.Proofs.Tryd.prog (clOf t_ref1_operand) tb_ref1_operand Go.Proofs.Tryd.f68 c_ref1_operand (toForms sg_ref1_operand (p, o, ()))) (S_ref1_operand p o j).1 L (S_ref1_operand p o j).2 = (T_ref1_operand p o j).run (fun v => some (R_ref1_operand v, tps (toForms sg_ref1_operand (p, o, ())))) fun j => L (S_ref1_operand p o j).1 (S_ref1_operand p o j).2 := fun L j => nomatch j
noncomputable def e_ref1_operand : Run := entG sg_ref1_operand R_ref1_operand (fun a => k_ref1_operand a.1 a.2.1) (fun a => v_ref1_operand a.1 a.2.1)
theorem ok_ref1_operand : EntOK Go.Proofs.Tryd.prog 68 e_ref1_operand := entG_ok (tb := tb_ref1_operand) (c := c_ref1_operand) tk_ref1_operand (by kernel_rfl) (by kernel_rfl) (by kernel_rfl) (fun a => by kernel_rfl) fun ⟨p, o, _⟩ hk => evF_goes (c := c_ref1_operand) (K := fun v => (R_ref1_operand v, tps (toForms sg_ref1_operand (p, o, ())))) (S := S_ref1_operand p o) (by kernel_rfl) (en_ref1_operand p o) (lp_ref1_operand p o) (g_ref1_operand p o hk)
end Go.Ev
end

section
set_option linter.unusedSectionVars false
set_option linter.unusedVariables false
set_option linter.unusedSimpArgs false
set_option maxRecDepth 100000
set_option linter.unusedVariables false
open Go Go.Ev
namespace Go.Ev
/-! ### paling/palingref1.Find -/
def sg_ref1_Find : Sig := [(true, (.sl T_api_Ins)), (false, .str)]
noncomputable def t_ref1_Find : Tbl := [(66, e_ref1_index)]
theorem tk_ref1_Find : ∀ p ∈ t_ref1_Find, EntOK Go.Proofs.Tryd.prog p.1 p.2 := tbl_cons ok_ref1_index (tbl_nil)
noncomputable def c_ref1_Find : Code := Go.Proofs.Tryd.f70.body.getD .skip
def tb_ref1_Find : Tb := [(3, ⟨[1, 2, 5], []⟩)]
inductive J_ref1_Find where
  | l3 (i : Int)
def T_ref1_Find (t : List (El T_api_Ins)) (label : ByteArray) : J_ref1_Find → JT J_ref1_Find (Int)
  | .l3 i =>
    .br (decide (i < (Int.ofNat (List.length t))))
      (.br ((decide ((0 : Int) ≤ i)) && (decide (i < (Int.ofNat (List.length t)))))
        (.br (k_ref1_index (List.getD t (Int.toNat i) (dflt T_api_Ins)).2.2.2.2.2.2 label)
          (.br (decide ((v_ref1_index (List.getD t (Int.toNat i) (dflt T_api_Ins)).2.2.2.2.2.2 label) ≥ (0 : Int)))
            (.leaf i)
          (.jmp (.l3 (IntKind.i64.wrap (i + (1 : Int))))))
        (.no))
      (.no))
    (.leaf (-1 : Int))
def T0_ref1_Find (t : List (El T_api_Ins)) (label : ByteArray) : JT J_ref1_Find (Int) :=
  .jmp (.l3 (0 : Int))
def R_ref1_Find : Int → AV := fun (r : Int) => .d (.int .i64) r
def S_ref1_Find (t : List (El T_api_Ins)) (label : ByteArray) : J_ref1_Find → Nat × St
  | .l3 i => (3, ⟨mkTm 23 [(1, .d .str label), (2, .pt 3 0 0), (5, .d (.int .i64) i)], [(3, 0, .box 58 [.d (.sl T_api_Ins) t] none)]⟩)
theorem en_ref1_Find (t : List (El T_api_Ins)) (label : ByteArray) (L : Lt) : entryA Go.Proofs.Tryd.prog (clOf t_ref1_Find) tb_ref1_Find Go.Proofs.Tryd.f70 c_ref1_Find L (toForms sg_ref1_Find (t, label, ())) = (T0_ref1_Find t label).run (fun v => some (R_ref1_Find v, tps (toForms sg_ref1_Find (t, label, ())))) fun j => L (S_ref1_Find t label j).1 (S_ref1_Find t label j).2 := by kernel_rfl
theorem lp_ref1_Find (t : List (El T_api_Ins)) (label : ByteArray) : ∀ (L : Lt) (j : J_ref1_Find), procOf (procsF Go.Proofs.Tryd.prog (clOf t_ref1_Find) tb_ref1_Find Go.Proofs.Tryd.f70 c_ref1_Find (toForms sg_ref1_Find (t, label, ()))) (S_ref1_Find t label j).1 L (S_ref1_Find t label j).2 = (T_ref1_Find t label j).run (fun v => some (R_ref1_Find v, tps (toForms sg_ref1_Find (t, label, ())))) fun j => L (S_ref1_Find t label j).1 (S_ref1_Find t label j).2
  | L, .l3 i => by kernel_rfl
end Go.Ev
end

section
set_option linter.unusedSectionVars false
set_option linter.unusedVariables false
set_option linter.unusedSimpArgs false
set_option linter.unusedVariables false
set_option linter.unusedSimpArgs false
open Go
namespace Go.Ev
def v_ref1_Find (t : List (El T_api_Ins)) (label : ByteArray) : Int := findI label t 0
def k_ref1_Find (t : List (El T_api_Ins)) (label : ByteArray) : Bool := decide (t.length < 1099511627776) && t.all fun i => decide (i.2.2.2.2.2.2.length < 1099511627776)
theorem g_ref1_Find (t : List (El T_api_Ins)) (label : ByteArray) (hk : k_ref1_Find t label = true) : Goes (T_ref1_Find t label) (T0_ref1_Find t label) (v_ref1_Find t label) := by
  unfold k_ref1_Find at hk
  simp only [Bool.and_eq_true, decide_eq_true_eq, List.all_eq_true] at hk
  obtain ⟨hn, hl⟩ := hk
  have loop : ∀ k, k ≤ t.length → Goes (T_ref1_Find t label) (.jmp (.l3 (k : Int))) (findI label (t.drop k) k) := by
    refine down ?_ fun k hk ih => ?_
    · rw [goes_jmp]
      simp only [T_ref1_Find, goes_br, lt_len_not (Nat.lt_irrefl _), goes_leaf, List.drop_length]
      simp [findI]
    · have hli := hl t[k] (List.getElem_mem hk)
      have hki : k_ref1_index t[k].2.2.2.2.2.2 label = true := decide_eq_true (by omega)
      rw [goes_jmp]
      simp only [T_ref1_Find, goes_br, lt_len hk, nng, Bool.and_self, if_true, Int.toNat_natCast, getD_lt hk, wrap_succ (k := k) (by omega), hki]
      rw [drop_cons hk]
      unfold findI
      have hi : decide (v_ref1_index t[k].2.2.2.2.2.2 label ≥ 0) = t[k].2.2.2.2.2.2.contains label := by
        rw [← findFrom_contains (k := 0)]
        unfold v_ref1_index
        cases h : findFrom label t[k].2.2.2.2.2.2 0 with
        | none => rfl
        | some n => simp
      rw [hi]
      split
      · exact .leaf
      · exact ih
  unfold T0_ref1_Find v_ref1_Find
  simpa using loop 0 (Nat.zero_le _)
end Go.Ev
end

section
set_option linter.unusedSectionVars false
set_option linter.unusedVariables false
set_option linter.unusedSimpArgs false
set_option maxRecDepth 100000
set_option linter.unusedVariables false
open Go Go.Ev
namespace Go.Ev
noncomputable def e_ref1_Find : Run := entG sg_ref1_Find R_ref1_Find (fun a => k_ref1_Find a.1 a.2.1) (fun a => v_ref1_Find a.1 a.2.1)
theorem ok_ref1_Find : EntOK Go.Proofs.Tryd.prog 70 e_ref1_Find := entG_ok (tb := tb_ref1_Find) (c := c_ref1_Find) tk_ref1_Find (by kernel_rfl) (by kernel_rfl) (by kernel_rfl) (fun a => by kernel_rfl) fun ⟨t, label, _⟩ hk => evF_goes (c := c_ref1_Find) (K := fun v => (R_ref1_Find v, tps (toForms sg_ref1_Find (t, label, ())))) (S := S_ref1_Find t label) (by kernel_rfl) (en_ref1_Find t label) (lp_ref1_Find t label) (g_ref1_Find t label hk)
end Go.Ev
end

section
set_option linter.unusedSectionVars false
set_option linter.unusedVariables false
set_option linter.unusedSimpArgs false
set_option maxRecDepth 100000
set_option linter.unusedVariables false
open Go Go.Ev
namespace Go.Ev
/-! ### paling/palingref1.thread -/
def sg_ref1_thread : Sig := [(true, T_api_Prog), (true, (.sl T_api_Ins))]
noncomputable def t_ref1_thread : Tbl := [(65, e_ref1_Count), (52, e_ref1_Right), (66, e_ref1_index), (67, e_ref1_InsRight), (68, e_ref1_operand), (69, e_ref1_Jumps), (70, e_ref1_Find)]
theorem tk_ref1_thread : ∀ p ∈ t_ref1_thread, EntOK Go.Proofs.Tryd.prog p.1 p.2 := tbl_cons ok_ref1_Count (tbl_cons ok_ref1_Right (tbl_cons ok_ref1_index (tbl_cons ok_ref1_InsRight (tbl_cons ok_ref1_operand (tbl_cons ok_ref1_Jumps (tbl_cons ok_ref1_Find (tbl_nil)))))))
noncomputable def c_ref1_thread : Code := Go.Proofs.Tryd.f53.body.getD .skip
def tb_ref1_thread : Tb := [(7, ⟨[2, 3, 5, 6], [(6, 122)]⟩), (14, ⟨[2, 3, 5, 6, 7, 8], [(6, 122)]⟩), (44, ⟨[3, 13], []⟩)]
inductive J_ref1_thread where
  | l7 (i : Int) (seen : List ByteArray)
  | l14 (x : Int) (x1 : Bool) (x2 : Int) (x3 : Int) (x4 : Int) (x5 : Int) (x6 : Int) (x7 : Int) (x8 : Int) (x9 : Int) (x10 : Int) (x11 : ByteArray) (x12 : List ByteArray) (k : Int) (seen : List ByteArray) (i : Int)
  | l44 (i : Int)
def T_ref1_thread (p : El T_api_Prog) (t : List (El T_api_Ins)) : J_ref1_thread → JT J_ref1_thread (Int)
  | .l7 i seen =>
    .br (decide (i < (Int.ofNat (List.length t))))
      (.br ((decide ((0 : Int) ≤ i)) && (decide (i < (Int.ofNat (List.length t)))))
        (.jmp (.l14 (List.getD t (Int.toNat i) (dflt T_api_Ins)).1 (List.getD t (Int.toNat i) (dflt T_api_Ins)).2.1 (List.getD t (Int.toNat i) (dflt T_api_Ins)).2.2.1 (List.getD t (Int.toNat i) (dflt T_api_Ins)).2.2.2.1.1 (List.getD t (Int.toNat i) (dflt T_api_Ins)).2.2.2.1.2.1 (List.getD t (Int.toNat i) (dflt T_api_Ins)).2.2.2.1.2.2.1 (List.getD t (Int.toNat i) (dflt T_api_Ins)).2.2.2.1.2.2.2 (List.getD t (Int.toNat i) (dflt T_api_Ins)).2.2.2.2.1.1 (List.getD t (Int.toNat i) (dflt T_api_Ins)).2.2.2.2.1.2.1 (List.getD t (Int.toNat i) (dflt T_api_Ins)).2.2.2.2.1.2.2.1 (List.getD t (Int.toNat i) (dflt T_api_Ins)).2.2.2.2.1.2.2.2 (List.getD t (Int.toNat i) (dflt T_api_Ins)).2.2.2.2.2.1 (List.getD t (Int.toNat i) (dflt T_api_Ins)).2.2.2.2.2.2 (0 : Int) seen i))
      (.no))
    (.br ((Int.ofNat (List.length t)) == (0 : Int))
      (.leaf (9 : Int))
    (.br ((decide ((0 : Int) ≤ (IntKind.i64.wrap ((Int.ofNat (List.length t)) - (1 : Int))))) && (decide ((IntKind.i64.wrap ((Int.ofNat (List.length t)) - (1 : Int))) < (Int.ofNat (List.length t)))))
      (.br ((List.getD t (Int.toNat (IntKind.i64.wrap ((Int.ofNat (List.length t)) - (1 : Int)))) (dflt T_api_Ins)).1 != (10 : Int))
        (.br ((List.getD t (Int.toNat (IntKind.i64.wrap ((Int.ofNat (List.length t)) - (1 : Int)))) (dflt T_api_Ins)).1 != (14 : Int))
          (.leaf (9 : Int))
        (.jmp (.l44 (0 : Int))))
      (.jmp (.l44 (0 : Int))))
    (.no)))
  | .l14 x x1 x2 x3 x4 x5 x6 x7 x8 x9 x10 x11 x12 k seen i =>
    .br (decide (k < (Int.ofNat (List.length x12))))
      (.br ((decide ((0 : Int) ≤ k)) && (decide (k < (Int.ofNat (List.length x12)))))
        (.br (k_ref1_Right (List.getD x12 (Int.toNat k) (dflt .str)))
          (.br (! (v_ref1_Right (List.getD x12 (Int.toNat k) (dflt .str))))
            (.leaf (3 : Int))
          (.br ((decide ((0 : Int) ≤ k)) && (decide (k < (Int.ofNat (List.length x12)))))
            (.br (k_ref1_index seen (List.getD x12 (Int.toNat k) (dflt .str)))
              (.br (decide ((v_ref1_index seen (List.getD x12 (Int.toNat k) (dflt .str))) ≥ (0 : Int)))
                (.leaf (6 : Int))
              (.br ((decide ((0 : Int) ≤ k)) && (decide (k < (Int.ofNat (List.length x12)))))
                (.br (Nat.ble (((List.length seen) + 1) * 16) limit)
                  (.jmp (.l14 x x1 x2 x3 x4 x5 x6 x7 x8 x9 x10 x11 x12 (IntKind.i64.wrap (k + (1 : Int))) (seen ++ [(List.getD x12 (Int.toNat k) (dflt .str))]) i))
                (.no))
              (.no)))
            (.no))
          (.no)))
        (.no))
      (.no))
    (.br (k_ref1_InsRight (x, (x1, (x2, ((x3, (x4, (x5, x6))), ((x7, (x8, (x9, x10))), (x11, x12)))))))
      (.br ((v_ref1_InsRight (x, (x1, (x2, ((x3, (x4, (x5, x6))), ((x7, (x8, (x9, x10))), (x11, x12))))))) != (0 : Int))
        (.leaf (v_ref1_InsRight (x, (x1, (x2, ((x3, (x4, (x5, x6))), ((x7, (x8, (x9, x10))), (x11, x12))))))))
      (.br (k_ref1_operand p (x3, (x4, (x5, x6))))
        (.br ((v_ref1_operand p (x3, (x4, (x5, x6)))) != (0 : Int))
          (.leaf (v_ref1_operand p (x3, (x4, (x5, x6)))))
        (.br (k_ref1_operand p (x7, (x8, (x9, x10))))
          (.br ((v_ref1_operand p (x7, (x8, (x9, x10)))) != (0 : Int))
            (.leaf (v_ref1_operand p (x7, (x8, (x9, x10)))))
          (.jmp (.l7 (IntKind.i64.wrap (i + (1 : Int))) seen)))
        (.no)))
      (.no)))
    (.no))
  | .l44 i =>
    .br (decide (i < (Int.ofNat (List.length t))))
      (.br ((decide ((0 : Int) ≤ i)) && (decide (i < (Int.ofNat (List.length t)))))
        (.br (v_ref1_Jumps (List.getD t (Int.toNat i) (dflt T_api_Ins)).1)
          (.br ((decide ((0 : Int) ≤ i)) && (decide (i < (Int.ofNat (List.length t)))))
            (.br (k_ref1_Find t (List.getD t (Int.toNat i) (dflt T_api_Ins)).2.2.2.2.2.1)
              (.br (decide ((v_ref1_Find t (List.getD t (Int.toNat i) (dflt T_api_Ins)).2.2.2.2.2.1) < (0 : Int)))
                (.leaf (7 : Int))
              (.jmp (.l44 (IntKind.i64.wrap (i + (1 : Int))))))
            (.no))
          (.no))
        (.jmp (.l44 (IntKind.i64.wrap (i + (1 : Int))))))
      (.no))
    (.leaf (0 : Int))
def T0_ref1_thread (p : El T_api_Prog) (t : List (El T_api_Ins)) : JT J_ref1_thread (Int) :=
  .br (k_ref1_Count t)
    (.br (decide ((v_ref1_Count t) > (4096 : Int)))
      (.leaf (10 : Int))
    (.jmp (.l7 (0 : Int) [])))
  (.no)
def R_ref1_thread : Int → AV := fun (r : Int) => .d (.int .i64) r
def S_ref1_thread (p : El T_api_Prog) (t : List (El T_api_Ins)) : J_ref1_thread → Nat × St
  | .l7 i seen => (7, ⟨mkTm 122 [(2, .pt 3 0 0), (3, .pt 4 0 0), (5, .own 6 0 none), (6, .d (.int .i64) i)], [(3, 0, .box 27 [.d (.sl T_api_Sym) p.1, .d (.sl (.sl T_api_Ins)) p.2] none), (4, 0, .box 58 [.d (.sl T_api_Ins) t] none), (6, 0, .row 9 .str seen false)]⟩)
  | .l14 x x1 x2 x3 x4 x5 x6 x7 x8 x9 x10 x11 x12 k seen i => (14, ⟨mkTm 122 [(2, .pt 3 0 0), (3, .pt 4 0 0), (5, .own 6 0 none), (6, .d (.int .i64) i), (7, .pt 8 0 0), (8, .d (.int .i64) k)], [(3, 0, .box 27 [.d (.sl T_api_Sym) p.1, .d (.sl (.sl T_api_Ins)) p.2] none), (4, 0, .box 58 [.d (.sl T_api_Ins) t] none), (6, 0, .row 9 .str seen false), (8, 0, .box 63 [.d (.int .i64) x, .d .bool x1, .d (.int .i64) x2, .d (.int .i64) x3, .d (.int .i64) x4, .d (.int .i64) x5, .d (.int .i64) x6, .d (.int .i64) x7, .d (.int .i64) x8, .d (.int .i64) x9, .d (.int .i64) x10, .d .str x11, .d (.sl .str) x12] none)]⟩)
  | .l44 i => (44, ⟨mkTm 122 [(3, .pt 4 0 0), (13, .d (.int .i64) i)], [(4, 0, .box 58 [.d (.sl T_api_Ins) t] none)]⟩)
theorem en_ref1_thread (p : El T_api_Prog) (t : List (El T_api_Ins)) (L : Lt) : entryA Go.Proofs.Tryd.prog (clOf t_ref1_thread) tb_ref1_thread Go.Proofs.Tryd.f53 c_ref1_thread L (toForms sg_ref1_thread (p, t, ())) = (T0_ref1_thread p t).run (fun v => some (R_ref1_thread v, tps (toForms sg_ref1_thread (p, t, ())))) fun j => L (S_ref1_thread p t j).1 (S_ref1_thread p t j).2 := by kernel_rfl
theorem lp_ref1_thread (p : El T_api_Prog) (t : List (El T_api_Ins)) : ∀ (L : Lt) (j : J_ref1_thread), procOf (procsF Go.Proofs.Tryd.prog (clOf t_ref1_thread) tb_ref1_thread Go.Proofs.Tryd.f53 c_ref1_thread (toForms sg_ref1_thread (p, t, ()))) (S_ref1_thread p t j).1 L (S_ref1_thread p t j).2 = (T_ref1_thread p t j).run (fun v => some (R_ref1_thread v, tps (toForms sg_ref1_thread (p, t, ())))) fun j => L (S_ref1_thread p t j).1 (S_ref1_thread p t j).2
  | L, .l7 i seen => by kernel_rfl
  | L, .l14 x x1 x2 x3 x4 x5 x6 x7 x8 x9 x10 x11 x12 k seen i => by kernel_rfl
  | L, .l44 i => by kernel_rfl
end Go.Ev
end

section
set_option linter.unusedSectionVars false
set_option linter.unusedVariables false
set_option linter.unusedSimpArgs false
set_option linter.unusedVariables false
set_option linter.unusedSimpArgs false
open Go
namespace Go.Ev
def v_ref1_thread (p : El T_api_Prog) (t : List (El T_api_Ins)) : Int := threadC p t
def k_ref1_thread (p : El T_api_Prog) (t : List (El T_api_Ins)) : Bool := smallThread t
theorem operand_eq' (len : Nat) (size : Int → Int) (k s n : Int) (h : (k = 3 ∨ k = 4) → 0 ≤ s) :
  (bif (! (decide (k = 3) || decide (k = 4))) then
    (0 : Int)
  else bif (decide (s ≥ (Int.ofNat len))) then
    (7 : Int)
  else bif (k == (3 : Int)) then
    bif ((decide ((0 : Int) ≤ s)) && (decide (s < (Int.ofNat len)))) then
      bif (decide (n ≥ size s)) then
        (8 : Int)
      else (0 : Int)
    else (0 : Int)
  else (0 : Int)) = placeN len size k s n ∧
  (bif (! (decide (k = 3) || decide (k = 4))) then
    true
  else bif (decide (s ≥ (Int.ofNat len))) then
    true
  else bif (k == (3 : Int)) then
    bif ((decide ((0 : Int) ≤ s)) && (decide (s < (Int.ofNat len)))) then
      bif (decide (n ≥ size s)) then
        true
      else true
    else false
  else true) = true := by
  unfold placeN
  by_cases h3 : k = 3
  · have h0 := h (.inl h3)
    subst h3
    by_cases hl : (len : Int) ≤ s
    · simp [hl]
    have h2 : s < (len : Int) := by omega
    have h1 : ¬ s < 0 := by omega
    by_cases hn : size s ≤ n
    · simp [hl, hn, h0, h1, h2]
    · simp [hl, hn, h0, h1, h2]
  by_cases h4 : k = 4
  · have h0 := h (.inr h4)
    subst h4
    have h1 : ¬ s < 0 := by omega
    by_cases hl : (len : Int) ≤ s
    · simp [hl]
    simp [hl, h1]
  simp [h3, h4]
theorem operand_eq (p : El T_api_Prog) (o : El T_api_Opd) (h : ∀ k s : Int, o.1 = k → o.2.2.1 = s → (k = 3 ∨ k = 4) → 0 ≤ s) : v_ref1_operand p o = placeC p o ∧ k_ref1_operand p o = true := by
  have := operand_eq' p.1.length (fun s => (List.getD p.1 s.toNat (dflt T_api_Sym)).2.1) o.1 o.2.2.1 o.2.2.2 (h _ _ rfl rfl)
  unfold v_ref1_operand k_ref1_operand
  rw [refMemory_eq]
  exact this
theorem right_sym' {k r s n : Int} (h : v_opnd_Right (k, r, s, n) = true) (hk : k = 3 ∨ k = 4) : 0 ≤ s := by
  unfold v_opnd_Right at h
  rcases hk with rfl | rfl
  · by_cases hs : 0 ≤ s
    · exact hs
    · simp [hs] at h
  · by_cases hs : 0 ≤ s
    · exact hs
    · simp [hs] at h
theorem opds_ok {i : El T_api_Ins} (hr : v_ins_Right i = 0) : (∀ k s : Int, i.2.2.2.1.1 = k → i.2.2.2.1.2.2.1 = s → (k = 3 ∨ k = 4) → 0 ≤ s) ∧ ∀ k s : Int, i.2.2.2.2.1.1 = k → i.2.2.2.2.1.2.2.1 = s → (k = 3 ∨ k = 4) → 0 ≤ s := by
  obtain ⟨h1, h14, hrow⟩ := right0_row hr
  rcases nine i.1 with ⟨h9, _⟩ | ⟨h9, _⟩
  · obtain ⟨a, b⟩ := row_low hrow h1 h9
    exact ⟨fun k s hk hs h => hs ▸ right_sym' (k := i.2.2.2.1.1) (r := i.2.2.2.1.2.1) (s := i.2.2.2.1.2.2.1) (n := i.2.2.2.1.2.2.2) a (hk ▸ h), fun k s hk hs h => hs ▸ right_sym' (k := i.2.2.2.2.1.1) (r := i.2.2.2.2.1.2.1) (s := i.2.2.2.2.1.2.2.1) (n := i.2.2.2.2.1.2.2.2) b (hk ▸ h)⟩
  · obtain ⟨a, b⟩ := row_high hrow h9
    refine ⟨fun k s hk hs h => ?_, fun k s hk hs h => ?_⟩
    · have : k = 0 := hk ▸ a
      omega
    · have : k = 0 := hk ▸ b
      omega
theorem g_ref1_thread (p : El T_api_Prog) (t : List (El T_api_Ins)) (hk : k_ref1_thread p t = true) : Goes (T_ref1_thread p t) (T0_ref1_thread p t) (v_ref1_thread p t) := by
  have hS := smallT hk
  have hn := hS.len
  have hkf : ∀ l, k_ref1_Find t l = true := fun l => by
    unfold k_ref1_Find
    simp only [Bool.and_eq_true, decide_eq_true_eq, List.all_eq_true]
    exact ⟨hn, fun i hi => Nat.lt_of_le_of_lt (labels_mem hi) hS.labs⟩
  have jmps : ∀ k, k ≤ t.length → Goes (T_ref1_thread p t) (.jmp (.l44 (k : Int))) (jumpC (labels t) (t.drop k)) := by
    refine down ?_ fun k hk ih => ?_
    · rw [goes_jmp]
      simp only [T_ref1_thread, goes_br, lt_len_not (Nat.lt_irrefl _), goes_leaf, List.drop_length]
      simp [jumpC]
    · rw [goes_jmp]
      simp only [T_ref1_thread, goes_br, lt_len hk, nng, Bool.and_self, if_true, Int.toNat_natCast, getD_lt hk, wrap_succ (k := k) (by omega), hkf, jumps_eq]
      have hfi : decide (v_ref1_Find t t[k].2.2.2.2.2.1 < 0) = ! (labels t).contains t[k].2.2.2.2.2.1 := findI_neg
      rw [hfi, drop_cons hk]
      unfold jumpC
      by_cases h1 : ((t[k].1 == (10 : Int)) || (t[k].1 == (11 : Int))) = true
      · rw [if_pos h1, if_pos h1]
        by_cases h2 : (labels t).contains t[k].2.2.2.2.2.1 = true
        · rw [if_pos h2, if_neg (by rw [h2]; decide)]; exact ih
        · rw [if_neg h2, if_pos (by rw [Bool.eq_false_iff.2 h2]; rfl)]; exact .leaf
      · rw [if_neg h1, if_neg h1]; exact ih
  have main : ∀ k, k ≤ t.length → Goes (T_ref1_thread p t) (.jmp (.l7 (k : Int) (labels (t.take k)))) (scanI p (fun seen => endC t (jumpC seen t)) (labels (t.take k)) (t.drop k)) := by
    refine down ?_ fun k hk ih => ?_
    · have hj := jmps 0 (Nat.zero_le _)
      rw [List.drop_zero] at hj
      rw [goes_jmp, List.drop_length, List.take_length]
      unfold scanI
      simp only [T_ref1_thread, goes_br, lt_len_not (Nat.lt_irrefl _)]
      rw [if_neg (by decide)]
      by_cases h0 : t.length = 0
      · have : t = [] := List.eq_nil_of_length_eq_zero h0
        rw [this]; simp [goes_leaf, endC]
      · have hp : 0 < t.length := by omega
        rw [if_neg (by simp; exact fun e => h0 (by rw [e]; rfl)), endC_eq hp]
        rw [show Int.ofNat t.length = (t.length : Int) from rfl, wrap_pred (k := t.length) (by omega) hp]
        have hb : (decide (0 ≤ ((t.length - 1 : Nat) : Int)) && decide (((t.length - 1 : Nat) : Int) < (t.length : Int))) = true := by simp; omega
        simp only [hb, if_true, Int.toNat_natCast, getD_lt (show t.length - 1 < t.length by omega)]
        unfold bne
        cases h10 : (t[t.length - 1].1 == (10 : Int)) with
        | true => simpa using hj
        | false =>
          cases h14 : (t[t.length - 1].1 == (14 : Int)) with
          | true => simpa using hj
          | false => simp [goes_leaf]
    · have hmem : t[k] ∈ t := List.getElem_mem hk
      have hto := hS.to _ hmem
      have hlab := hS.lab _ hmem
      have hlen := Nat.lt_of_le_of_lt (labels_mem hmem) hS.labs
      have htk : labels (t.take (k + 1)) = labels (t.take k) ++ t[k].2.2.2.2.2.2 := by
        unfold labels
        rw [List.take_add_one, List.getElem?_eq_getElem hk, List.flatMap_append]
        simp
      have hall : labels t = labels (t.take (k + 1)) ++ labels (t.drop (k + 1)) := by
        unfold labels
        rw [← List.flatMap_append, List.take_append_drop]
      have hlt : (labels (t.take (k + 1))).length < 1099511627776 := by
        have := hS.labs
        rw [hall, List.length_append] at this
        omega
      rw [goes_jmp]
      simp only [T_ref1_thread, goes_br, lt_len hk, nng, Bool.and_self, if_true, Int.toNat_natCast, getD_lt hk]
      rw [drop_cons hk]
      unfold scanI
      rw [htk] at ih hlt
      generalize t[k] = i at hto hlab hlen htk ih hlt
      obtain ⟨op, lock, cond, ⟨ak, ar, ay, an⟩, ⟨bk, br, bz, bn⟩, to, ls⟩ := i
      dsimp only at hto hlab hlen htk ih hlt ⊢
      have inner : ∀ j, j ≤ ls.length → Goes (T_ref1_thread p t) (.jmp (.l14 op lock cond ak ar ay an bk br bz bn to ls (j : Int) (labels (t.take k) ++ ls.take j) (k : Int))) (scanL (labels (t.take k) ++ ls.take j) (fun seen => if insC p (op, (lock, (cond, ((ak, (ar, (ay, an))), ((bk, (br, (bz, bn))), (to, ls)))))) ≠ 0 then insC p (op, (lock, (cond, ((ak, (ar, (ay, an))), ((bk, (br, (bz, bn))), (to, ls)))))) else scanI p (fun seen => endC t (jumpC seen t)) seen (t.drop (k + 1))) (ls.drop j)) := by
        refine down ?_ fun j hj ihj => ?_
        · rw [goes_jmp, List.drop_length, List.take_length]
          unfold scanL
          have hkr : k_ref1_InsRight (op, (lock, (cond, ((ak, (ar, (ay, an))), ((bk, (br, (bz, bn))), (to, ls)))))) = true := hto
          simp only [T_ref1_thread, goes_br, lt_len_not (Nat.lt_irrefl _), hkr, if_true, wrap_succ (k := k) (by omega)]
          rw [if_neg (by decide)]
          unfold insC v_ref1_InsRight
          dsimp only
          by_cases hr : v_ins_Right (op, (lock, (cond, ((ak, (ar, (ay, an))), ((bk, (br, (bz, bn))), (to, ls)))))) = 0
          · obtain ⟨oa, ob⟩ := opds_ok hr
            obtain ⟨a1, a2⟩ := operand_eq p (ak, (ar, (ay, an))) oa
            obtain ⟨b1, b2⟩ := operand_eq p (bk, (br, (bz, bn))) ob
            by_cases ha : placeC p (ak, (ar, (ay, an))) = 0
            · by_cases hb : placeC p (bk, (br, (bz, bn))) = 0
              · simp [hr, ha, hb, a1, a2, b1, b2]; exact ih
              · simp [hr, ha, hb, a1, a2, b1, b2, goes_leaf]
            · simp [hr, ha, a1, a2, goes_leaf]
          · simp [hr, goes_leaf]
        · have hl := hlab ls[j] (List.getElem_mem hj)
          have hkn : k_ref1_Right ls[j] = true := hl
          have hsl : (labels (t.take k) ++ ls.take j).length < 1099511627776 := by
            rw [List.length_append] at hlt ⊢
            rw [List.length_take]
            omega
          have hki : k_ref1_index (labels (t.take k) ++ ls.take j) ls[j] = true := decide_eq_true (by omega)
          have hap : Nat.ble (((labels (t.take k) ++ ls.take j).length + 1) * 16) limit = true := by apply Nat.ble_eq_true_of_le; unfold limit; omega
          have htj : labels (t.take k) ++ ls.take (j + 1) = (labels (t.take k) ++ ls.take j) ++ [ls[j]] := by
            rw [List.take_add_one, List.getElem?_eq_getElem hj, List.append_assoc]; rfl
          rw [htj] at ihj
          rw [goes_jmp]
          simp only [T_ref1_thread, goes_br, lt_len hj, nng, Bool.and_self, if_true, Int.toNat_natCast, getD_lt hj, wrap_succ (k := j) (by omega), hkn, hki, hap, index_contains]
          rw [drop_cons hj]
          unfold scanL
          by_cases h1 : nameRight ls[j] = false
          · rw [if_pos h1, if_pos (by show (! nameRight ls[j]) = true; rw [h1]; rfl)]; exact .leaf
          · rw [if_neg h1, if_neg (by show ¬ (! nameRight ls[j]) = true; simpa using h1)]
            by_cases h2 : (labels (t.take k) ++ ls.take j).contains ls[j] = true
            · rw [if_pos h2, if_pos h2]; exact .leaf
            · rw [if_neg h2, if_neg h2]; exact ihj
      have := inner 0 (Nat.zero_le _)
      rw [List.drop_zero, List.take_zero, List.append_nil] at this
      exact this
  unfold T0_ref1_thread v_ref1_thread
  have hkc : k_ref1_Count t = true := decide_eq_true hn
  simp only [goes_br, hkc, if_true]
  unfold threadC v_ref1_Count
  by_cases h : 4096 < countM t
  · rw [if_pos (by simp; omega), if_pos h]; exact .leaf
  · rw [if_neg (by simp; omega), if_neg h]
    exact main 0 (Nat.zero_le _)
end Go.Ev
end

section
set_option linter.unusedSectionVars false
set_option linter.unusedVariables false
set_option linter.unusedSimpArgs false
set_option maxRecDepth 100000
set_option linter.unusedVariables false
open Go Go.Ev
namespace Go.Ev
noncomputable def e_ref1_thread : Run := entG sg_ref1_thread R_ref1_thread (fun a => k_ref1_thread a.1 a.2.1) (fun a => v_ref1_thread a.1 a.2.1)
theorem ok_ref1_thread : EntOK Go.Proofs.Tryd.prog 53 e_ref1_thread := entG_ok (tb := tb_ref1_thread) (c := c_ref1_thread) tk_ref1_thread (by kernel_rfl) (by kernel_rfl) (by kernel_rfl) (fun a => by kernel_rfl) fun ⟨p, t, _⟩ hk => evF_goes (c := c_ref1_thread) (K := fun v => (R_ref1_thread v, tps (toForms sg_ref1_thread (p, t, ())))) (S := S_ref1_thread p t) (by kernel_rfl) (en_ref1_thread p t) (lp_ref1_thread p t) (g_ref1_thread p t hk)
end Go.Ev
end

section
set_option linter.unusedSectionVars false
set_option linter.unusedVariables false
set_option linter.unusedSimpArgs false
set_option maxRecDepth 100000
set_option linter.unusedVariables false
open Go Go.Ev
namespace Go.Ev
/-! ### paling/palingref1.Check -/
def sg_ref1_Check : Sig := [(true, T_api_Prog)]
noncomputable def t_ref1_Check : Tbl := [(52, e_ref1_Right), (53, e_ref1_thread)]
theorem tk_ref1_Check : ∀ p ∈ t_ref1_Check, EntOK Go.Proofs.Tryd.prog p.1 p.2 := tbl_cons ok_ref1_Right (tbl_cons ok_ref1_thread (tbl_nil))
noncomputable def c_ref1_Check : Code := Go.Proofs.Tryd.f35.body.getD .skip
def tb_ref1_Check : Tb := [(6, ⟨[1, 3], []⟩), (16, ⟨[1, 3, 4, 5], []⟩), (26, ⟨[1, 6], []⟩)]
inductive J_ref1_Check where
  | l6 (i : Int)
  | l16 (x : ByteArray) (x1 : Int) (x2 : List Int) (i : Int) (k : Int)
  | l26 (i : Int)
def T_ref1_Check (p : El T_api_Prog) : J_ref1_Check → JT J_ref1_Check (Int)
  | .l6 i =>
    .br (decide (i < (Int.ofNat (List.length p.1))))
      (.br ((decide ((0 : Int) ≤ i)) && (decide (i < (Int.ofNat (List.length p.1)))))
        (.br (k_ref1_Right (List.getD p.1 (Int.toNat i) (dflt T_api_Sym)).1)
          (.br (! (v_ref1_Right (List.getD p.1 (Int.toNat i) (dflt T_api_Sym)).1))
            (.leaf (3 : Int))
          (.jmp (.l16 (List.getD p.1 (Int.toNat i) (dflt T_api_Sym)).1 (List.getD p.1 (Int.toNat i) (dflt T_api_Sym)).2.1 (List.getD p.1 (Int.toNat i) (dflt T_api_Sym)).2.2 i (0 : Int))))
        (.no))
      (.no))
    (.jmp (.l26 (0 : Int)))
  | .l16 x x1 x2 i k =>
    .br (decide (k < i))
      (.br ((decide ((0 : Int) ≤ k)) && (decide (k < (Int.ofNat (List.length p.1)))))
        (.br (eqB (List.getD p.1 (Int.toNat k) (dflt T_api_Sym)).1 x)
          (.leaf (6 : Int))
        (.jmp (.l16 x x1 x2 i (IntKind.i64.wrap (k + (1 : Int))))))
      (.no))
    (.br (decide (x1 < (1 : Int)))
      (.leaf (5 : Int))
    (.br (decide (x1 > (64 : Int)))
      (.leaf (5 : Int))
    (.br (decide ((Int.ofNat (List.length x2)) > x1))
      (.leaf (5 : Int))
    (.jmp (.l6 (IntKind.i64.wrap (i + (1 : Int))))))))
  | .l26 i =>
    .br (decide (i < (Int.ofNat (List.length p.2))))
      (.br ((decide ((0 : Int) ≤ i)) && (decide (i < (Int.ofNat (List.length p.2)))))
        (.br (k_ref1_thread p (List.getD p.2 (Int.toNat i) (dflt (.sl T_api_Ins))))
          (.br ((v_ref1_thread p (List.getD p.2 (Int.toNat i) (dflt (.sl T_api_Ins)))) != (0 : Int))
            (.leaf (v_ref1_thread p (List.getD p.2 (Int.toNat i) (dflt (.sl T_api_Ins)))))
          (.jmp (.l26 (IntKind.i64.wrap (i + (1 : Int))))))
        (.no))
      (.no))
    (.leaf (0 : Int))
def T0_ref1_Check (p : El T_api_Prog) : JT J_ref1_Check (Int) :=
  .br (decide ((Int.ofNat (List.length p.1)) > (64 : Int)))
    (.leaf (10 : Int))
  (.br (decide ((Int.ofNat (List.length p.2)) > (64 : Int)))
    (.leaf (10 : Int))
  (.jmp (.l6 (0 : Int))))
def R_ref1_Check : Int → AV := fun (r : Int) => .d (.int .i64) r
def S_ref1_Check (p : El T_api_Prog) : J_ref1_Check → Nat × St
  | .l6 i => (6, ⟨mkTm 81 [(1, .pt 2 0 0), (3, .d (.int .i64) i)], [(2, 0, .box 27 [.d (.sl T_api_Sym) p.1, .d (.sl (.sl T_api_Ins)) p.2] none)]⟩)
  | .l16 x x1 x2 i k => (16, ⟨mkTm 81 [(1, .pt 2 0 0), (3, .d (.int .i64) i), (4, .pt 5 0 0), (5, .d (.int .i64) k)], [(2, 0, .box 27 [.d (.sl T_api_Sym) p.1, .d (.sl (.sl T_api_Ins)) p.2] none), (5, 0, .box 70 [.d .str x, .d (.int .i64) x1, .d (.sl (.int .i64)) x2] none)]⟩)
  | .l26 i => (26, ⟨mkTm 81 [(1, .pt 2 0 0), (6, .d (.int .i64) i)], [(2, 0, .box 27 [.d (.sl T_api_Sym) p.1, .d (.sl (.sl T_api_Ins)) p.2] none)]⟩)
theorem en_ref1_Check (p : El T_api_Prog) (L : Lt) : entryA Go.Proofs.Tryd.prog (clOf t_ref1_Check) tb_ref1_Check Go.Proofs.Tryd.f35 c_ref1_Check L (toForms sg_ref1_Check (p, ())) = (T0_ref1_Check p).run (fun v => some (R_ref1_Check v, tps (toForms sg_ref1_Check (p, ())))) fun j => L (S_ref1_Check p j).1 (S_ref1_Check p j).2 := by kernel_rfl
theorem lp_ref1_Check (p : El T_api_Prog) : ∀ (L : Lt) (j : J_ref1_Check), procOf (procsF Go.Proofs.Tryd.prog (clOf t_ref1_Check) tb_ref1_Check Go.Proofs.Tryd.f35 c_ref1_Check (toForms sg_ref1_Check (p, ()))) (S_ref1_Check p j).1 L (S_ref1_Check p j).2 = (T_ref1_Check p j).run (fun v => some (R_ref1_Check v, tps (toForms sg_ref1_Check (p, ())))) fun j => L (S_ref1_Check p j).1 (S_ref1_Check p j).2
  | L, .l6 i => by kernel_rfl
  | L, .l16 x x1 x2 i k => by kernel_rfl
  | L, .l26 i => by kernel_rfl
end Go.Ev
end

section
set_option linter.unusedSectionVars false
set_option linter.unusedVariables false
set_option linter.unusedSimpArgs false
set_option linter.unusedVariables false
set_option linter.unusedSimpArgs false
open Go
namespace Go.Ev
def v_ref1_Check (p : El T_api_Prog) : Int := checkC p
def k_ref1_Check (p : El T_api_Prog) : Bool := smallProg p
theorem g_ref1_Check (p : El T_api_Prog) (hk : k_ref1_Check p = true) : Goes (T_ref1_Check p) (T0_ref1_Check p) (v_ref1_Check p) := by
  have hth : ∀ t ∈ p.2, smallThread t = true := by
    unfold k_ref1_Check smallProg at hk
    simp only [Bool.and_eq_true, List.all_eq_true] at hk
    exact hk.2
  have hsy : ∀ s ∈ p.1, smallText s.1 = true := by
    unfold k_ref1_Check smallProg at hk
    simp only [Bool.and_eq_true, List.all_eq_true] at hk
    exact hk.1
  obtain ⟨sy, th⟩ := p
  dsimp only at hth hsy
  have ths : th.length ≤ 64 → ∀ k, k ≤ th.length → Goes (T_ref1_Check (sy, th)) (.jmp (.l26 (k : Int))) (thsC (sy, th) (th.drop k)) := by
    intro hn
    refine down ?_ fun k hk ih => ?_
    · rw [goes_jmp]
      simp only [T_ref1_Check, goes_br, lt_len_not (Nat.lt_irrefl _), goes_leaf, List.drop_length]
      simp [thsC]
    · have hkt : k_ref1_thread (sy, th) th[k] = true := hth _ (List.getElem_mem hk)
      rw [goes_jmp]
      simp only [T_ref1_Check, goes_br, lt_len hk, nng, Bool.and_self, if_true, Int.toNat_natCast, getD_lt hk, wrap_succ (k := k) (by omega), hkt]
      rw [drop_cons hk]
      unfold thsC
      show (if (threadC (sy, th) th[k] != 0) = true then _ else _)
      by_cases h : threadC (sy, th) th[k] = 0
      · rw [if_neg (by simp [h]), if_neg (by simp [h])]; exact ih
      · rw [if_pos (by simp [h]), if_pos h]; exact .leaf

  have main : sy.length ≤ 64 → th.length ≤ 64 → ∀ k, k ≤ sy.length → Goes (T_ref1_Check (sy, th)) (.jmp (.l6 (k : Int))) (symsC (thsC (sy, th) th) ((sy.take k).map fun s => s.1) (sy.drop k)) := by
    intro hn hm
    refine down ?_ fun k hk ih => ?_
    · rw [goes_jmp, List.drop_length]
      unfold symsC
      simp only [T_ref1_Check, goes_br, lt_len_not (Nat.lt_irrefl _)]
      rw [if_neg (by decide)]
      simpa using ths hm 0 (Nat.zero_le _)
    · have hkn : k_ref1_Right sy[k].1 = true := hsy _ (List.getElem_mem hk)
      have htk : (sy.take (k + 1)).map (fun s => s.1) = (sy.take k).map (fun s => s.1) ++ [sy[k].1] := by
        rw [List.take_add_one, List.getElem?_eq_getElem hk, List.map_append]; rfl
      rw [htk] at ih
      rw [goes_jmp]
      simp only [T_ref1_Check, goes_br, lt_len hk, nng, Bool.and_self, if_true, Int.toNat_natCast, getD_lt hk, hkn]
      rw [drop_cons hk]
      unfold symsC
      generalize sy[k] = s at ih hkn
      obtain ⟨nm, size, init⟩ := s
      dsimp only at ih hkn ⊢
      change Int at size
      by_cases h1 : nameRight nm = false
      · rw [if_pos h1, if_pos (by show (! nameRight nm) = true; rw [h1]; rfl)]; exact .leaf
      rw [if_neg h1, if_neg (by show ¬ (! nameRight nm) = true; simpa using h1)]
      have inner : ∀ j, j ≤ k → Goes (T_ref1_Check (sy, th)) (.jmp (.l16 nm size init (k : Int) (j : Int))) (if (((sy.take k).drop j).map (fun s => s.1)).contains nm = true then 6 else if size < (1 : Int) ∨ (64 : Int) < size ∨ size < (List.length init : Int) then 5 else symsC (thsC (sy, th) th) ((sy.take k).map (fun s => s.1) ++ [nm]) (sy.drop (k + 1))) := by
        refine down ?_ fun j hj ihj => ?_
        · rw [goes_jmp]
          have : (sy.take k).drop k = [] := List.drop_eq_nil_of_le (by rw [List.length_take]; omega)
          rw [this]
          simp only [T_ref1_Check, goes_br, wrap_succ (k := k) (by omega)]
          rw [if_neg (by simp)]
          simp only [List.map_nil, List.contains_nil, Bool.false_eq_true, if_false]
          by_cases h3 : size < 1
          · rw [if_pos (decide_eq_true h3), if_pos (.inl h3)]; exact .leaf
          rw [if_neg (by simpa using h3)]
          by_cases h4 : 64 < size
          · rw [if_pos (decide_eq_true h4), if_pos (.inr (.inl h4))]; exact .leaf
          rw [if_neg (by simpa using h4)]
          by_cases h5 : size < (List.length init : Int)
          · rw [if_pos (show decide (Int.ofNat (List.length init) > size) = true from decide_eq_true h5), if_pos (.inr (.inr h5))]; exact .leaf
          rw [if_neg (show ¬ decide (Int.ofNat (List.length init) > size) = true by simpa using h5), if_neg (by rintro (h | h | h) <;> contradiction)]
          exact ih
        · have hjs : j < sy.length := by omega
          have hjt : j < (sy.take k).length := by rw [List.length_take]; omega
          rw [goes_jmp, drop_cons hjt, List.map_cons, List.contains_cons, List.getElem_take]
          simp only [T_ref1_Check, goes_br, lt_len hjs, nng, Bool.and_self, if_true, Int.toNat_natCast, getD_lt hjs, wrap_succ (k := j) (by omega), eqB_iff]
          rw [if_pos (by simp; omega)]
          by_cases h2 : sy[j].1 = nm
          · rw [if_pos h2, if_pos (by rw [h2]; simp)]; exact .leaf
          · rw [if_neg h2, beq_false_of_ne (Ne.symm h2), Bool.false_or]; exact ihj
      simpa using inner 0 (Nat.zero_le _)
  unfold T0_ref1_Check v_ref1_Check checkC
  simp only [goes_br]
  by_cases h : 64 < sy.length
  · rw [if_pos (by simp; omega), if_pos (.inl h)]; exact .leaf
  rw [if_neg (by simp; omega)]
  by_cases h2 : 64 < th.length
  · rw [if_pos (by simp; omega), if_pos (.inr h2)]; exact .leaf
  rw [if_neg (by simp; omega), if_neg (by rintro (h | h) <;> contradiction)]
  exact main (by omega) (by omega) 0 (Nat.zero_le _)
end Go.Ev
end

section
set_option linter.unusedSectionVars false
set_option linter.unusedVariables false
set_option linter.unusedSimpArgs false
set_option maxRecDepth 100000
set_option linter.unusedVariables false
open Go Go.Ev
namespace Go.Ev
noncomputable def e_ref1_Check : Run := entG sg_ref1_Check R_ref1_Check (fun a => k_ref1_Check a.1) (fun a => v_ref1_Check a.1)
theorem ok_ref1_Check : EntOK Go.Proofs.Tryd.prog 35 e_ref1_Check := entG_ok (tb := tb_ref1_Check) (c := c_ref1_Check) tk_ref1_Check (by kernel_rfl) (by kernel_rfl) (by kernel_rfl) (fun a => by kernel_rfl) fun ⟨p, _⟩ hk => evF_goes (c := c_ref1_Check) (K := fun v => (R_ref1_Check v, tps (toForms sg_ref1_Check (p, ())))) (S := S_ref1_Check p) (by kernel_rfl) (en_ref1_Check p) (lp_ref1_Check p) (g_ref1_Check p hk)
end Go.Ev
end

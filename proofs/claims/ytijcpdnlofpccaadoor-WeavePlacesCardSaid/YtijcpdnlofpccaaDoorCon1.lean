/- Part of the proof of: For all points and any number, where fences stand and which place is which is what the document's answer says: the law answers true for every input. -/
import Derived.Test.YtijcpdnlofpccaaDoorCon0
section
set_option linter.unusedSectionVars false
set_option linter.unusedVariables false
set_option linter.unusedSimpArgs false
set_option maxRecDepth 100000
set_option linter.unusedVariables false
open Go Go.Ev
namespace Go.Ev
/-! ### paling/valid.Copy -/
def sg_valid_Copy : Sig := [(true, T_api_Prog)]
noncomputable def t_valid_Copy : Tbl := []
theorem tk_valid_Copy : ∀ p ∈ t_valid_Copy, EntOK Go.Proofs.Tryd.prog p.1 p.2 := tbl_nil
noncomputable def c_valid_Copy : Code := Go.Proofs.Tryd.f41.body.getD .skip
def tb_valid_Copy : Tb := [(4, ⟨[1, 2, 3, 12, 13, 14], [(4097, 48)]⟩), (12, ⟨[2, 3, 31, 32, 33], [(4098, 50)]⟩), (20, ⟨[2, 3, 8, 31, 32, 33, 38, 39, 40], [(9217, 112)]⟩)]
inductive J_valid_Copy where
  | l4 (h : Int) (q : List (El T_api_Sym))
  | l12 (q : List (El T_api_Sym)) (h : Int) (q1 : List (List (El T_api_Ins)))
  | l20 (h : List (El T_api_Ins)) (h1 : Int) (q : List (El T_api_Sym)) (h2 : Int) (u : List (El T_api_Ins)) (h3 : Int) (q1 : List (List (El T_api_Ins)))
def T_valid_Copy (p : El T_api_Prog) : J_valid_Copy → JT J_valid_Copy (El T_api_Prog)
  | .l4 h q =>
    .br (decide (h < (Int.ofNat (List.length p.1))))
      (.br ((decide ((0 : Int) ≤ h)) && (decide (h < (Int.ofNat (List.length p.1)))))
        (.br (Nat.ble ((0 + (List.length (List.getD p.1 (Int.toNat h) (dflt T_api_Sym)).2.2)) * 8) limit)
          (.br (Nat.ble (((List.length q) + 1) * 48) limit)
            (.jmp (.l4 (IntKind.i64.wrap (h + (1 : Int))) (q ++ [(List.getD p.1 (Int.toNat h) (dflt T_api_Sym))])))
          (.no))
        (.no))
      (.no))
    (.jmp (.l12 q (0 : Int) []))
  | .l12 q h q1 =>
    .br (decide (h < (Int.ofNat (List.length p.2))))
      (.br ((decide ((0 : Int) ≤ h)) && (decide (h < (Int.ofNat (List.length p.2)))))
        (.jmp (.l20 (List.getD p.2 (Int.toNat h) (dflt (.sl T_api_Ins))) (Int.ofNat (List.length (List.getD p.2 (Int.toNat h) (dflt (.sl T_api_Ins))))) q (0 : Int) [] h q1))
      (.no))
    (.leaf (q, q1))
  | .l20 h h1 q h2 u h3 q1 =>
    .br (decide (h2 < h1))
      (.br ((decide ((0 : Int) ≤ h2)) && (decide (h2 < (Int.ofNat (List.length h)))))
        (.br (Nat.ble ((0 + (List.length (List.getD h (Int.toNat h2) (dflt T_api_Ins)).2.2.2.2.2.2)) * 16) limit)
          (.br (Nat.ble (((List.length u) + 1) * 128) limit)
            (.jmp (.l20 h h1 q (IntKind.i64.wrap (h2 + (1 : Int))) (u ++ [(List.getD h (Int.toNat h2) (dflt T_api_Ins))]) h3 q1))
          (.no))
        (.no))
      (.no))
    (.br (Nat.ble (((List.length q1) + 1) * 24) limit)
      (.jmp (.l12 q (IntKind.i64.wrap (h3 + (1 : Int))) (q1 ++ [u])))
    (.no))
def T0_valid_Copy (p : El T_api_Prog) : JT J_valid_Copy (El T_api_Prog) :=
  .jmp (.l4 (0 : Int) [])
def R_valid_Copy : El T_api_Prog → AV := fun (r : El T_api_Prog) => .ag [.rw 70 T_api_Sym r.1, .rw 58 (.sl T_api_Ins) r.2]
def S_valid_Copy (p : El T_api_Prog) : J_valid_Copy → Nat × St
  | .l4 h q => (4, ⟨mkTm 64 [(1, .pt 2 0 0), (2, .pt 3 0 0), (3, .pt 4 0 0), (12, .d (.sl T_api_Sym) p.1), (13, .d (.int .i64) (Int.ofNat (List.length p.1))), (14, .d (.int .i64) h)], [(2, 0, .box 27 [.d (.sl T_api_Sym) p.1, .d (.sl (.sl T_api_Ins)) p.2] none), (3, 0, .box 27 [.nil, .nil] none), (4, 0, .box 27 [.own 4097 0 none, .nil] none), (4097, 0, .row 70 T_api_Sym q false)]⟩)
  | .l12 q h q1 => (12, ⟨mkTm 64 [(2, .pt 3 0 0), (3, .pt 4 0 0), (31, .d (.sl (.sl T_api_Ins)) p.2), (32, .d (.int .i64) (Int.ofNat (List.length p.2))), (33, .d (.int .i64) h)], [(3, 0, .box 27 [.nil, .nil] none), (4, 0, .box 27 [.own 4097 0 none, .own 4098 0 none] none), (4097, 0, .row 70 T_api_Sym q false), (4098, 0, .row 58 (.sl T_api_Ins) q1 false)]⟩)
  | .l20 h h1 q h2 u h3 q1 => (20, ⟨mkTm 64 [(2, .pt 3 0 0), (3, .pt 4 0 0), (8, .pt 9 0 0), (31, .d (.sl (.sl T_api_Ins)) p.2), (32, .d (.int .i64) (Int.ofNat (List.length p.2))), (33, .d (.int .i64) h3), (38, .d (.sl T_api_Ins) h), (39, .d (.int .i64) h1), (40, .d (.int .i64) h2)], [(3, 0, .box 27 [.nil, .nil] none), (4, 0, .box 27 [.own 4097 0 none, .own 4098 0 none] none), (9, 0, .box 58 [.own 9217 0 none] none), (4097, 0, .row 70 T_api_Sym q false), (4098, 0, .row 58 (.sl T_api_Ins) q1 false), (9217, 0, .row 63 T_api_Ins u false)]⟩)
theorem en_valid_Copy (p : El T_api_Prog) (L : Lt) : entryA Go.Proofs.Tryd.prog (clOf t_valid_Copy) tb_valid_Copy Go.Proofs.Tryd.f41 c_valid_Copy L (toForms sg_valid_Copy (p, ())) = (T0_valid_Copy p).run (fun v => some (R_valid_Copy v, tps (toForms sg_valid_Copy (p, ())))) fun j => L (S_valid_Copy p j).1 (S_valid_Copy p j).2 := by kernel_rfl
theorem lp_valid_Copy (p : El T_api_Prog) : ∀ (L : Lt) (j : J_valid_Copy), procOf (procsF Go.Proofs.Tryd.prog (clOf t_valid_Copy) tb_valid_Copy Go.Proofs.Tryd.f41 c_valid_Copy (toForms sg_valid_Copy (p, ()))) (S_valid_Copy p j).1 L (S_valid_Copy p j).2 = (T_valid_Copy p j).run (fun v => some (R_valid_Copy v, tps (toForms sg_valid_Copy (p, ())))) fun j => L (S_valid_Copy p j).1 (S_valid_Copy p j).2
  | L, .l4 h q => by kernel_rfl
  | L, .l12 q h q1 => by kernel_rfl
  | L, .l20 h h1 q h2 u h3 q1 => by kernel_rfl
end Go.Ev
end

section
set_option linter.unusedSectionVars false
set_option linter.unusedVariables false
set_option linter.unusedSimpArgs false
/- What a copy of a program needs of memory. -/
set_option linter.unusedVariables false
set_option linter.unusedSimpArgs false
namespace Go.Ev
open Go
def copyIns (i : El T_api_Ins) : Bool := decide (List.length i.2.2.2.2.2.2 < 1073741824)
def copyThread (t : List (El T_api_Ins)) : Bool := decide (t.length < 1073741824) && t.all copyIns
def copyB (p : El T_api_Prog) : Bool := decide (p.1.length < 1073741824) && ((p.1.all fun s => decide (List.length s.2.2 < 1073741824)) && (decide (p.2.length < 1073741824) && p.2.all copyThread))
structure CopyOK (p : El T_api_Prog) : Prop where
  syms : p.1.length < 1073741824
  init : ∀ s ∈ p.1, List.length s.2.2 < 1073741824
  thr : p.2.length < 1073741824
  len : ∀ t ∈ p.2, List.length t < 1073741824
  lab : ∀ t ∈ p.2, ∀ i ∈ t, List.length i.2.2.2.2.2.2 < 1073741824
theorem copyOK {p : El T_api_Prog} (h : copyB p = true) : CopyOK p := by
  unfold copyB copyThread copyIns at h
  simp only [Bool.and_eq_true, decide_eq_true_eq, List.all_eq_true] at h
  exact ⟨h.1, h.2.1, h.2.2.1, fun t ht => (h.2.2.2 t ht).1, fun t ht => (h.2.2.2 t ht).2⟩
theorem bleN {n b : Nat} (h : n * b ≤ limit) : Nat.ble (n * b) limit = true := Nat.ble_eq_true_of_le h
end Go.Ev
end

section
set_option linter.unusedSectionVars false
set_option linter.unusedVariables false
set_option linter.unusedSimpArgs false
set_option linter.unusedVariables false
set_option linter.unusedSimpArgs false
open Go
namespace Go.Ev
def v_valid_Copy (p : El T_api_Prog) : El T_api_Prog := p
def k_valid_Copy (p : El T_api_Prog) : Bool := copyB p
theorem g_valid_Copy (p : El T_api_Prog) (hk : k_valid_Copy p = true) : Goes (T_valid_Copy p) (T0_valid_Copy p) (v_valid_Copy p) := by
  have hC := copyOK hk
  have h1 := hC.syms
  have h2 := hC.thr
  have l12 : ∀ k, k ≤ p.2.length → Goes (T_valid_Copy p) (.jmp (.l12 p.1 (k : Int) (p.2.take k))) p := by
    refine down ?_ fun k hk ih => ?_
    · rw [goes_jmp]
      simp only [T_valid_Copy, goes_br, lt_len_not (Nat.lt_irrefl _), List.take_length, if_false, Bool.false_eq_true]
      exact .leaf
    · obtain ⟨t, ht⟩ : ∃ t, p.2[k] = t := ⟨_, rfl⟩
      have hm : t ∈ p.2 := by rw [← ht]; exact List.getElem_mem hk
      have hl := hC.len t hm
      have l20 : ∀ j, j ≤ List.length t → Goes (T_valid_Copy p) (.jmp (.l20 t (Int.ofNat (List.length t)) p.1 (j : Int) (List.take j t) (k : Int) (p.2.take k))) p := by
        refine down ?_ fun j hj ihj => ?_
        · have b : Nat.ble (((p.2.take k).length + 1) * 24) limit = true := bleN (by rw [List.length_take]; unfold limit; omega)
          rw [goes_jmp]
          simp only [T_valid_Copy, goes_br, lt_len_not (Nat.lt_irrefl _), b, if_true, if_false, Bool.false_eq_true, wrap_succ (k := k) (by omega), List.take_length]
          rw [← ht, ← List.take_succ_eq_append_getElem hk]
          exact ih
        · have hb := hC.lab t hm _ (List.getElem_mem hj)
          have b1 : Nat.ble ((0 + List.length (t[j]).2.2.2.2.2.2) * 16) limit = true := bleN (by unfold limit; omega)
          have b2 : Nat.ble (((List.take j t).length + 1) * 128) limit = true := bleN (by rw [List.length_take]; unfold limit; omega)
          rw [goes_jmp]
          simp only [T_valid_Copy, goes_br, lt_len hj, nng, Bool.and_self, if_true, Int.toNat_natCast, getD_lt hj, b1, b2, wrap_succ (k := j) (by omega)]
          rw [← List.take_succ_eq_append_getElem hj]
          exact ihj
      rw [goes_jmp]
      simp only [T_valid_Copy, goes_br, lt_len hk, nng, Bool.and_self, if_true, Int.toNat_natCast, getD_lt hk, ht]
      exact l20 0 (Nat.zero_le _)
  have l4 : ∀ k, k ≤ p.1.length → Goes (T_valid_Copy p) (.jmp (.l4 (k : Int) (p.1.take k))) p := by
    refine down ?_ fun k hk ih => ?_
    · rw [goes_jmp]
      simp only [T_valid_Copy, goes_br, lt_len_not (Nat.lt_irrefl _), List.take_length, if_false, Bool.false_eq_true]
      exact l12 0 (Nat.zero_le _)
    · have hi := hC.init _ (List.getElem_mem hk)
      have b1 : Nat.ble ((0 + List.length (p.1[k]).2.2) * 8) limit = true := bleN (by unfold limit; omega)
      have b2 : Nat.ble (((p.1.take k).length + 1) * 48) limit = true := bleN (by rw [List.length_take]; unfold limit; omega)
      rw [goes_jmp]
      simp only [T_valid_Copy, goes_br, lt_len hk, nng, Bool.and_self, if_true, Int.toNat_natCast, getD_lt hk, b1, b2, wrap_succ (k := k) (by omega)]
      rw [← List.take_succ_eq_append_getElem hk]
      exact ih
  unfold T0_valid_Copy v_valid_Copy
  exact l4 0 (Nat.zero_le _)
end Go.Ev
end

section
set_option linter.unusedSectionVars false
set_option linter.unusedVariables false
set_option linter.unusedSimpArgs false
set_option maxRecDepth 100000
set_option linter.unusedVariables false
open Go Go.Ev
namespace Go.Ev
noncomputable def e_valid_Copy : Run := entG sg_valid_Copy R_valid_Copy (fun a => k_valid_Copy a.1) (fun a => v_valid_Copy a.1)
theorem ok_valid_Copy : EntOK Go.Proofs.Tryd.prog 41 e_valid_Copy := entG_ok (tb := tb_valid_Copy) (c := c_valid_Copy) tk_valid_Copy (by kernel_rfl) (by kernel_rfl) (by kernel_rfl) (fun a => by kernel_rfl) fun ⟨p, _⟩ hk => evF_goes (c := c_valid_Copy) (K := fun v => (R_valid_Copy v, tps (toForms sg_valid_Copy (p, ())))) (S := S_valid_Copy p) (by kernel_rfl) (en_valid_Copy p) (lp_valid_Copy p) (g_valid_Copy p hk)
end Go.Ev
end

section
set_option linter.unusedSectionVars false
set_option linter.unusedVariables false
set_option linter.unusedSimpArgs false
set_option maxRecDepth 100000
set_option linter.unusedVariables false
open Go Go.Ev
namespace Go.Ev
/-! ### paling/weave.of -/
def sg_weave_of : Sig := [(false, (.sl (.sl (.int .i64)))), (false, (.int .i64))]
noncomputable def t_weave_of : Tbl := []
theorem tk_weave_of : ∀ p ∈ t_weave_of, EntOK Go.Proofs.Tryd.prog p.1 p.2 := tbl_nil
noncomputable def c_weave_of : Code := Go.Proofs.Tryd.f42.body.getD .skip
def tb_weave_of : Tb := [(hintK, ⟨[], [(1, 73)]⟩)]
def T_weave_of (l : List (List Int)) (t : Int) : Empty → JT Empty (List Int) := fun j => nomatch j
def T0_weave_of (l : List (List Int)) (t : Int) : JT Empty (List Int) :=
  .br (decide (t < (Int.ofNat (List.length l))))
    (.br ((decide ((0 : Int) ≤ t)) && (decide (t < (Int.ofNat (List.length l)))))
      (.leaf (List.getD l (Int.toNat t) (dflt (.sl (.int .i64)))))
    (.no))
  (.leaf [])
def v_weave_of (l : List (List Int)) (t : Int) : List Int :=
  bif (decide (t < (Int.ofNat (List.length l)))) then
    bif ((decide ((0 : Int) ≤ t)) && (decide (t < (Int.ofNat (List.length l))))) then
      (List.getD l (Int.toNat t) (dflt (.sl (.int .i64))))
    else []
  else []
def k_weave_of (l : List (List Int)) (t : Int) : Bool :=
  bif (decide (t < (Int.ofNat (List.length l)))) then
    bif ((decide ((0 : Int) ≤ t)) && (decide (t < (Int.ofNat (List.length l))))) then
      true
    else false
  else true
theorem g_weave_of (l : List (List Int)) (t : Int) (hk : k_weave_of l t = true) : Goes (T_weave_of l t) (T0_weave_of l t) (v_weave_of l t) :=
  Goes.brk hk (fun hk =>
    Goes.brk hk (fun hk =>
      Goes.leaf) (fun hk =>
      Goes.nok hk)) (fun hk =>
    Goes.leaf)
def R_weave_of : List Int → AV := fun (r : List Int) => .d (.sl (.int .i64)) r
def S_weave_of (l : List (List Int)) (t : Int) : Empty → Nat × St := fun j => nomatch j
theorem en_weave_of (l : List (List Int)) (t : Int) (L : Lt) : entryA Go.Proofs.Tryd.prog (clOf t_weave_of) tb_weave_of Go.Proofs.Tryd.f42 c_weave_of L (toForms sg_weave_of (l, t, ())) = (T0_weave_of l t).run (fun v => some (R_weave_of v, tps (toForms sg_weave_of (l, t, ())))) fun j => L (S_weave_of l t j).1 (S_weave_of l t j).2 := by kernel_rfl
theorem lp_weave_of (l : List (List Int)) (t : Int) : ∀ (L : Lt) (j : Empty), procOf (procsF Go.Proofs.Tryd.prog (clOf t_weave_of) tb_weave_of Go.Proofs.Tryd.f42 c_weave_of (toForms sg_weave_of (l, t, ()))) (S_weave_of l t j).1 L (S_weave_of l t j).2 = (T_weave_of l t j).run (fun v => some (R_weave_of v, tps (toForms sg_weave_of (l, t, ())))) fun j => L (S_weave_of l t j).1 (S_weave_of l t j).2 := fun L j => nomatch j
noncomputable def e_weave_of : Run := entG sg_weave_of R_weave_of (fun a => k_weave_of a.1 a.2.1) (fun a => v_weave_of a.1 a.2.1)
theorem ok_weave_of : EntOK Go.Proofs.Tryd.prog 42 e_weave_of := entG_ok (tb := tb_weave_of) (c := c_weave_of) tk_weave_of (by kernel_rfl) (by kernel_rfl) (by kernel_rfl) (fun a => by kernel_rfl) fun ⟨l, t, _⟩ hk => evF_goes (c := c_weave_of) (K := fun v => (R_weave_of v, tps (toForms sg_weave_of (l, t, ())))) (S := S_weave_of l t) (by kernel_rfl) (en_weave_of l t) (lp_weave_of l t) (g_weave_of l t hk)
end Go.Ev
end

section
set_option linter.unusedSectionVars false
set_option linter.unusedVariables false
set_option linter.unusedSimpArgs false
set_option maxRecDepth 100000
set_option linter.unusedVariables false
open Go Go.Ev
namespace Go.Ev
/-! ### paling/weave.In -/
def sg_weave_In : Sig := [(true, T_api_Prog), (false, (.sl (.sl (.int .i64))))]
noncomputable def t_weave_In : Tbl := [(39, e_valid_Check), (40, e_weave_order), (41, e_valid_Copy), (42, e_weave_of)]
theorem tk_weave_In : ∀ p ∈ t_weave_In, EntOK Go.Proofs.Tryd.prog p.1 p.2 := tbl_cons ok_valid_Check (tbl_cons ok_weave_order (tbl_cons ok_valid_Copy (tbl_cons ok_weave_of (tbl_nil))))
noncomputable def c_weave_In : Code := Go.Proofs.Tryd.f14.body.getD .skip
def tb_weave_In : Tb := [(6, ⟨[1, 2, 4, 26, 27, 28], []⟩), (16, ⟨[1, 4, 8, 63, 64], []⟩), (25, ⟨[1, 4, 8, 9, 10, 11, 63, 64, 75, 76, 77], [(12, 112)]⟩), (hintK, ⟨[], [(1049601, 48), (1049602, 50)]⟩)]
inductive J_weave_In where
  | l6 (h : Int)
  | l16 (h : Int) (q : List (List (El T_api_Ins)))
  | l25 (h : List (El T_api_Ins)) (h1 : Int) (l : List Int) (h2 : Int) (out : List (El T_api_Ins)) (t : Int) (h3 : Int) (q : List (List (El T_api_Ins)))
def T_weave_In (p : El T_api_Prog) (points : List (List Int)) : J_weave_In → JT J_weave_In ((El T_api_Prog) × Bool)
  | .l6 h =>
    .br (decide (h < (Int.ofNat (List.length points))))
      (.br ((decide ((0 : Int) ≤ h)) && (decide (h < (Int.ofNat (List.length points)))))
        (.br (k_weave_order (List.getD points (Int.toNat h) (dflt (.sl (.int .i64)))))
          (.br (! (v_weave_order (List.getD points (Int.toNat h) (dflt (.sl (.int .i64))))))
            (.leaf (([], []), false))
          (.br (decide ((Int.ofNat (List.length (List.getD points (Int.toNat h) (dflt (.sl (.int .i64)))))) > (0 : Int)))
            (.br ((decide ((0 : Int) ≤ (IntKind.i64.wrap ((Int.ofNat (List.length (List.getD points (Int.toNat h) (dflt (.sl (.int .i64)))))) - (1 : Int))))) && (decide ((IntKind.i64.wrap ((Int.ofNat (List.length (List.getD points (Int.toNat h) (dflt (.sl (.int .i64)))))) - (1 : Int))) < (Int.ofNat (List.length (List.getD points (Int.toNat h) (dflt (.sl (.int .i64)))))))))
              (.br ((decide ((0 : Int) ≤ h)) && (decide (h < (Int.ofNat (List.length p.2)))))
                (.br (decide ((List.getD (List.getD points (Int.toNat h) (dflt (.sl (.int .i64)))) (Int.toNat (IntKind.i64.wrap ((Int.ofNat (List.length (List.getD points (Int.toNat h) (dflt (.sl (.int .i64)))))) - (1 : Int)))) (dflt (.int .i64))) ≥ (Int.ofNat (List.length (List.getD p.2 (Int.toNat h) (dflt (.sl T_api_Ins)))))))
                  (.leaf (([], []), false))
                (.jmp (.l6 (IntKind.i64.wrap (h + (1 : Int))))))
              (.no))
            (.no))
          (.jmp (.l6 (IntKind.i64.wrap (h + (1 : Int)))))))
        (.no))
      (.no))
    (.br (k_valid_Copy p)
      (.jmp (.l16 (0 : Int) (v_valid_Copy p).2))
    (.no))
  | .l16 h q =>
    .br (decide (h < (Int.ofNat (List.length (v_valid_Copy p).2))))
      (.br (k_weave_of points h)
        (.br ((decide ((0 : Int) ≤ h)) && (decide (h < (Int.ofNat (List.length q)))))
          (.jmp (.l25 (List.getD q (Int.toNat h) (dflt (.sl T_api_Ins))) (Int.ofNat (List.length (List.getD q (Int.toNat h) (dflt (.sl T_api_Ins))))) (v_weave_of points h) (0 : Int) [] h h q))
        (.no))
      (.no))
    (.leaf (((v_valid_Copy p).1, q), true))
  | .l25 h h1 l h2 out t h3 q =>
    .br (decide (h2 < h1))
      (.br ((decide ((0 : Int) ≤ h2)) && (decide (h2 < (Int.ofNat (List.length h)))))
        (.br (decide ((Int.ofNat (List.length l)) > (0 : Int)))
          (.br (decide ((0 : Int) < (Int.ofNat (List.length l))))
            (.br ((List.getD l 0 (dflt (.int .i64))) == h2)
              (.br ((((decide ((0 : Int) ≤ (Int.ofNat (List.length l)))) && (decide ((Int.ofNat (List.length l)) ≤ (Int.ofNat (List.length l))))) && true) && (decide ((1 : Int) ≤ (Int.ofNat (List.length l)))))
                (.br (Nat.ble (((List.length out) + 1) * 128) limit)
                  (.br (Nat.ble (((List.length (out ++ [((12 : Int), (false, ((0 : Int), (((0 : Int), ((0 : Int), ((0 : Int), (0 : Int)))), (((0 : Int), ((0 : Int), ((0 : Int), (0 : Int)))), ((bs []), (List.getD h (Int.toNat h2) (dflt T_api_Ins)).2.2.2.2.2.2))))))])) + 1) * 128) limit)
                    (.jmp (.l25 h h1 (List.drop 1 (List.take (List.length l) l)) (IntKind.i64.wrap (h2 + (1 : Int))) ((out ++ [((12 : Int), (false, ((0 : Int), (((0 : Int), ((0 : Int), ((0 : Int), (0 : Int)))), (((0 : Int), ((0 : Int), ((0 : Int), (0 : Int)))), ((bs []), (List.getD h (Int.toNat h2) (dflt T_api_Ins)).2.2.2.2.2.2))))))]) ++ [((List.getD h (Int.toNat h2) (dflt T_api_Ins)).1, ((List.getD h (Int.toNat h2) (dflt T_api_Ins)).2.1, ((List.getD h (Int.toNat h2) (dflt T_api_Ins)).2.2.1, ((List.getD h (Int.toNat h2) (dflt T_api_Ins)).2.2.2.1, ((List.getD h (Int.toNat h2) (dflt T_api_Ins)).2.2.2.2.1, ((List.getD h (Int.toNat h2) (dflt T_api_Ins)).2.2.2.2.2.1, []))))))]) t h3 q))
                  (.no))
                (.no))
              (.no))
            (.br (Nat.ble (((List.length out) + 1) * 128) limit)
              (.jmp (.l25 h h1 l (IntKind.i64.wrap (h2 + (1 : Int))) (out ++ [(List.getD h (Int.toNat h2) (dflt T_api_Ins))]) t h3 q))
            (.no)))
          (.no))
        (.br (Nat.ble (((List.length out) + 1) * 128) limit)
          (.jmp (.l25 h h1 l (IntKind.i64.wrap (h2 + (1 : Int))) (out ++ [(List.getD h (Int.toNat h2) (dflt T_api_Ins))]) t h3 q))
        (.no)))
      (.no))
    (.br ((decide ((0 : Int) ≤ t)) && (decide (t < (Int.ofNat (List.length q)))))
      (.jmp (.l16 (IntKind.i64.wrap (h3 + (1 : Int))) (List.set q (Int.toNat t) out)))
    (.no))
def T0_weave_In (p : El T_api_Prog) (points : List (List Int)) : JT J_weave_In ((El T_api_Prog) × Bool) :=
  .br (k_valid_Check p)
    (.br ((v_valid_Check p) != (0 : Int))
      (.leaf (([], []), false))
    (.br (decide ((Int.ofNat (List.length points)) > (Int.ofNat (List.length p.2))))
      (.leaf (([], []), false))
    (.jmp (.l6 (0 : Int)))))
  (.no)
def R_weave_In : (El T_api_Prog) × Bool → AV := fun (r : (El T_api_Prog) × Bool) => .tu [.ag [.rw 70 T_api_Sym r.1.1, .rw 58 (.sl T_api_Ins) r.1.2], .d .bool r.2]
def S_weave_In (p : El T_api_Prog) (points : List (List Int)) : J_weave_In → Nat × St
  | .l6 h => (6, ⟨mkTm 114 [(1, .d (.sl (.sl (.int .i64))) points), (2, .pt 3 0 0), (4, .pt 5 0 0), (26, .d (.sl (.sl (.int .i64))) points), (27, .d (.int .i64) (Int.ofNat (List.length points))), (28, .d (.int .i64) h)], [(3, 0, .box 27 [.d (.sl T_api_Sym) p.1, .d (.sl (.sl T_api_Ins)) p.2] none), (5, 0, .box 27 [.nil, .nil] none)]⟩)
  | .l16 h q => (16, ⟨mkTm 114 [(1, .d (.sl (.sl (.int .i64))) points), (4, .pt 5 0 0), (8, .pt 9 0 0), (63, .d (.int .i64) (Int.ofNat (List.length (v_valid_Copy p).2))), (64, .d (.int .i64) h)], [(5, 0, .box 27 [.nil, .nil] none), (9, 0, .box 27 [.own 9217 0 none, .own 9218 0 none] none), (9217, 0, .row 70 T_api_Sym (v_valid_Copy p).1 false), (9218, 0, .row 58 (.sl T_api_Ins) q false)]⟩)
  | .l25 h h1 l h2 out t h3 q => (25, ⟨mkTm 114 [(1, .d (.sl (.sl (.int .i64))) points), (4, .pt 5 0 0), (8, .pt 9 0 0), (9, .d (.int .i64) t), (10, .d (.sl (.int .i64)) l), (11, .own 12 0 none), (63, .d (.int .i64) (Int.ofNat (List.length (v_valid_Copy p).2))), (64, .d (.int .i64) h3), (75, .d (.sl T_api_Ins) h), (76, .d (.int .i64) h1), (77, .d (.int .i64) h2)], [(5, 0, .box 27 [.nil, .nil] none), (9, 0, .box 27 [.own 9217 0 none, .own 9218 0 none] none), (12, 0, .row 63 T_api_Ins out false), (9217, 0, .row 70 T_api_Sym (v_valid_Copy p).1 false), (9218, 0, .row 58 (.sl T_api_Ins) q false)]⟩)
theorem en_weave_In (p : El T_api_Prog) (points : List (List Int)) (L : Lt) : entryA Go.Proofs.Tryd.prog (clOf t_weave_In) tb_weave_In Go.Proofs.Tryd.f14 c_weave_In L (toForms sg_weave_In (p, points, ())) = (T0_weave_In p points).run (fun v => some (R_weave_In v, tps (toForms sg_weave_In (p, points, ())))) fun j => L (S_weave_In p points j).1 (S_weave_In p points j).2 := by kernel_rfl
theorem lp_weave_In (p : El T_api_Prog) (points : List (List Int)) : ∀ (L : Lt) (j : J_weave_In), procOf (procsF Go.Proofs.Tryd.prog (clOf t_weave_In) tb_weave_In Go.Proofs.Tryd.f14 c_weave_In (toForms sg_weave_In (p, points, ()))) (S_weave_In p points j).1 L (S_weave_In p points j).2 = (T_weave_In p points j).run (fun v => some (R_weave_In v, tps (toForms sg_weave_In (p, points, ())))) fun j => L (S_weave_In p points j).1 (S_weave_In p points j).2
  | L, .l6 h => by kernel_rfl
  | L, .l16 h q => by kernel_rfl
  | L, .l25 h h1 l h2 out t h3 q => by kernel_rfl
end Go.Ev
end

section
set_option linter.unusedSectionVars false
set_option linter.unusedVariables false
set_option linter.unusedSimpArgs false
/- Fences laid into programs, and taken out: over lists. -/
set_option linter.unusedVariables false
set_option linter.unusedSimpArgs false
namespace Go.Ev
open Go
def fenceI (ls : List ByteArray) : El T_api_Ins := ((12 : Int), (false, ((0 : Int), (((0 : Int), ((0 : Int), ((0 : Int), (0 : Int)))), (((0 : Int), ((0 : Int), ((0 : Int), (0 : Int)))), ((bs []), ls))))))
def withLs (i : El T_api_Ins) (ls : List ByteArray) : El T_api_Ins := (i.1, (i.2.1, (i.2.2.1, (i.2.2.2.1, (i.2.2.2.2.1, (i.2.2.2.2.2.1, ls))))))
def labsOf (i : El T_api_Ins) : List ByteArray := i.2.2.2.2.2.2
/-- Fences ahead of the places of a list. -/
def laidT (l : List Int) : Nat → List (El T_api_Ins) → List (El T_api_Ins)
  | _, [] => []
  | k, i :: r => if l.contains (k : Int) then fenceI (labsOf i) :: withLs i [] :: laidT l (k + 1) r else i :: laidT l (k + 1) r
theorem laidT_len (l : List Int) : ∀ (x : List (El T_api_Ins)) (k : Nat), (laidT l k x).length ≤ 2 * x.length
  | [], _ => Nat.zero_le _
  | i :: r, k => by
    have := laidT_len l r (k + 1)
    unfold laidT
    split <;> simp only [List.length_cons] <;> omega
theorem laidT_nil : ∀ (x : List (El T_api_Ins)) (k : Nat), laidT [] k x = x
  | [], _ => rfl
  | i :: r, k => by
    unfold laidT
    rw [laidT_nil r (k + 1), if_neg (by simp)]
def laidP : List (List Int) → List (List (El T_api_Ins)) → List (List (El T_api_Ins))
  | _, [] => []
  | [], x :: xs => x :: xs
  | l :: ls, x :: xs => laidT l 0 x :: laidP ls xs
theorem laidP_len : ∀ (ls : List (List Int)) (xs : List (List (El T_api_Ins))), (laidP ls xs).length = xs.length
  | _, [] => by cases ‹List (List Int)› <;> rfl
  | [], x :: xs => rfl
  | l :: ls, x :: xs => by unfold laidP; rw [List.length_cons, List.length_cons, laidP_len ls xs]
theorem laidP_get : ∀ (ls : List (List Int)) (xs : List (List (El T_api_Ins))) (t : Nat) (h : t < xs.length), (laidP ls xs)[t]? = some (laidT (ls.getD t []) 0 xs[t])
  | [], x :: xs, t, h => by
    unfold laidP
    rw [List.getElem?_eq_getElem h]
    have : List.getD ([] : List (List Int)) t [] = [] := by simp
    rw [this, laidT_nil]
  | l :: ls, x :: xs, 0, h => rfl
  | l :: ls, x :: xs, t + 1, h => by
    unfold laidP
    rw [List.getElem?_cons_succ, laidP_get ls xs t (by simpa using h)]
    simp
/-- May these be points of a thread of so many? -/
def okPts (l : List Int) (n : Nat) : Bool := rising l && l.all fun x => decide (x < (n : Int))
def okAll : List (List Int) → List (List (El T_api_Ins)) → Bool
  | [], _ => true
  | l :: ls, x :: xs => okPts l x.length && okAll ls xs
  | _ :: _, [] => false
theorem okAll_drop {ls : List (List Int)} {xs : List (List (El T_api_Ins))} {k : Nat} (h : k < ls.length) (h' : k < xs.length) : okAll (ls.drop k) (xs.drop k) = (okPts ls[k] (List.length xs[k]) && okAll (ls.drop (k + 1)) (xs.drop (k + 1))) := by
  rw [drop_cons h, drop_cons h']; rfl
/-- The last of a rising list is the greatest. -/
theorem last_ge {l : List Int} (hr : rising l = true) (h : 0 < l.length) (n : Nat) : decide (l[l.length - 1]'(by omega) ≥ (n : Int)) = ! l.all fun x => decide (x < (n : Int)) := by
  have hp := (rising_spec.1 hr).2
  rw [Bool.eq_iff_iff, decide_eq_true_iff, Bool.not_eq_true', ← Bool.not_eq_true, List.all_eq_true]
  constructor
  · intro hge hall
    have := hall _ (List.getElem_mem (show l.length - 1 < l.length by omega))
    simp at this
    omega
  · intro hall
    refine Classical.byContradiction fun hlt => hall fun x hx => ?_
    obtain ⟨i, hi, rfl⟩ := List.mem_iff_getElem.1 hx
    have : l[i] ≤ l[l.length - 1]'(by omega) := by
      by_cases he : i = l.length - 1
      · subst he; exact Int.le_refl _
      · exact Int.le_of_lt (List.pairwise_iff_getElem.1 hp i (l.length - 1) hi (by omega) (by omega))
    simp
    omega
def noProg : El T_api_Prog := ([], [])
def inC (p : El T_api_Prog) (points : List (List Int)) : El T_api_Prog × Bool :=
  if checkC p ≠ 0 ∨ p.2.length < points.length ∨ okAll points p.2 = false then (noProg, false) else ((p.1, laidP points p.2), true)
/-- So far from one, then from the other. -/
theorem mix_set {α : Type} {r x : List α} {k : Nat} (hl : r.length = x.length) (h : k < x.length) : (r.take k ++ x.drop k).set k (r[k]'(by omega)) = r.take (k + 1) ++ x.drop (k + 1) := by
  rw [List.set_append_right _ _ (by rw [List.length_take]; omega), List.length_take, Nat.min_eq_left (by omega), Nat.sub_self, drop_cons h, List.set_cons_zero, List.take_succ_eq_append_getElem (by omega), List.append_assoc]
  rfl
theorem mix_len {α : Type} {r x : List α} {k : Nat} (hl : r.length = x.length) (h : k ≤ x.length) : (r.take k ++ x.drop k).length = x.length := by
  rw [List.length_append, List.length_take, List.length_drop]; omega
theorem mix_get {α : Type} {r x : List α} {k : Nat} (hl : r.length = x.length) (h : k < x.length) : (r.take k ++ x.drop k)[k]? = some x[k] := by
  rw [List.getElem?_append_right (by rw [List.length_take]; omega), List.length_take, Nat.min_eq_left (by omega), Nat.sub_self, drop_cons h]; rfl
/-- What is left of a rising list from a place on. -/
structure Suf (pts : List Int) (k : Nat) (l : List Int) : Prop where
  pw : l.Pairwise (· < ·)
  ge : ∀ x ∈ l, (k : Int) ≤ x
  mem : ∀ x : Int, (k : Int) ≤ x → (x ∈ pts ↔ x ∈ l)
theorem Suf.start {pts : List Int} (h : rising pts = true) : Suf pts 0 pts := ⟨(rising_spec.1 h).2, fun x hx => ((rising_spec.1 h).1 x hx).1, fun x _ => Iff.rfl⟩
theorem Suf.hit {pts : List Int} {k : Nat} {n : Int} {r : List Int} (h : Suf pts k (n :: r)) (hn : n = (k : Int)) : pts.contains (k : Int) = true ∧ Suf pts (k + 1) r := by
  obtain ⟨h1, h2⟩ := List.pairwise_cons.1 h.pw
  refine ⟨?_, h2, fun x hx => ?_, fun x hx => ?_⟩
  · rw [List.contains_iff_mem]; exact (h.mem _ (Int.le_refl _)).2 (by rw [hn]; exact List.mem_cons_self ..)
  · have := h1 x hx; omega
  · rw [h.mem x (by omega), List.mem_cons]
    exact ⟨fun hx' => hx'.resolve_left (by omega), .inr⟩
theorem Suf.miss {pts : List Int} {k : Nat} {l : List Int} (h : Suf pts k l) (hn : ∀ n r, l = n :: r → n ≠ (k : Int)) : pts.contains (k : Int) = false ∧ Suf pts (k + 1) l := by
  have hk : (k : Int) ∉ l := by
    intro hm
    cases l with
    | nil => cases hm
    | cons n r =>
      have h1 := hn n r rfl
      rcases List.mem_cons.1 hm with hm | hm
      · exact h1 hm.symm
      · have := (List.pairwise_cons.1 h.pw).1 _ hm
        have := h.ge n (by simp)
        omega
  refine ⟨?_, h.pw, fun x hx => ?_, fun x hx => h.mem x (by omega)⟩
  · rw [← Bool.not_eq_true, List.contains_iff_mem, h.mem _ (Int.le_refl _)]; exact hk
  · have := h.ge x hx
    have : x ≠ (k : Int) := fun e => hk (e ▸ hx)
    omega
end Go.Ev
end

section
set_option linter.unusedSectionVars false
set_option linter.unusedVariables false
set_option linter.unusedSimpArgs false
set_option linter.unusedVariables false
set_option linter.unusedSimpArgs false
open Go
namespace Go.Ev
def v_weave_In (p : El T_api_Prog) (points : List (List Int)) : (El T_api_Prog) × Bool := inC p points
def k_weave_In (p : El T_api_Prog) (points : List (List Int)) : Bool := smallProg p && (copyB p && points.all fun l => decide (List.length l < 1099511627776))
theorem of_is {points : List (List Int)} (t : Nat) : k_weave_of points t = true ∧ v_weave_of points t = points.getD t [] := by
  unfold k_weave_of v_weave_of
  by_cases h : t < points.length
  · simp only [lt_len h, nng, Bool.and_self, cond_true, Int.toNat_natCast, true_and]
    rfl
  · simp only [lt_len_not h, cond_false, true_and]
    rw [List.getD_eq_getElem?_getD, List.getElem?_eq_none (by omega)]
    rfl
theorem g_weave_In (p : El T_api_Prog) (points : List (List Int)) (hk : k_weave_In p points = true) : Goes (T_weave_In p points) (T0_weave_In p points) (v_weave_In p points) := by
  unfold k_weave_In at hk
  simp only [Bool.and_eq_true, List.all_eq_true, decide_eq_true_eq] at hk
  obtain ⟨hsm, hcp, hpl⟩ := hk
  have hC := copyOK hcp
  have hkc : k_valid_Check p = true := hsm
  have hkC : k_valid_Copy p = true := hcp
  have hvC : v_valid_Copy p = p := rfl
  have hth := hC.thr
  obtain ⟨R, hR⟩ : ∃ R, laidP points p.2 = R := ⟨_, rfl⟩
  have hRl : R.length = p.2.length := by rw [← hR]; exact laidP_len points p.2
  have hRg : ∀ t (h : t < p.2.length), R[t]'(by omega) = laidT (points.getD t []) 0 p.2[t] := fun t h => by
    have := laidP_get points p.2 t h
    rw [hR, List.getElem?_eq_getElem (by omega)] at this
    exact Option.some.inj this
  have main : points.length ≤ p.2.length → (∀ t, t < points.length → rising (points.getD t []) = true) → Goes (T_weave_In p points) (.jmp (.l16 0 p.2)) ((p.1, R), true) := by
    intro hpt hris
    have hris' : ∀ t, rising (points.getD t []) = true := fun t => by
      by_cases h : t < points.length
      · exact hris t h
      · rw [List.getD_eq_getElem?_getD, List.getElem?_eq_none (by omega)]; rfl
    have loop : ∀ t, t ≤ p.2.length → Goes (T_weave_In p points) (.jmp (.l16 (t : Int) (R.take t ++ p.2.drop t))) ((p.1, R), true) := by
      refine down ?_ fun t ht ih => ?_
      · rw [goes_jmp]
        simp only [T_weave_In, goes_br, hvC, lt_len_not (Nat.lt_irrefl _), if_false, Bool.false_eq_true, List.drop_length, List.append_nil]
        rw [show List.take (List.length p.2) R = R by rw [← hRl, List.take_length]]
        exact .leaf
      · obtain ⟨o1, o2⟩ := of_is (points := points) t
        have hql := mix_len (k := t) hRl (by omega)
        have hqt : t < (R.take t ++ p.2.drop t).length := by omega
        have hqg : (R.take t ++ p.2.drop t)[t] = p.2[t] := by
          have := mix_get (k := t) hRl ht
          rw [List.getElem?_eq_getElem hqt] at this
          exact Option.some.inj this
        obtain ⟨x, hx⟩ : ∃ x, p.2[t] = x := ⟨_, rfl⟩
        obtain ⟨pts, hpts⟩ : ∃ pts, points.getD t [] = pts := ⟨_, rfl⟩
        have hxm : x ∈ p.2 := by rw [← hx]; exact List.getElem_mem ht
        have hxl := hC.len x hxm
        have hset := mix_set hRl ht
        rw [hRg t ht, hpts, hx] at hset
        have inner : ∀ k, k ≤ List.length x → ∀ (l : List Int) (out : List (El T_api_Ins)), Suf pts k l → out.length ≤ 2 * k → out ++ laidT pts k (List.drop k x) = laidT pts 0 x →
            Goes (T_weave_In p points) (.jmp (.l25 x (Int.ofNat (List.length x)) l (k : Int) out (t : Int) (t : Int) (R.take t ++ p.2.drop t))) ((p.1, R), true) := by
          refine down ?_ fun k hk ihk => ?_
          · intro l out hs ho he
            rw [goes_jmp]
            simp only [T_weave_In, goes_br, lt_len_not (Nat.lt_irrefl _), if_false, Bool.false_eq_true, lt_len hqt, nng, Bool.and_self, if_true, Int.toNat_natCast, wrap_succ (k := t) (by omega)]
            rw [List.drop_length, show laidT pts (List.length x) [] = [] from rfl, List.append_nil] at he
            rw [he, hset]
            exact ih
          · intro l out hs ho he
            have b1 : Nat.ble ((out.length + 1) * 128) limit = true := bleN (by unfold limit; omega)
            have b2 : ∀ y : El T_api_Ins, Nat.ble (((out ++ [y]).length + 1) * 128) limit = true := fun y => bleN (by rw [List.length_append, List.length_singleton]; unfold limit; omega)
            rw [drop_cons hk] at he
            rw [laidT] at he
            rw [goes_jmp]
            cases l with
            | nil =>
              obtain ⟨m1, m2⟩ := hs.miss (fun n r e => by cases e)
              rw [if_neg (by rw [m1]; decide)] at he
              have e0 : decide (Int.ofNat (List.length ([] : List Int)) > (0 : Int)) = false := by decide
              simp only [T_weave_In, goes_br, lt_len hk, nng, Bool.and_self, if_true, Int.toNat_natCast, getD_lt hk, e0, b1, if_false, Bool.false_eq_true, wrap_succ (k := k) (by omega)]
              exact ihk [] _ m2 (by rw [List.length_append, List.length_singleton]; omega) (by rw [List.append_assoc]; exact he)
            | cons n r =>
              have e0 : decide (Int.ofNat (List.length (n :: r)) > (0 : Int)) = true := by simp
              have e1 : decide ((0 : Int) < Int.ofNat (List.length (n :: r))) = true := by simp
              have e2 : List.getD (n :: r) 0 (dflt (.int .i64)) = n := rfl
              have e3 : ((((decide ((0 : Int) ≤ (Int.ofNat (List.length (n :: r))))) && (decide ((Int.ofNat (List.length (n :: r))) ≤ (Int.ofNat (List.length (n :: r)))))) && true) && (decide ((1 : Int) ≤ (Int.ofNat (List.length (n :: r)))))) = true := by simp; omega
              have e4 : List.drop 1 (List.take (List.length (n :: r)) (n :: r)) = r := by rw [List.take_length]; rfl
              by_cases hn : n = (k : Int)
              · obtain ⟨m1, m2⟩ := hs.hit hn
                rw [if_pos m1] at he
                have e5 : (n == (k : Int)) = true := by simpa using hn
                simp only [T_weave_In, goes_br, lt_len hk, nng, Bool.and_self, if_true, Int.toNat_natCast, getD_lt hk, e0, e1, e2, e3, e4, e5, b1, b2, wrap_succ (k := k) (by omega)]
                exact ihk r _ m2 (by rw [List.length_append, List.length_append, List.length_singleton, List.length_singleton]; omega) (by rw [List.append_assoc, List.append_assoc]; exact he)
              · obtain ⟨m1, m2⟩ := hs.miss (fun n' r' e => by cases e; exact hn)
                rw [if_neg (by rw [m1]; decide)] at he
                have e5 : (n == (k : Int)) = false := by simpa using hn
                simp only [T_weave_In, goes_br, lt_len hk, nng, Bool.and_self, if_true, Int.toNat_natCast, getD_lt hk, e0, e1, e2, e5, b1, if_false, Bool.false_eq_true, wrap_succ (k := k) (by omega)]
                exact ihk _ _ m2 (by rw [List.length_append, List.length_singleton]; omega) (by rw [List.append_assoc]; exact he)
        rw [goes_jmp]
        simp only [T_weave_In, goes_br, hvC, lt_len ht, lt_len hqt, nng, Bool.and_self, if_true, Int.toNat_natCast, getD_lt hqt, hqg, o1, o2, hpts, hx]
        exact inner 0 (Nat.zero_le _) pts [] (Suf.start (hpts ▸ hris' t)) (by simp) rfl
    have := loop 0 (Nat.zero_le _)
    simpa using this
  have check : points.length ≤ p.2.length → ∀ t, t ≤ points.length → (∀ s, s < t → rising (points.getD s []) = true) → Goes (T_weave_In p points) (.jmp (.l6 (t : Int))) (if okAll (points.drop t) (p.2.drop t) then ((p.1, R), true) else (noProg, false)) := by
    intro hpt
    refine down ?_ fun t ht ih => ?_
    · intro hris
      rw [goes_jmp]
      simp only [T_weave_In, goes_br, lt_len_not (Nat.lt_irrefl _), if_false, Bool.false_eq_true, hkC, if_true, hvC, List.drop_length]
      rw [if_pos (by rfl)]
      exact main hpt hris
    · intro hris
      have htp : t < p.2.length := by omega
      have hL := hpl _ (List.getElem_mem ht)
      obtain ⟨l, hl⟩ : ∃ l, points[t] = l := ⟨_, rfl⟩
      rw [hl] at hL
      have hko : k_weave_order l = true := decide_eq_true (by omega)
      have hvo : v_weave_order l = rising l := rfl
      rw [okAll_drop ht htp, hl, goes_jmp]
      by_cases hr : rising l = true
      · have hnext : ∀ s, s < t + 1 → rising (points.getD s []) = true := fun s hs => by
          by_cases he : s = t
          · subst he; rw [getD_lt ht, hl]; exact hr
          · exact hris s (by omega)
        by_cases h0 : 0 < List.length l
        · have e0 : decide (Int.ofNat (List.length l) > (0 : Int)) = true := by simp; omega
          have e1 : IntKind.i64.wrap (Int.ofNat (List.length l) - 1) = ((List.length l - 1 : Nat) : Int) := wrap_pred (k := List.length l) (by omega) h0
          have h1 : List.length l - 1 < List.length l := by omega
          have e2 := last_ge hr h0 (List.length p.2[t])
          have e2' : decide (l[List.length l - 1] ≥ Int.ofNat (List.length p.2[t])) = ! l.all fun x => decide (x < (List.length p.2[t] : Int)) := e2
          simp only [T_weave_In, goes_br, lt_len ht, nng, Bool.and_self, if_true, Int.toNat_natCast, getD_lt ht, hl, hko, hvo, hr, Bool.not_true, if_false, Bool.false_eq_true, e0, e1, lt_len h1, lt_len htp, getD_lt h1, getD_lt htp, e2', wrap_succ (k := t) (by omega), okPts, Bool.true_and]
          cases l.all fun x => decide (x < (List.length p.2[t] : Int)) with
          | true =>
            simp only [Bool.not_true, if_false, Bool.false_eq_true, Bool.true_and]
            exact ih hnext
          | false =>
            simp only [Bool.not_false, if_true, if_false, Bool.false_and, Bool.false_eq_true]
            exact .leaf
        · have hnil : l = [] := List.eq_nil_of_length_eq_zero (by omega)
          subst hnil
          have e0 : decide (Int.ofNat (List.length ([] : List Int)) > (0 : Int)) = false := by decide
          simp only [T_weave_In, goes_br, lt_len ht, nng, Bool.and_self, if_true, Int.toNat_natCast, getD_lt ht, hl, hko, hvo, hr, Bool.not_true, if_false, Bool.false_eq_true, e0, wrap_succ (k := t) (by omega), okPts, Bool.true_and, List.all_nil]
          exact ih hnext
      · have hr' : rising l = false := by simpa using hr
        simp only [T_weave_In, goes_br, lt_len ht, nng, Bool.and_self, if_true, Int.toNat_natCast, getD_lt ht, hl, hko, hvo, hr', Bool.not_false, okPts, Bool.false_and, if_false, Bool.false_eq_true]
        exact .leaf
  unfold T0_weave_In v_weave_In inC
  simp only [goes_br, hkc, if_true, v_valid_Check]
  by_cases hc : checkC p = 0
  · rw [if_neg (by simp [hc])]
    by_cases hp : p.2.length < points.length
    · rw [if_pos (by simp; omega), if_pos (.inr (.inl hp))]
      exact .leaf
    · rw [if_neg (by simp; omega)]
      have := check (by omega) 0 (Nat.zero_le _) (fun s hs => by omega)
      rw [List.drop_zero, List.drop_zero] at this
      cases hok : okAll points p.2 with
      | true =>
        rw [hok, if_pos rfl] at this
        rw [if_neg (by simp [hc]; omega), hR]
        exact this
      | false =>
        rw [hok, if_neg (by decide)] at this
        rw [if_pos (.inr (.inr rfl))]
        exact this
  · rw [if_pos (by simpa using hc), if_pos (.inl hc)]
    exact .leaf
end Go.Ev
end

section
set_option linter.unusedSectionVars false
set_option linter.unusedVariables false
set_option linter.unusedSimpArgs false
set_option maxRecDepth 100000
set_option linter.unusedVariables false
open Go Go.Ev
namespace Go.Ev
noncomputable def e_weave_In : Run := entG sg_weave_In R_weave_In (fun a => k_weave_In a.1 a.2.1) (fun a => v_weave_In a.1 a.2.1)
theorem ok_weave_In : EntOK Go.Proofs.Tryd.prog 14 e_weave_In := entG_ok (tb := tb_weave_In) (c := c_weave_In) tk_weave_In (by kernel_rfl) (by kernel_rfl) (by kernel_rfl) (fun a => by kernel_rfl) fun ⟨p, points, _⟩ hk => evF_goes (c := c_weave_In) (K := fun v => (R_weave_In v, tps (toForms sg_weave_In (p, points, ())))) (S := S_weave_In p points) (by kernel_rfl) (en_weave_In p points) (lp_weave_In p points) (g_weave_In p points hk)
end Go.Ev
end

section
set_option linter.unusedSectionVars false
set_option linter.unusedVariables false
set_option linter.unusedSimpArgs false
set_option maxRecDepth 100000
set_option linter.unusedVariables false
open Go Go.Ev
namespace Go.Ev
/-! ### paling/palinglaw26.alive -/
def sg_law26_alive : Sig := []
noncomputable def t_law26_alive : Tbl := [(14, e_weave_In), (21, e_weave_Fences), (20, e_book_SameInts), (23, e_weave_Back), (25, e_weave_There)]
theorem tk_law26_alive : ∀ p ∈ t_law26_alive, EntOK Go.Proofs.Tryd.prog p.1 p.2 := tbl_cons ok_weave_In (tbl_cons ok_weave_Fences (tbl_cons ok_book_SameInts (tbl_cons ok_weave_Back (tbl_cons ok_weave_There (tbl_nil)))))
noncomputable def c_law26_alive : Code := Go.Proofs.Tryd.f12.body.getD .skip
def tb_law26_alive : Tb := []
def T_law26_alive : Empty → JT Empty (Bool) := fun j => nomatch j
def T0_law26_alive : JT Empty (Bool) :=
  .br (k_weave_In ([], [[((14 : Int), (false, ((0 : Int), (((0 : Int), ((0 : Int), ((0 : Int), (0 : Int)))), (((0 : Int), ((0 : Int), ((0 : Int), (0 : Int)))), ((bs []), [(bs [97])]))))))]]) [[(0 : Int)]])
    (.br (k_weave_In ([], [[((14 : Int), (false, ((0 : Int), (((0 : Int), ((0 : Int), ((0 : Int), (0 : Int)))), (((0 : Int), ((0 : Int), ((0 : Int), (0 : Int)))), ((bs []), [(bs [97])]))))))]]) [[(1 : Int)]])
      (.br (v_weave_In ([], [[((14 : Int), (false, ((0 : Int), (((0 : Int), ((0 : Int), ((0 : Int), (0 : Int)))), (((0 : Int), ((0 : Int), ((0 : Int), (0 : Int)))), ((bs []), [(bs [97])]))))))]]) [[(0 : Int)]]).2
        (.br (! (v_weave_In ([], [[((14 : Int), (false, ((0 : Int), (((0 : Int), ((0 : Int), ((0 : Int), (0 : Int)))), (((0 : Int), ((0 : Int), ((0 : Int), (0 : Int)))), ((bs []), [(bs [97])]))))))]]) [[(1 : Int)]]).2)
          (.br ((Int.ofNat (List.length (v_weave_In ([], [[((14 : Int), (false, ((0 : Int), (((0 : Int), ((0 : Int), ((0 : Int), (0 : Int)))), (((0 : Int), ((0 : Int), ((0 : Int), (0 : Int)))), ((bs []), [(bs [97])]))))))]]) [[(0 : Int)]]).1.2)) == (1 : Int))
            (.br (decide ((0 : Int) < (Int.ofNat (List.length (v_weave_In ([], [[((14 : Int), (false, ((0 : Int), (((0 : Int), ((0 : Int), ((0 : Int), (0 : Int)))), (((0 : Int), ((0 : Int), ((0 : Int), (0 : Int)))), ((bs []), [(bs [97])]))))))]]) [[(0 : Int)]]).1.2))))
              (.br ((Int.ofNat (List.length (List.getD (v_weave_In ([], [[((14 : Int), (false, ((0 : Int), (((0 : Int), ((0 : Int), ((0 : Int), (0 : Int)))), (((0 : Int), ((0 : Int), ((0 : Int), (0 : Int)))), ((bs []), [(bs [97])]))))))]]) [[(0 : Int)]]).1.2 0 (dflt (.sl T_api_Ins))))) == (2 : Int))
                (.br (decide ((0 : Int) < (Int.ofNat (List.length (v_weave_In ([], [[((14 : Int), (false, ((0 : Int), (((0 : Int), ((0 : Int), ((0 : Int), (0 : Int)))), (((0 : Int), ((0 : Int), ((0 : Int), (0 : Int)))), ((bs []), [(bs [97])]))))))]]) [[(0 : Int)]]).1.2))))
                  (.br (decide ((0 : Int) < (Int.ofNat (List.length (List.getD (v_weave_In ([], [[((14 : Int), (false, ((0 : Int), (((0 : Int), ((0 : Int), ((0 : Int), (0 : Int)))), (((0 : Int), ((0 : Int), ((0 : Int), (0 : Int)))), ((bs []), [(bs [97])]))))))]]) [[(0 : Int)]]).1.2 0 (dflt (.sl T_api_Ins)))))))
                    (.br ((List.getD (List.getD (v_weave_In ([], [[((14 : Int), (false, ((0 : Int), (((0 : Int), ((0 : Int), ((0 : Int), (0 : Int)))), (((0 : Int), ((0 : Int), ((0 : Int), (0 : Int)))), ((bs []), [(bs [97])]))))))]]) [[(0 : Int)]]).1.2 0 (dflt (.sl T_api_Ins))) 0 (dflt T_api_Ins)).1 == (12 : Int))
                      (.br (decide ((0 : Int) < (Int.ofNat (List.length (v_weave_In ([], [[((14 : Int), (false, ((0 : Int), (((0 : Int), ((0 : Int), ((0 : Int), (0 : Int)))), (((0 : Int), ((0 : Int), ((0 : Int), (0 : Int)))), ((bs []), [(bs [97])]))))))]]) [[(0 : Int)]]).1.2))))
                        (.br (decide ((0 : Int) < (Int.ofNat (List.length (List.getD (v_weave_In ([], [[((14 : Int), (false, ((0 : Int), (((0 : Int), ((0 : Int), ((0 : Int), (0 : Int)))), (((0 : Int), ((0 : Int), ((0 : Int), (0 : Int)))), ((bs []), [(bs [97])]))))))]]) [[(0 : Int)]]).1.2 0 (dflt (.sl T_api_Ins)))))))
                          (.br ((Int.ofNat (List.length (List.getD (List.getD (v_weave_In ([], [[((14 : Int), (false, ((0 : Int), (((0 : Int), ((0 : Int), ((0 : Int), (0 : Int)))), (((0 : Int), ((0 : Int), ((0 : Int), (0 : Int)))), ((bs []), [(bs [97])]))))))]]) [[(0 : Int)]]).1.2 0 (dflt (.sl T_api_Ins))) 0 (dflt T_api_Ins)).2.2.2.2.2.2)) == (1 : Int))
                            (.br (k_weave_Fences [(1 : Int), (2 : Int)])
                              (.br (k_book_SameInts (v_weave_Fences [(1 : Int), (2 : Int)]) [(1 : Int), (3 : Int)])
                                (.br (v_book_SameInts (v_weave_Fences [(1 : Int), (2 : Int)]) [(1 : Int), (3 : Int)])
                                  (.br (k_weave_Back [(1 : Int), (2 : Int)] (4 : Int))
                                    (.br ((v_weave_Back [(1 : Int), (2 : Int)] (4 : Int)) == (2 : Int))
                                      (.br (k_weave_There [(1 : Int), (2 : Int)] (2 : Int))
                                        (.leaf ((v_weave_There [(1 : Int), (2 : Int)] (2 : Int)) == (4 : Int)))
                                      (.no))
                                    (.leaf false))
                                  (.no))
                                (.leaf false))
                              (.no))
                            (.no))
                          (.leaf false))
                        (.no))
                      (.no))
                    (.leaf false))
                  (.no))
                (.no))
              (.leaf false))
            (.no))
          (.leaf false))
        (.leaf false))
      (.leaf false))
    (.no))
  (.no)
def v_law26_alive : Bool :=
  bif (k_weave_In ([], [[((14 : Int), (false, ((0 : Int), (((0 : Int), ((0 : Int), ((0 : Int), (0 : Int)))), (((0 : Int), ((0 : Int), ((0 : Int), (0 : Int)))), ((bs []), [(bs [97])]))))))]]) [[(0 : Int)]]) then
    bif (k_weave_In ([], [[((14 : Int), (false, ((0 : Int), (((0 : Int), ((0 : Int), ((0 : Int), (0 : Int)))), (((0 : Int), ((0 : Int), ((0 : Int), (0 : Int)))), ((bs []), [(bs [97])]))))))]]) [[(1 : Int)]]) then
      bif (v_weave_In ([], [[((14 : Int), (false, ((0 : Int), (((0 : Int), ((0 : Int), ((0 : Int), (0 : Int)))), (((0 : Int), ((0 : Int), ((0 : Int), (0 : Int)))), ((bs []), [(bs [97])]))))))]]) [[(0 : Int)]]).2 then
        bif (! (v_weave_In ([], [[((14 : Int), (false, ((0 : Int), (((0 : Int), ((0 : Int), ((0 : Int), (0 : Int)))), (((0 : Int), ((0 : Int), ((0 : Int), (0 : Int)))), ((bs []), [(bs [97])]))))))]]) [[(1 : Int)]]).2) then
          bif ((Int.ofNat (List.length (v_weave_In ([], [[((14 : Int), (false, ((0 : Int), (((0 : Int), ((0 : Int), ((0 : Int), (0 : Int)))), (((0 : Int), ((0 : Int), ((0 : Int), (0 : Int)))), ((bs []), [(bs [97])]))))))]]) [[(0 : Int)]]).1.2)) == (1 : Int)) then
            bif (decide ((0 : Int) < (Int.ofNat (List.length (v_weave_In ([], [[((14 : Int), (false, ((0 : Int), (((0 : Int), ((0 : Int), ((0 : Int), (0 : Int)))), (((0 : Int), ((0 : Int), ((0 : Int), (0 : Int)))), ((bs []), [(bs [97])]))))))]]) [[(0 : Int)]]).1.2)))) then
              bif ((Int.ofNat (List.length (List.getD (v_weave_In ([], [[((14 : Int), (false, ((0 : Int), (((0 : Int), ((0 : Int), ((0 : Int), (0 : Int)))), (((0 : Int), ((0 : Int), ((0 : Int), (0 : Int)))), ((bs []), [(bs [97])]))))))]]) [[(0 : Int)]]).1.2 0 (dflt (.sl T_api_Ins))))) == (2 : Int)) then
                bif (decide ((0 : Int) < (Int.ofNat (List.length (v_weave_In ([], [[((14 : Int), (false, ((0 : Int), (((0 : Int), ((0 : Int), ((0 : Int), (0 : Int)))), (((0 : Int), ((0 : Int), ((0 : Int), (0 : Int)))), ((bs []), [(bs [97])]))))))]]) [[(0 : Int)]]).1.2)))) then
                  bif (decide ((0 : Int) < (Int.ofNat (List.length (List.getD (v_weave_In ([], [[((14 : Int), (false, ((0 : Int), (((0 : Int), ((0 : Int), ((0 : Int), (0 : Int)))), (((0 : Int), ((0 : Int), ((0 : Int), (0 : Int)))), ((bs []), [(bs [97])]))))))]]) [[(0 : Int)]]).1.2 0 (dflt (.sl T_api_Ins))))))) then
                    bif ((List.getD (List.getD (v_weave_In ([], [[((14 : Int), (false, ((0 : Int), (((0 : Int), ((0 : Int), ((0 : Int), (0 : Int)))), (((0 : Int), ((0 : Int), ((0 : Int), (0 : Int)))), ((bs []), [(bs [97])]))))))]]) [[(0 : Int)]]).1.2 0 (dflt (.sl T_api_Ins))) 0 (dflt T_api_Ins)).1 == (12 : Int)) then
                      bif (decide ((0 : Int) < (Int.ofNat (List.length (v_weave_In ([], [[((14 : Int), (false, ((0 : Int), (((0 : Int), ((0 : Int), ((0 : Int), (0 : Int)))), (((0 : Int), ((0 : Int), ((0 : Int), (0 : Int)))), ((bs []), [(bs [97])]))))))]]) [[(0 : Int)]]).1.2)))) then
                        bif (decide ((0 : Int) < (Int.ofNat (List.length (List.getD (v_weave_In ([], [[((14 : Int), (false, ((0 : Int), (((0 : Int), ((0 : Int), ((0 : Int), (0 : Int)))), (((0 : Int), ((0 : Int), ((0 : Int), (0 : Int)))), ((bs []), [(bs [97])]))))))]]) [[(0 : Int)]]).1.2 0 (dflt (.sl T_api_Ins))))))) then
                          bif ((Int.ofNat (List.length (List.getD (List.getD (v_weave_In ([], [[((14 : Int), (false, ((0 : Int), (((0 : Int), ((0 : Int), ((0 : Int), (0 : Int)))), (((0 : Int), ((0 : Int), ((0 : Int), (0 : Int)))), ((bs []), [(bs [97])]))))))]]) [[(0 : Int)]]).1.2 0 (dflt (.sl T_api_Ins))) 0 (dflt T_api_Ins)).2.2.2.2.2.2)) == (1 : Int)) then
                            bif (k_weave_Fences [(1 : Int), (2 : Int)]) then
                              bif (k_book_SameInts (v_weave_Fences [(1 : Int), (2 : Int)]) [(1 : Int), (3 : Int)]) then
                                bif (v_book_SameInts (v_weave_Fences [(1 : Int), (2 : Int)]) [(1 : Int), (3 : Int)]) then
                                  bif (k_weave_Back [(1 : Int), (2 : Int)] (4 : Int)) then
                                    bif ((v_weave_Back [(1 : Int), (2 : Int)] (4 : Int)) == (2 : Int)) then
                                      bif (k_weave_There [(1 : Int), (2 : Int)] (2 : Int)) then
                                        ((v_weave_There [(1 : Int), (2 : Int)] (2 : Int)) == (4 : Int))
                                      else false
                                    else false
                                  else false
                                else false
                              else false
                            else false
                          else false
                        else false
                      else false
                    else false
                  else false
                else false
              else false
            else false
          else false
        else false
      else false
    else false
  else false
def k_law26_alive : Bool :=
  bif (k_weave_In ([], [[((14 : Int), (false, ((0 : Int), (((0 : Int), ((0 : Int), ((0 : Int), (0 : Int)))), (((0 : Int), ((0 : Int), ((0 : Int), (0 : Int)))), ((bs []), [(bs [97])]))))))]]) [[(0 : Int)]]) then
    bif (k_weave_In ([], [[((14 : Int), (false, ((0 : Int), (((0 : Int), ((0 : Int), ((0 : Int), (0 : Int)))), (((0 : Int), ((0 : Int), ((0 : Int), (0 : Int)))), ((bs []), [(bs [97])]))))))]]) [[(1 : Int)]]) then
      bif (v_weave_In ([], [[((14 : Int), (false, ((0 : Int), (((0 : Int), ((0 : Int), ((0 : Int), (0 : Int)))), (((0 : Int), ((0 : Int), ((0 : Int), (0 : Int)))), ((bs []), [(bs [97])]))))))]]) [[(0 : Int)]]).2 then
        bif (! (v_weave_In ([], [[((14 : Int), (false, ((0 : Int), (((0 : Int), ((0 : Int), ((0 : Int), (0 : Int)))), (((0 : Int), ((0 : Int), ((0 : Int), (0 : Int)))), ((bs []), [(bs [97])]))))))]]) [[(1 : Int)]]).2) then
          bif ((Int.ofNat (List.length (v_weave_In ([], [[((14 : Int), (false, ((0 : Int), (((0 : Int), ((0 : Int), ((0 : Int), (0 : Int)))), (((0 : Int), ((0 : Int), ((0 : Int), (0 : Int)))), ((bs []), [(bs [97])]))))))]]) [[(0 : Int)]]).1.2)) == (1 : Int)) then
            bif (decide ((0 : Int) < (Int.ofNat (List.length (v_weave_In ([], [[((14 : Int), (false, ((0 : Int), (((0 : Int), ((0 : Int), ((0 : Int), (0 : Int)))), (((0 : Int), ((0 : Int), ((0 : Int), (0 : Int)))), ((bs []), [(bs [97])]))))))]]) [[(0 : Int)]]).1.2)))) then
              bif ((Int.ofNat (List.length (List.getD (v_weave_In ([], [[((14 : Int), (false, ((0 : Int), (((0 : Int), ((0 : Int), ((0 : Int), (0 : Int)))), (((0 : Int), ((0 : Int), ((0 : Int), (0 : Int)))), ((bs []), [(bs [97])]))))))]]) [[(0 : Int)]]).1.2 0 (dflt (.sl T_api_Ins))))) == (2 : Int)) then
                bif (decide ((0 : Int) < (Int.ofNat (List.length (v_weave_In ([], [[((14 : Int), (false, ((0 : Int), (((0 : Int), ((0 : Int), ((0 : Int), (0 : Int)))), (((0 : Int), ((0 : Int), ((0 : Int), (0 : Int)))), ((bs []), [(bs [97])]))))))]]) [[(0 : Int)]]).1.2)))) then
                  bif (decide ((0 : Int) < (Int.ofNat (List.length (List.getD (v_weave_In ([], [[((14 : Int), (false, ((0 : Int), (((0 : Int), ((0 : Int), ((0 : Int), (0 : Int)))), (((0 : Int), ((0 : Int), ((0 : Int), (0 : Int)))), ((bs []), [(bs [97])]))))))]]) [[(0 : Int)]]).1.2 0 (dflt (.sl T_api_Ins))))))) then
                    bif ((List.getD (List.getD (v_weave_In ([], [[((14 : Int), (false, ((0 : Int), (((0 : Int), ((0 : Int), ((0 : Int), (0 : Int)))), (((0 : Int), ((0 : Int), ((0 : Int), (0 : Int)))), ((bs []), [(bs [97])]))))))]]) [[(0 : Int)]]).1.2 0 (dflt (.sl T_api_Ins))) 0 (dflt T_api_Ins)).1 == (12 : Int)) then
                      bif (decide ((0 : Int) < (Int.ofNat (List.length (v_weave_In ([], [[((14 : Int), (false, ((0 : Int), (((0 : Int), ((0 : Int), ((0 : Int), (0 : Int)))), (((0 : Int), ((0 : Int), ((0 : Int), (0 : Int)))), ((bs []), [(bs [97])]))))))]]) [[(0 : Int)]]).1.2)))) then
                        bif (decide ((0 : Int) < (Int.ofNat (List.length (List.getD (v_weave_In ([], [[((14 : Int), (false, ((0 : Int), (((0 : Int), ((0 : Int), ((0 : Int), (0 : Int)))), (((0 : Int), ((0 : Int), ((0 : Int), (0 : Int)))), ((bs []), [(bs [97])]))))))]]) [[(0 : Int)]]).1.2 0 (dflt (.sl T_api_Ins))))))) then
                          bif ((Int.ofNat (List.length (List.getD (List.getD (v_weave_In ([], [[((14 : Int), (false, ((0 : Int), (((0 : Int), ((0 : Int), ((0 : Int), (0 : Int)))), (((0 : Int), ((0 : Int), ((0 : Int), (0 : Int)))), ((bs []), [(bs [97])]))))))]]) [[(0 : Int)]]).1.2 0 (dflt (.sl T_api_Ins))) 0 (dflt T_api_Ins)).2.2.2.2.2.2)) == (1 : Int)) then
                            bif (k_weave_Fences [(1 : Int), (2 : Int)]) then
                              bif (k_book_SameInts (v_weave_Fences [(1 : Int), (2 : Int)]) [(1 : Int), (3 : Int)]) then
                                bif (v_book_SameInts (v_weave_Fences [(1 : Int), (2 : Int)]) [(1 : Int), (3 : Int)]) then
                                  bif (k_weave_Back [(1 : Int), (2 : Int)] (4 : Int)) then
                                    bif ((v_weave_Back [(1 : Int), (2 : Int)] (4 : Int)) == (2 : Int)) then
                                      bif (k_weave_There [(1 : Int), (2 : Int)] (2 : Int)) then
                                        true
                                      else false
                                    else true
                                  else false
                                else true
                              else false
                            else false
                          else true
                        else false
                      else false
                    else true
                  else false
                else false
              else true
            else false
          else true
        else true
      else true
    else false
  else false
theorem g_law26_alive (hk : k_law26_alive = true) : Goes (T_law26_alive) (T0_law26_alive) (v_law26_alive) :=
  Goes.brk hk (fun hk =>
    Goes.brk hk (fun hk =>
      Goes.brk hk (fun hk =>
        Goes.brk hk (fun hk =>
          Goes.brk hk (fun hk =>
            Goes.brk hk (fun hk =>
              Goes.brk hk (fun hk =>
                Goes.brk hk (fun hk =>
                  Goes.brk hk (fun hk =>
                    Goes.brk hk (fun hk =>
                      Goes.brk hk (fun hk =>
                        Goes.brk hk (fun hk =>
                          Goes.brk hk (fun hk =>
                            Goes.brk hk (fun hk =>
                              Goes.brk hk (fun hk =>
                                Goes.brk hk (fun hk =>
                                  Goes.brk hk (fun hk =>
                                    Goes.brk hk (fun hk =>
                                      Goes.brk hk (fun hk =>
                                        Goes.leaf) (fun hk =>
                                        Goes.nok hk)) (fun hk =>
                                      Goes.leaf)) (fun hk =>
                                    Goes.nok hk)) (fun hk =>
                                  Goes.leaf)) (fun hk =>
                                Goes.nok hk)) (fun hk =>
                              Goes.nok hk)) (fun hk =>
                            Goes.leaf)) (fun hk =>
                          Goes.nok hk)) (fun hk =>
                        Goes.nok hk)) (fun hk =>
                      Goes.leaf)) (fun hk =>
                    Goes.nok hk)) (fun hk =>
                  Goes.nok hk)) (fun hk =>
                Goes.leaf)) (fun hk =>
              Goes.nok hk)) (fun hk =>
            Goes.leaf)) (fun hk =>
          Goes.leaf)) (fun hk =>
        Goes.leaf)) (fun hk =>
      Goes.nok hk)) (fun hk =>
    Goes.nok hk)
def R_law26_alive : Bool → AV := fun (r : Bool) => .d .bool r
def S_law26_alive : Empty → Nat × St := fun j => nomatch j
theorem en_law26_alive (L : Lt) : entryA Go.Proofs.Tryd.prog (clOf t_law26_alive) tb_law26_alive Go.Proofs.Tryd.f12 c_law26_alive L (toForms sg_law26_alive (())) = (T0_law26_alive).run (fun v => some (R_law26_alive v, tps (toForms sg_law26_alive (())))) fun j => L (S_law26_alive j).1 (S_law26_alive j).2 := by kernel_rfl
theorem lp_law26_alive : ∀ (L : Lt) (j : Empty), procOf (procsF Go.Proofs.Tryd.prog (clOf t_law26_alive) tb_law26_alive Go.Proofs.Tryd.f12 c_law26_alive (toForms sg_law26_alive (()))) (S_law26_alive j).1 L (S_law26_alive j).2 = (T_law26_alive j).run (fun v => some (R_law26_alive v, tps (toForms sg_law26_alive (())))) fun j => L (S_law26_alive j).1 (S_law26_alive j).2 := fun L j => nomatch j
noncomputable def e_law26_alive : Run := entG sg_law26_alive R_law26_alive (fun a => k_law26_alive) (fun a => v_law26_alive)
theorem ok_law26_alive : EntOK Go.Proofs.Tryd.prog 12 e_law26_alive := entG_ok (tb := tb_law26_alive) (c := c_law26_alive) tk_law26_alive (by kernel_rfl) (by kernel_rfl) (by kernel_rfl) (fun a => by kernel_rfl) fun _ hk => evF_goes (c := c_law26_alive) (K := fun v => (R_law26_alive v, tps (toForms sg_law26_alive (())))) (S := S_law26_alive) (by kernel_rfl) (en_law26_alive) (lp_law26_alive) (g_law26_alive hk)
theorem co_law26_alive (hk : k_law26_alive = true) : CallOK Go.Proofs.Tryd.prog 12 (toForms sg_law26_alive (())) (R_law26_alive (v_law26_alive), tps (toForms sg_law26_alive (()))) := by
  obtain ⟨h1, h2⟩ := clOf_ok tk_law26_alive
  obtain ⟨n, hn⟩ := evF_goes (c := c_law26_alive) (K := fun v => (R_law26_alive v, tps (toForms sg_law26_alive (())))) (S := S_law26_alive) (by kernel_rfl) (en_law26_alive) (lp_law26_alive) (g_law26_alive hk)
  exact evF_sound (f := 12) (c := c_law26_alive) h1 h2 (by kernel_rfl) (by kernel_rfl) (by kernel_rfl) hn
end Go.Ev
end

section
set_option linter.unusedSectionVars false
set_option linter.unusedVariables false
set_option linter.unusedSimpArgs false
set_option maxRecDepth 100000
set_option linter.unusedVariables false
open Go Go.Ev
namespace Go.Ev
/-! ### paling/palinglaw26.WeavePlaces -/
def sg_law26_WeavePlaces : Sig := [(false, (.sl (.int .i64))), (false, (.int .i64)), (false, .bool)]
noncomputable def t_law26_WeavePlaces : Tbl := [(17, e_book_Ints), (18, e_book_Pick), (19, e_ref3_List), (21, e_weave_Fences), (22, e_ref3_Fences), (20, e_book_SameInts), (23, e_weave_Back), (24, e_ref3_Behind), (25, e_weave_There), (26, e_ref3_There), (12, e_law26_alive)]
theorem tk_law26_WeavePlaces : ∀ p ∈ t_law26_WeavePlaces, EntOK Go.Proofs.Tryd.prog p.1 p.2 := tbl_cons ok_book_Ints (tbl_cons ok_book_Pick (tbl_cons ok_ref3_List (tbl_cons ok_weave_Fences (tbl_cons ok_ref3_Fences (tbl_cons ok_book_SameInts (tbl_cons ok_weave_Back (tbl_cons ok_ref3_Behind (tbl_cons ok_weave_There (tbl_cons ok_ref3_There (tbl_cons ok_law26_alive (tbl_nil)))))))))))
noncomputable def c_law26_WeavePlaces : Code := Go.Proofs.Tryd.f4.body.getD .skip
def tb_law26_WeavePlaces : Tb := [(2, ⟨[0, 1], []⟩), (7, ⟨[0, 1, 7, 8], []⟩)]
inductive J_law26_WeavePlaces where
  | l2 (k1 : Int) (points1 : List Int)
  | l7 (i : Int) (is : List Bool)
def T_law26_WeavePlaces (points : List Int) (k : Int) (small : Bool) : J_law26_WeavePlaces → JT J_law26_WeavePlaces (Bool)
  | .l2 k1 points1 =>
    .br (k_weave_Fences points1)
      (.br (k_ref3_Fences points1)
        (.br (k_book_SameInts (v_weave_Fences points1) (v_ref3_Fences points1))
          (.br (v_book_SameInts (v_weave_Fences points1) (v_ref3_Fences points1))
            (.br (k_weave_Back points1 k1)
              (.br (k_ref3_Behind points1 k1)
                (.br ((v_weave_Back points1 k1) == (v_ref3_Behind points1 k1))
                  (.br (k_weave_There points1 k1)
                    (.br (k_ref3_There points1 k1)
                      (.br ((v_weave_There points1 k1) == (v_ref3_There points1 k1))
                        (.br k_law26_alive
                          (.leaf v_law26_alive)
                        (.no))
                      (.leaf false))
                    (.no))
                  (.no))
                (.leaf false))
              (.no))
            (.no))
          (.leaf false))
        (.no))
      (.no))
    (.no)
  | .l7 i is =>
    .br (decide (i < (Int.ofNat (List.length (v_book_Ints points (12 : Int))))))
      (.br ((decide ((0 : Int) ≤ i)) && (decide (i < (Int.ofNat (List.length (v_book_Ints points (12 : Int)))))))
        (.br (k_book_Pick (List.getD (v_book_Ints points (12 : Int)) (Int.toNat i) (dflt (.int .i64))) (16 : Int))
          (.br ((decide ((0 : Int) ≤ (v_book_Pick (List.getD (v_book_Ints points (12 : Int)) (Int.toNat i) (dflt (.int .i64))) (16 : Int)))) && (decide ((v_book_Pick (List.getD (v_book_Ints points (12 : Int)) (Int.toNat i) (dflt (.int .i64))) (16 : Int)) < (Int.ofNat (List.length is)))))
            (.jmp (.l7 (IntKind.i64.wrap (i + (1 : Int))) (List.set is (Int.toNat (v_book_Pick (List.getD (v_book_Ints points (12 : Int)) (Int.toNat i) (dflt (.int .i64))) (16 : Int))) true)))
          (.no))
        (.no))
      (.no))
    (.br (k_ref3_List is)
      (.br (k_book_Pick k (40 : Int))
        (.jmp (.l2 (IntKind.i64.wrap ((v_book_Pick k (40 : Int)) - (2 : Int))) (v_ref3_List is)))
      (.no))
    (.no))
def T0_law26_WeavePlaces (points : List Int) (k : Int) (small : Bool) : JT J_law26_WeavePlaces (Bool) :=
  .br (k_book_Ints points (12 : Int))
    (.br small
      (.jmp (.l7 (0 : Int) [false, false, false, false, false, false, false, false, false, false, false, false, false, false, false, false]))
    (.jmp (.l2 k (v_book_Ints points (12 : Int)))))
  (.no)
def v_law26_WeavePlaces_l2 (points : List Int) (k : Int) (small : Bool) (k1 : Int) (points1 : List Int) : Bool :=
  bif (k_weave_Fences points1) then
    bif (k_ref3_Fences points1) then
      bif (k_book_SameInts (v_weave_Fences points1) (v_ref3_Fences points1)) then
        bif (v_book_SameInts (v_weave_Fences points1) (v_ref3_Fences points1)) then
          bif (k_weave_Back points1 k1) then
            bif (k_ref3_Behind points1 k1) then
              bif ((v_weave_Back points1 k1) == (v_ref3_Behind points1 k1)) then
                bif (k_weave_There points1 k1) then
                  bif (k_ref3_There points1 k1) then
                    bif ((v_weave_There points1 k1) == (v_ref3_There points1 k1)) then
                      bif k_law26_alive then
                        v_law26_alive
                      else false
                    else false
                  else false
                else false
              else false
            else false
          else false
        else false
      else false
    else false
  else false
def k_law26_WeavePlaces_l2 (points : List Int) (k : Int) (small : Bool) (k1 : Int) (points1 : List Int) : Bool :=
  bif (k_weave_Fences points1) then
    bif (k_ref3_Fences points1) then
      bif (k_book_SameInts (v_weave_Fences points1) (v_ref3_Fences points1)) then
        bif (v_book_SameInts (v_weave_Fences points1) (v_ref3_Fences points1)) then
          bif (k_weave_Back points1 k1) then
            bif (k_ref3_Behind points1 k1) then
              bif ((v_weave_Back points1 k1) == (v_ref3_Behind points1 k1)) then
                bif (k_weave_There points1 k1) then
                  bif (k_ref3_There points1 k1) then
                    bif ((v_weave_There points1 k1) == (v_ref3_There points1 k1)) then
                      bif k_law26_alive then
                        true
                      else false
                    else true
                  else false
                else false
              else true
            else false
          else false
        else true
      else false
    else false
  else false
theorem g_law26_WeavePlaces_l2 (points : List Int) (k : Int) (small : Bool) (k1 : Int) (points1 : List Int) (hk : k_law26_WeavePlaces_l2 points k small k1 points1 = true) : Goes (T_law26_WeavePlaces points k small) (.jmp (.l2 k1 points1)) (v_law26_WeavePlaces_l2 points k small k1 points1) :=
  Goes.jmp (Goes.brk hk (fun hk =>
    Goes.brk hk (fun hk =>
      Goes.brk hk (fun hk =>
        Goes.brk hk (fun hk =>
          Goes.brk hk (fun hk =>
            Goes.brk hk (fun hk =>
              Goes.brk hk (fun hk =>
                Goes.brk hk (fun hk =>
                  Goes.brk hk (fun hk =>
                    Goes.brk hk (fun hk =>
                      Goes.brk hk (fun hk =>
                        Goes.leaf) (fun hk =>
                        Goes.nok hk)) (fun hk =>
                      Goes.leaf)) (fun hk =>
                    Goes.nok hk)) (fun hk =>
                  Goes.nok hk)) (fun hk =>
                Goes.leaf)) (fun hk =>
              Goes.nok hk)) (fun hk =>
            Goes.nok hk)) (fun hk =>
          Goes.leaf)) (fun hk =>
        Goes.nok hk)) (fun hk =>
      Goes.nok hk)) (fun hk =>
    Goes.nok hk))
def R_law26_WeavePlaces : Bool → AV := fun (r : Bool) => .d .bool r
def S_law26_WeavePlaces (points : List Int) (k : Int) (small : Bool) : J_law26_WeavePlaces → Nat × St
  | .l2 k1 points1 => (2, ⟨mkTm 57 [(0, .own 1 0 none), (1, .d (.int .i64) k1)], [(1, 0, .row 3 (.int .i64) points1 false)]⟩)
  | .l7 i is => (7, ⟨mkTm 57 [(0, .own 1 0 none), (1, .d (.int .i64) k), (7, .own 8 0 none), (8, .d (.int .i64) i)], [(1, 0, .row 3 (.int .i64) (v_book_Ints points (12 : Int)) false), (8, 0, .row 4 .bool is false)]⟩)
theorem en_law26_WeavePlaces (points : List Int) (k : Int) (small : Bool) (L : Lt) : entryA Go.Proofs.Tryd.prog (clOf t_law26_WeavePlaces) tb_law26_WeavePlaces Go.Proofs.Tryd.f4 c_law26_WeavePlaces L (toForms sg_law26_WeavePlaces (points, k, small, ())) = (T0_law26_WeavePlaces points k small).run (fun v => some (R_law26_WeavePlaces v, tps (toForms sg_law26_WeavePlaces (points, k, small, ())))) fun j => L (S_law26_WeavePlaces points k small j).1 (S_law26_WeavePlaces points k small j).2 := by kernel_rfl
theorem lp_law26_WeavePlaces (points : List Int) (k : Int) (small : Bool) : ∀ (L : Lt) (j : J_law26_WeavePlaces), procOf (procsF Go.Proofs.Tryd.prog (clOf t_law26_WeavePlaces) tb_law26_WeavePlaces Go.Proofs.Tryd.f4 c_law26_WeavePlaces (toForms sg_law26_WeavePlaces (points, k, small, ()))) (S_law26_WeavePlaces points k small j).1 L (S_law26_WeavePlaces points k small j).2 = (T_law26_WeavePlaces points k small j).run (fun v => some (R_law26_WeavePlaces v, tps (toForms sg_law26_WeavePlaces (points, k, small, ())))) fun j => L (S_law26_WeavePlaces points k small j).1 (S_law26_WeavePlaces points k small j).2
  | L, .l2 k1 points1 => by kernel_rfl
  | L, .l7 i is => by kernel_rfl
end Go.Ev
end

section
set_option linter.unusedSectionVars false
set_option linter.unusedVariables false
set_option linter.unusedSimpArgs false
/- The first call that chapter 26's laws make. -/
set_option maxRecDepth 100000
namespace Go.Ev
theorem alive26 : k_law26_alive = true ∧ v_law26_alive = true := by decide +kernel
end Go.Ev
end

section
set_option linter.unusedSectionVars false
set_option linter.unusedVariables false
set_option linter.unusedSimpArgs false
/- The helper Pick, and what is made with it. -/
set_option linter.unusedVariables false
namespace Go.Ev
open Go
theorem pick_lt {n m : Int} (h1 : 0 < m) (h2 : m < 9223372036854775808) : k_book_Pick n m = true ∧ 0 ≤ v_book_Pick n m ∧ v_book_Pick n m < m := by
  have h0 : (m == 0) = false := by simp; omega
  have hl : Int.tmod n m < m := Int.tmod_lt_of_pos n h1
  have hg : -m < Int.tmod n m := by have := Int.tmod_lt_of_pos (-n) h1; rw [Int.neg_tmod] at this; omega
  unfold k_book_Pick v_book_Pick
  simp only [h0, cond_false, Bool.cond_self, true_and]
  by_cases hn : Int.tmod n m < 0
  · simp only [hn, decide_true, cond_true]
    rw [wrap_i64 (by omega) (by omega)]
    omega
  · simp only [hn, decide_false, cond_false]
    omega
theorem pick_fin {P : Int → Prop} {n m : Int} (h1 : 0 < m) (h2 : m < 9223372036854775808) (h : ∀ k : Fin m.toNat, P (k.1 : Int)) : P (v_book_Pick n m) := by
  obtain ⟨_, h3, h4⟩ := pick_lt (n := n) h1 h2
  have := h ⟨(v_book_Pick n m).toNat, by omega⟩
  rwa [Int.toNat_of_nonneg h3] at this
end Go.Ev
end

section
set_option linter.unusedSectionVars false
set_option linter.unusedVariables false
set_option linter.unusedSimpArgs false
set_option linter.unusedVariables false
set_option linter.unusedSimpArgs false
open Go
namespace Go.Ev
theorem ints_is {l : List Int} {m : Nat} (hm : m < 1000000) : k_book_Ints l m = true ∧ v_book_Ints l m = l.take m := by
  have hmin : minI (Int.ofNat (List.length l)) (m : Int) = ((min l.length m : Nat) : Int) := by
    unfold minI
    simp only [Int.ofNat_eq_natCast]
    split <;> omega
  have e1 : (min l.length m : Nat) ≤ l.length := Nat.min_le_left ..
  have hb : ((((decide ((0 : Int) ≤ ((min l.length m : Nat) : Int))) && (decide (((min l.length m : Nat) : Int) ≤ (Int.ofNat (List.length l))))) && true) && (decide ((0 : Int) ≤ ((min l.length m : Nat) : Int)))) = true := by simp; omega
  have hl : Nat.ble ((List.length (List.take (min l.length m) l)) * 8) limit = true := Nat.ble_eq_true_of_le (by rw [List.length_take]; unfold limit; omega)
  unfold k_book_Ints v_book_Ints
  rw [hmin, hb, Int.toNat_natCast, hl]
  refine ⟨rfl, ?_⟩
  show List.take (min l.length m) l = List.take m l
  rw [Nat.min_comm, ← List.take_take, List.take_length]
theorem set_len16 {l : List Bool} (h : l.length = 16) (k : Nat) : (l.set k true).length = 16 := by rw [List.length_set]; exact h
def v_law26_WeavePlaces (points : List Int) (k : Int) (small : Bool) : Bool := true
def k_law26_WeavePlaces (points : List Int) (k : Int) (small : Bool) : Bool := true
theorem g_law26_WeavePlaces (points : List Int) (k : Int) (small : Bool) (hk : k_law26_WeavePlaces points k small = true) : Goes (T_law26_WeavePlaces points k small) (T0_law26_WeavePlaces points k small) (v_law26_WeavePlaces points k small) := by
  have fin : ∀ (k1 : Int) (l : List Int), l.length < 1000 → Goes (T_law26_WeavePlaces points k small) (.jmp (.l2 k1 l)) true := by
    intro k1 l hl
    have h1 : k_weave_Fences l = true := decide_eq_true (by omega)
    have h2 : k_ref3_Fences l = true := decide_eq_true (by omega)
    have h3 : k_book_SameInts (v_weave_Fences l) (v_ref3_Fences l) = true := by
      refine decide_eq_true ?_
      have := fencesC_len l
      show (fencesC l).length < _
      omega
    have h4 : v_book_SameInts (v_weave_Fences l) (v_ref3_Fences l) = true := decide_eq_true rfl
    have h5 : k_weave_Back l k1 = true := decide_eq_true (by omega)
    have h6 : k_ref3_Behind l k1 = true := decide_eq_true (by omega)
    have h7 : v_weave_Back l k1 = v_ref3_Behind l k1 := rfl
    have h8 : k_weave_There l k1 = true := decide_eq_true (by omega)
    have h9 : k_ref3_There l k1 = true := decide_eq_true (by omega)
    have h10 : v_weave_There l k1 = v_ref3_There l k1 := rfl
    have hkk : k_law26_WeavePlaces_l2 points k small k1 l = true := by
      unfold k_law26_WeavePlaces_l2
      simp only [h1, h2, h3, h4, h5, h6, h7, h8, h9, h10, alive26.1, beq_self_eq_true, cond_true]
    have hvv : v_law26_WeavePlaces_l2 points k small k1 l = true := by
      unfold v_law26_WeavePlaces_l2
      simp only [h1, h2, h3, h4, h5, h6, h7, h8, h9, h10, alive26.1, alive26.2, beq_self_eq_true, cond_true]
    have := g_law26_WeavePlaces_l2 points k small k1 l hkk
    rwa [hvv] at this
  obtain ⟨i1, i2⟩ := ints_is (l := points) (m := 12) (by omega)
  have hlen : (points.take 12).length ≤ 12 := by rw [List.length_take]; omega
  change k_book_Ints points 12 = true at i1
  change v_book_Ints points 12 = points.take 12 at i2
  obtain ⟨ps, hps⟩ : ∃ ps, points.take 12 = ps := ⟨_, rfl⟩
  rw [hps] at i2 hlen
  unfold T0_law26_WeavePlaces v_law26_WeavePlaces
  rw [goes_br, if_pos i1, goes_br]
  split
  · have loop : ∀ j, j ≤ ps.length → ∀ is : List Bool, is.length = 16 → Goes (T_law26_WeavePlaces points k small) (.jmp (.l7 (j : Int) is)) true := by
      refine down ?_ fun j hj ih => ?_
      · intro is his
        have hL : k_ref3_List is = true := decide_eq_true (by omega)
        obtain ⟨p1, p2, p3⟩ := pick_lt (n := k) (m := 40) (by omega) (by omega)
        rw [goes_jmp]
        simp only [T_law26_WeavePlaces, goes_br, i2, lt_len_not (Nat.lt_irrefl _), hL, p1, if_true, if_false, Bool.false_eq_true]
        refine fin _ _ ?_
        have := listFrom_len is 0
        show (listFrom 0 is).length < 1000
        omega
      · intro is his
        obtain ⟨p1, p2, p3⟩ := pick_lt (n := ps[j]) (m := 16) (by omega) (by omega)
        have hb : (decide ((0 : Int) ≤ v_book_Pick ps[j] 16) && decide (v_book_Pick ps[j] 16 < Int.ofNat (List.length is))) = true := by rw [his]; simp; omega
        rw [goes_jmp]
        simp only [T_law26_WeavePlaces, goes_br, i2, lt_len hj, nng, Bool.and_self, if_true, Int.toNat_natCast, getD_lt hj, p1, hb, wrap_succ (k := j) (by omega)]
        exact ih _ (set_len16 his _)
    exact loop 0 (Nat.zero_le _) _ rfl
  · rw [i2]
    exact fin k ps (by omega)
end Go.Ev
end

section
set_option linter.unusedSectionVars false
set_option linter.unusedVariables false
set_option linter.unusedSimpArgs false
set_option maxRecDepth 100000
set_option linter.unusedVariables false
open Go Go.Ev
namespace Go.Ev
noncomputable def e_law26_WeavePlaces : Run := entG sg_law26_WeavePlaces R_law26_WeavePlaces (fun a => k_law26_WeavePlaces a.1 a.2.1 a.2.2.1) (fun a => v_law26_WeavePlaces a.1 a.2.1 a.2.2.1)
theorem ok_law26_WeavePlaces : EntOK Go.Proofs.Tryd.prog 4 e_law26_WeavePlaces := entG_ok (tb := tb_law26_WeavePlaces) (c := c_law26_WeavePlaces) tk_law26_WeavePlaces (by kernel_rfl) (by kernel_rfl) (by kernel_rfl) (fun a => by kernel_rfl) fun ⟨points, k, small, _⟩ hk => evF_goes (c := c_law26_WeavePlaces) (K := fun v => (R_law26_WeavePlaces v, tps (toForms sg_law26_WeavePlaces (points, k, small, ())))) (S := S_law26_WeavePlaces points k small) (by kernel_rfl) (en_law26_WeavePlaces points k small) (lp_law26_WeavePlaces points k small) (g_law26_WeavePlaces points k small hk)
theorem co_law26_WeavePlaces (points : List Int) (k : Int) (small : Bool) (hk : k_law26_WeavePlaces points k small = true) : CallOK Go.Proofs.Tryd.prog 4 (toForms sg_law26_WeavePlaces (points, k, small, ())) (R_law26_WeavePlaces (v_law26_WeavePlaces points k small), tps (toForms sg_law26_WeavePlaces (points, k, small, ()))) := by
  obtain ⟨h1, h2⟩ := clOf_ok tk_law26_WeavePlaces
  obtain ⟨n, hn⟩ := evF_goes (c := c_law26_WeavePlaces) (K := fun v => (R_law26_WeavePlaces v, tps (toForms sg_law26_WeavePlaces (points, k, small, ())))) (S := S_law26_WeavePlaces points k small) (by kernel_rfl) (en_law26_WeavePlaces points k small) (lp_law26_WeavePlaces points k small) (g_law26_WeavePlaces points k small hk)
  exact evF_sound (f := 4) (c := c_law26_WeavePlaces) h1 h2 (by kernel_rfl) (by kernel_rfl) (by kernel_rfl) hn
end Go.Ev
end

section
set_option linter.unusedSectionVars false
set_option linter.unusedVariables false
set_option linter.unusedSimpArgs false
set_option maxRecDepth 100000
set_option linter.unusedVariables false
namespace Go.Ev
open Go
theorem call_law26_WeavePlaces (a : Args sg_law26_WeavePlaces) (ha : smallArgs sg_law26_WeavePlaces a) : CallOK Go.Proofs.Tryd.prog fid_law26_WeavePlaces (toForms sg_law26_WeavePlaces a) (.d .bool true, tps (toForms sg_law26_WeavePlaces a)) := by
  obtain ⟨points, k, small, _⟩ := a
  exact co_law26_WeavePlaces points k small rfl
end Go.Ev
end

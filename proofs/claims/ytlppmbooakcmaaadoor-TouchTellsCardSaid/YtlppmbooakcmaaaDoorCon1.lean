/- Part of the proof of: the law TouchTells holds: the accesses of any program are what the document says -/
import Derived.Test.YtlppmbooakcmaaaDoorCon0
section
set_option linter.unusedSectionVars false
set_option linter.unusedVariables false
set_option linter.unusedSimpArgs false
set_option maxRecDepth 100000
set_option linter.unusedVariables false
open Go Go.Ev
namespace Go.Ev
/-! ### paling/valid.place -/
def sg_valid_place : Sig := [(true, T_api_Prog), (true, T_api_Opd)]
noncomputable def t_valid_place : Tbl := []
theorem tk_valid_place : ∀ p ∈ t_valid_place, EntOK Go.Proofs.Tryd.prog p.1 p.2 := tbl_nil
noncomputable def c_valid_place : Code := Go.Proofs.Tryd.f76.body.getD .skip
def tb_valid_place : Tb := [(5, ⟨[2, 3, 23, 28, 29, 30, 31, 32, 33, 34, 35, 36, 37], []⟩)]
inductive J_valid_place where
  | l5 (h : Bool)
def T_valid_place (p : El T_api_Prog) (o : El T_api_Opd) : J_valid_place → JT J_valid_place (Int)
  | .l5 h =>
    .br h
      (.leaf (7 : Int))
    (.br (o.1 == (3 : Int))
      (.br ((decide ((0 : Int) ≤ o.2.2.1)) && (decide (o.2.2.1 < (Int.ofNat (List.length p.1)))))
        (.br (decide (o.2.2.2 ≥ (List.getD p.1 (Int.toNat o.2.2.1) (dflt T_api_Sym)).2.1))
          (.leaf (8 : Int))
        (.leaf (0 : Int)))
      (.no))
    (.leaf (0 : Int)))
def T0_valid_place (p : El T_api_Prog) (o : El T_api_Opd) : JT J_valid_place (Int) :=
  .br (o.1 != (3 : Int))
    (.br (o.1 != (4 : Int))
      (.leaf (0 : Int))
    (.br (decide (o.2.2.1 < (0 : Int)))
      (.jmp (.l5 true))
    (.jmp (.l5 (decide (o.2.2.1 ≥ (Int.ofNat (List.length p.1))))))))
  (.br (decide (o.2.2.1 < (0 : Int)))
    (.jmp (.l5 true))
  (.jmp (.l5 (decide (o.2.2.1 ≥ (Int.ofNat (List.length p.1)))))))
def v_valid_place_l5 (p : El T_api_Prog) (o : El T_api_Opd) (h : Bool) : Int :=
  bif h then
    (7 : Int)
  else bif (o.1 == (3 : Int)) then
    bif ((decide ((0 : Int) ≤ o.2.2.1)) && (decide (o.2.2.1 < (Int.ofNat (List.length p.1))))) then
      bif (decide (o.2.2.2 ≥ (List.getD p.1 (Int.toNat o.2.2.1) (dflt T_api_Sym)).2.1)) then
        (8 : Int)
      else (0 : Int)
    else (0 : Int)
  else (0 : Int)
def k_valid_place_l5 (p : El T_api_Prog) (o : El T_api_Opd) (h : Bool) : Bool :=
  bif h then
    true
  else bif (o.1 == (3 : Int)) then
    bif ((decide ((0 : Int) ≤ o.2.2.1)) && (decide (o.2.2.1 < (Int.ofNat (List.length p.1))))) then
      bif (decide (o.2.2.2 ≥ (List.getD p.1 (Int.toNat o.2.2.1) (dflt T_api_Sym)).2.1)) then
        true
      else true
    else false
  else true
theorem g_valid_place_l5 (p : El T_api_Prog) (o : El T_api_Opd) (h : Bool) (hk : k_valid_place_l5 p o h = true) : Goes (T_valid_place p o) (.jmp (.l5 h)) (v_valid_place_l5 p o h) :=
  Goes.jmp (Goes.brk hk (fun hk =>
    Goes.leaf) (fun hk =>
    Goes.brk hk (fun hk =>
      Goes.brk hk (fun hk =>
        Goes.brk hk (fun hk =>
          Goes.leaf) (fun hk =>
          Goes.leaf)) (fun hk =>
        Goes.nok hk)) (fun hk =>
      Goes.leaf)))
def u_valid_place (p : El T_api_Prog) (o : El T_api_Opd) : Int :=
  bif (o.1 != (3 : Int)) then
    bif (o.1 != (4 : Int)) then
      (0 : Int)
    else bif (decide (o.2.2.1 < (0 : Int))) then
      v_valid_place_l5 p o true
    else v_valid_place_l5 p o (decide (o.2.2.1 ≥ (Int.ofNat (List.length p.1))))
  else bif (decide (o.2.2.1 < (0 : Int))) then
    v_valid_place_l5 p o true
  else v_valid_place_l5 p o (decide (o.2.2.1 ≥ (Int.ofNat (List.length p.1))))
def ku_valid_place (p : El T_api_Prog) (o : El T_api_Opd) : Bool :=
  bif (o.1 != (3 : Int)) then
    bif (o.1 != (4 : Int)) then
      true
    else bif (decide (o.2.2.1 < (0 : Int))) then
      k_valid_place_l5 p o true
    else k_valid_place_l5 p o (decide (o.2.2.1 ≥ (Int.ofNat (List.length p.1))))
  else bif (decide (o.2.2.1 < (0 : Int))) then
    k_valid_place_l5 p o true
  else k_valid_place_l5 p o (decide (o.2.2.1 ≥ (Int.ofNat (List.length p.1))))
theorem gu_valid_place (p : El T_api_Prog) (o : El T_api_Opd) (hk : ku_valid_place p o = true) : Goes (T_valid_place p o) (T0_valid_place p o) (u_valid_place p o) :=
  Goes.brk hk (fun hk =>
    Goes.brk hk (fun hk =>
      Goes.leaf) (fun hk =>
      Goes.brk hk (fun hk =>
        g_valid_place_l5 p o true hk) (fun hk =>
        g_valid_place_l5 p o (decide (o.2.2.1 ≥ (Int.ofNat (List.length p.1)))) hk))) (fun hk =>
    Goes.brk hk (fun hk =>
      g_valid_place_l5 p o true hk) (fun hk =>
      g_valid_place_l5 p o (decide (o.2.2.1 ≥ (Int.ofNat (List.length p.1)))) hk))
def R_valid_place : Int → AV := fun (r : Int) => .d (.int .i64) r
def S_valid_place (p : El T_api_Prog) (o : El T_api_Opd) : J_valid_place → Nat × St
  | .l5 h => (5, ⟨mkTm 39 [(2, .pt 3 0 0), (3, .pt 4 0 0), (23, .d .bool h)], [(3, 0, .box 25 [.d (.sl T_api_Sym) p.1, .d (.sl (.sl T_api_Ins)) p.2] none), (4, 0, .box 42 [.d (.int .i64) o.1, .d (.int .i64) o.2.1, .d (.int .i64) o.2.2.1, .d (.int .i64) o.2.2.2] none)]⟩)
theorem en_valid_place (p : El T_api_Prog) (o : El T_api_Opd) (L : Lt) : entryA Go.Proofs.Tryd.prog (clOf t_valid_place) tb_valid_place Go.Proofs.Tryd.f76 c_valid_place L (toForms sg_valid_place (p, o, ())) = (T0_valid_place p o).run (fun v => some (R_valid_place v, tps (toForms sg_valid_place (p, o, ())))) fun j => L (S_valid_place p o j).1 (S_valid_place p o j).2 := by kernel_rfl
theorem lp_valid_place (p : El T_api_Prog) (o : El T_api_Opd) : ∀ (L : Lt) (j : J_valid_place), procOf (procsF Go.Proofs.Tryd.prog (clOf t_valid_place) tb_valid_place Go.Proofs.Tryd.f76 c_valid_place (toForms sg_valid_place (p, o, ()))) (S_valid_place p o j).1 L (S_valid_place p o j).2 = (T_valid_place p o j).run (fun v => some (R_valid_place v, tps (toForms sg_valid_place (p, o, ())))) fun j => L (S_valid_place p o j).1 (S_valid_place p o j).2
  | L, .l5 h => by kernel_rfl
end Go.Ev
end

section
set_option linter.unusedSectionVars false
set_option linter.unusedVariables false
set_option linter.unusedSimpArgs false
set_option linter.unusedVariables false
set_option linter.unusedSimpArgs false
open Go
namespace Go.Ev
def v_valid_place (p : El T_api_Prog) (o : El T_api_Opd) : Int := placeC p o
theorem place_eq' (len : Nat) (size : Int → Int) (k s n : Int) :
  (bif (k != (3 : Int)) then
    bif (k != (4 : Int)) then
      (0 : Int)
    else bif (decide (s < (0 : Int))) then (7 : Int)
    else bif (decide (s ≥ (Int.ofNat len))) then
    (7 : Int)
  else bif (k == (3 : Int)) then
    bif ((decide ((0 : Int) ≤ s)) && (decide (s < (Int.ofNat len)))) then
      bif (decide (n ≥ size s)) then
        (8 : Int)
      else (0 : Int)
    else (0 : Int)
  else (0 : Int)
  else bif (decide (s < (0 : Int))) then (7 : Int)
    else bif (decide (s ≥ (Int.ofNat len))) then
    (7 : Int)
  else bif (k == (3 : Int)) then
    bif ((decide ((0 : Int) ≤ s)) && (decide (s < (Int.ofNat len)))) then
      bif (decide (n ≥ size s)) then
        (8 : Int)
      else (0 : Int)
    else (0 : Int)
  else (0 : Int)) = placeN len size k s n := by
  unfold placeN
  by_cases h3 : k = 3
  · subst h3
    by_cases hs : s < 0
    · simp [hs]
    by_cases hl : (len : Int) ≤ s
    · simp [hs, hl]
    have h1 : 0 ≤ s := by omega
    have h2 : s < (len : Int) := by omega
    by_cases hn : size s ≤ n
    · simp [hs, hl, hn, h1, h2]
    · simp [hs, hl, hn, h1, h2]
  by_cases h4 : k = 4
  · subst h4
    by_cases hs : s < 0
    · simp [hs]
    by_cases hl : (len : Int) ≤ s
    · simp [hs, hl]
    simp [hs, hl]
  have e3 : (k != (3 : Int)) = true := by simp [h3]
  have e4 : (k != (4 : Int)) = true := by simp [h4]
  rw [e3, e4]
  simp [h3, h4]
theorem place_k' (len : Nat) (size : Int → Int) (k s n : Int) :
  (bif (k != (3 : Int)) then
    bif (k != (4 : Int)) then
      true
    else bif (decide (s < (0 : Int))) then true
    else bif (decide (s ≥ (Int.ofNat len))) then
    true
  else bif (k == (3 : Int)) then
    bif ((decide ((0 : Int) ≤ s)) && (decide (s < (Int.ofNat len)))) then
      bif (decide (n ≥ size s)) then
        true
      else true
    else false
  else true
  else bif (decide (s < (0 : Int))) then true
    else bif (decide (s ≥ (Int.ofNat len))) then
    true
  else bif (k == (3 : Int)) then
    bif ((decide ((0 : Int) ≤ s)) && (decide (s < (Int.ofNat len)))) then
      bif (decide (n ≥ size s)) then
        true
      else true
    else false
  else true) = true := by
  by_cases h3 : k = 3
  · subst h3
    by_cases hs : s < 0
    · simp [hs]
    by_cases hl : (len : Int) ≤ s
    · simp [hs, hl]
    have h1 : 0 ≤ s := by omega
    have h2 : s < (len : Int) := by omega
    by_cases hn : size s ≤ n
    · simp [hs, hl, hn, h1, h2]
    · simp [hs, hl, hn, h1, h2]
  by_cases h4 : k = 4
  · subst h4
    by_cases hs : s < 0
    · simp [hs]
    by_cases hl : (len : Int) ≤ s
    · simp [hs, hl]
    simp [hs, hl]
  have e3 : (k != (3 : Int)) = true := by simp [h3]
  have e4 : (k != (4 : Int)) = true := by simp [h4]
  rw [e3, e4]
  simp [h3, h4]
theorem g_valid_place (p : El T_api_Prog) (o : El T_api_Opd) : Goes (T_valid_place p o) (T0_valid_place p o) (v_valid_place p o) := by
  have hk : ku_valid_place p o = true := place_k' p.1.length (fun s => (List.getD p.1 s.toNat (dflt T_api_Sym)).2.1) o.1 o.2.2.1 o.2.2.2
  have he : u_valid_place p o = v_valid_place p o := place_eq' p.1.length (fun s => (List.getD p.1 s.toNat (dflt T_api_Sym)).2.1) o.1 o.2.2.1 o.2.2.2
  rw [← he]
  exact gu_valid_place p o hk
end Go.Ev
end

section
set_option linter.unusedSectionVars false
set_option linter.unusedVariables false
set_option linter.unusedSimpArgs false
set_option maxRecDepth 100000
set_option linter.unusedVariables false
open Go Go.Ev
namespace Go.Ev
noncomputable def e_valid_place : Run := entT sg_valid_place R_valid_place (fun a => v_valid_place a.1 a.2.1)
theorem ok_valid_place : EntOK Go.Proofs.Tryd.prog 76 e_valid_place := entT_ok (tb := tb_valid_place) (c := c_valid_place) tk_valid_place (by kernel_rfl) (by kernel_rfl) (by kernel_rfl) (fun a => by kernel_rfl) fun ⟨p, o, _⟩ => evF_goes (c := c_valid_place) (K := fun v => (R_valid_place v, tps (toForms sg_valid_place (p, o, ())))) (S := S_valid_place p o) (by kernel_rfl) (en_valid_place p o) (lp_valid_place p o) (g_valid_place p o)
end Go.Ev
end

section
set_option linter.unusedSectionVars false
set_option linter.unusedVariables false
set_option linter.unusedSimpArgs false
set_option maxRecDepth 100000
set_option linter.unusedVariables false
open Go Go.Ev
namespace Go.Ev
/-! ### paling/valid.thread -/
def sg_valid_thread : Sig := [(true, T_api_Prog), (true, (.sl T_api_Ins))]
noncomputable def t_valid_thread : Tbl := [(75, e_valid_Count), (56, e_names_Right), (58, e_ins_Right), (76, e_valid_place), (77, e_ins_Leads)]
theorem tk_valid_thread : ∀ p ∈ t_valid_thread, EntOK Go.Proofs.Tryd.prog p.1 p.2 := tbl_cons ok_valid_Count (tbl_cons ok_names_Right (tbl_cons ok_ins_Right (tbl_cons ok_valid_place (tbl_cons ok_ins_Leads (tbl_nil)))))
noncomputable def c_valid_thread : Code := Go.Proofs.Tryd.f57.body.getD .skip
def tb_valid_thread : Tb := [(7, ⟨[2, 3, 5, 21, 22, 23, 67, 68, 69, 70, 71, 72, 73, 74, 75, 76, 77, 78, 79, 80, 81, 82, 83, 84, 100, 101, 102, 103, 104], []⟩), (14, ⟨[2, 3, 5, 7, 21, 22, 23, 28, 29, 30, 67, 68, 69, 70, 71, 72, 73, 74, 75, 76, 77, 78, 79, 80, 81, 82, 83, 84, 100, 101, 102, 103, 104], []⟩), (38, ⟨[5, 87, 88, 89], []⟩)]
inductive J_valid_thread where
  | l7 (h : Int) (seen : List (ByteArray × Bool))
  | l14 (h : List ByteArray) (h1 : Int) (i : Int) (i1 : Bool) (i2 : Int) (i3 : Int) (i4 : Int) (i5 : Int) (i6 : Int) (i7 : Int) (i8 : Int) (i9 : Int) (i10 : Int) (i11 : ByteArray) (i12 : List ByteArray) (h2 : Int) (seen : List (ByteArray × Bool)) (h3 : Int)
  | l38 (h : Int) (seen : List (ByteArray × Bool))
def T_valid_thread (p : El T_api_Prog) (t : List (El T_api_Ins)) : J_valid_thread → JT J_valid_thread (Int)
  | .l7 h seen =>
    .br (decide (h < (Int.ofNat (List.length t))))
      (.br ((decide ((0 : Int) ≤ h)) && (decide (h < (Int.ofNat (List.length t)))))
        (.jmp (.l14 (List.getD t (Int.toNat h) (dflt T_api_Ins)).2.2.2.2.2.2 (Int.ofNat (List.length (List.getD t (Int.toNat h) (dflt T_api_Ins)).2.2.2.2.2.2)) (List.getD t (Int.toNat h) (dflt T_api_Ins)).1 (List.getD t (Int.toNat h) (dflt T_api_Ins)).2.1 (List.getD t (Int.toNat h) (dflt T_api_Ins)).2.2.1 (List.getD t (Int.toNat h) (dflt T_api_Ins)).2.2.2.1.1 (List.getD t (Int.toNat h) (dflt T_api_Ins)).2.2.2.1.2.1 (List.getD t (Int.toNat h) (dflt T_api_Ins)).2.2.2.1.2.2.1 (List.getD t (Int.toNat h) (dflt T_api_Ins)).2.2.2.1.2.2.2 (List.getD t (Int.toNat h) (dflt T_api_Ins)).2.2.2.2.1.1 (List.getD t (Int.toNat h) (dflt T_api_Ins)).2.2.2.2.1.2.1 (List.getD t (Int.toNat h) (dflt T_api_Ins)).2.2.2.2.1.2.2.1 (List.getD t (Int.toNat h) (dflt T_api_Ins)).2.2.2.2.1.2.2.2 (List.getD t (Int.toNat h) (dflt T_api_Ins)).2.2.2.2.2.1 (List.getD t (Int.toNat h) (dflt T_api_Ins)).2.2.2.2.2.2 (0 : Int) seen h))
      (.no))
    (.br ((Int.ofNat (List.length t)) == (0 : Int))
      (.leaf (9 : Int))
    (.br ((decide ((0 : Int) ≤ (IntKind.i64.wrap ((Int.ofNat (List.length t)) - (1 : Int))))) && (decide ((IntKind.i64.wrap ((Int.ofNat (List.length t)) - (1 : Int))) < (Int.ofNat (List.length t)))))
      (.br ((List.getD t (Int.toNat (IntKind.i64.wrap ((Int.ofNat (List.length t)) - (1 : Int)))) (dflt T_api_Ins)).1 != (10 : Int))
        (.br ((decide ((0 : Int) ≤ (IntKind.i64.wrap ((Int.ofNat (List.length t)) - (1 : Int))))) && (decide ((IntKind.i64.wrap ((Int.ofNat (List.length t)) - (1 : Int))) < (Int.ofNat (List.length t)))))
          (.br ((List.getD t (Int.toNat (IntKind.i64.wrap ((Int.ofNat (List.length t)) - (1 : Int)))) (dflt T_api_Ins)).1 != (14 : Int))
            (.leaf (9 : Int))
          (.jmp (.l38 (0 : Int) seen)))
        (.no))
      (.jmp (.l38 (0 : Int) seen)))
    (.no)))
  | .l14 h h1 i i1 i2 i3 i4 i5 i6 i7 i8 i9 i10 i11 i12 h2 seen h3 =>
    .br (decide (h2 < h1))
      (.br ((decide ((0 : Int) ≤ h2)) && (decide (h2 < (Int.ofNat (List.length h)))))
        (.br (k_names_Right (List.getD h (Int.toNat h2) (dflt .str)))
          (.br (! (v_names_Right (List.getD h (Int.toNat h2) (dflt .str))))
            (.leaf (3 : Int))
          (.br (Option.getD (mget (kt := .str) (List.getD h (Int.toNat h2) (dflt .str)) seen) false)
            (.leaf (6 : Int))
          (.jmp (.l14 h h1 i i1 i2 i3 i4 i5 i6 i7 i8 i9 i10 i11 i12 (IntKind.i64.wrap (h2 + (1 : Int))) (mput (kt := .str) (List.getD h (Int.toNat h2) (dflt .str)) true seen) h3))))
        (.no))
      (.no))
    (.br (k_ins_Right (i, (i1, (i2, ((i3, (i4, (i5, i6))), ((i7, (i8, (i9, i10))), (i11, i12)))))))
      (.br ((v_ins_Right (i, (i1, (i2, ((i3, (i4, (i5, i6))), ((i7, (i8, (i9, i10))), (i11, i12))))))) == (0 : Int))
        (.br ((v_valid_place p (i3, (i4, (i5, i6)))) == (0 : Int))
          (.br ((v_valid_place p (i7, (i8, (i9, i10)))) != (0 : Int))
            (.leaf (v_valid_place p (i7, (i8, (i9, i10)))))
          (.jmp (.l7 (IntKind.i64.wrap (h3 + (1 : Int))) seen)))
        (.br ((v_valid_place p (i3, (i4, (i5, i6)))) != (0 : Int))
          (.leaf (v_valid_place p (i3, (i4, (i5, i6)))))
        (.jmp (.l7 (IntKind.i64.wrap (h3 + (1 : Int))) seen))))
      (.br ((v_ins_Right (i, (i1, (i2, ((i3, (i4, (i5, i6))), ((i7, (i8, (i9, i10))), (i11, i12))))))) == (0 : Int))
        (.br ((v_valid_place p (i7, (i8, (i9, i10)))) != (0 : Int))
          (.leaf (v_valid_place p (i7, (i8, (i9, i10)))))
        (.jmp (.l7 (IntKind.i64.wrap (h3 + (1 : Int))) seen)))
      (.br ((v_ins_Right (i, (i1, (i2, ((i3, (i4, (i5, i6))), ((i7, (i8, (i9, i10))), (i11, i12))))))) != (0 : Int))
        (.leaf (v_ins_Right (i, (i1, (i2, ((i3, (i4, (i5, i6))), ((i7, (i8, (i9, i10))), (i11, i12))))))))
      (.jmp (.l7 (IntKind.i64.wrap (h3 + (1 : Int))) seen)))))
    (.no))
  | .l38 h seen =>
    .br (decide (h < (Int.ofNat (List.length t))))
      (.br ((decide ((0 : Int) ≤ h)) && (decide (h < (Int.ofNat (List.length t)))))
        (.br (k_ins_Leads (List.getD t (Int.toNat h) (dflt T_api_Ins)))
          (.br (v_ins_Leads (List.getD t (Int.toNat h) (dflt T_api_Ins))).2
            (.br (! (Option.getD (mget (kt := .str) (List.getD t (Int.toNat h) (dflt T_api_Ins)).2.2.2.2.2.1 seen) false))
              (.leaf (7 : Int))
            (.jmp (.l38 (IntKind.i64.wrap (h + (1 : Int))) seen)))
          (.jmp (.l38 (IntKind.i64.wrap (h + (1 : Int))) seen)))
        (.no))
      (.no))
    (.leaf (0 : Int))
def T0_valid_thread (p : El T_api_Prog) (t : List (El T_api_Ins)) : JT J_valid_thread (Int) :=
  .br (k_valid_Count t)
    (.br (decide ((v_valid_Count t) > (4096 : Int)))
      (.leaf (10 : Int))
    (.jmp (.l7 (0 : Int) [])))
  (.no)
def R_valid_thread : Int → AV := fun (r : Int) => .d (.int .i64) r
def S_valid_thread (p : El T_api_Prog) (t : List (El T_api_Ins)) : J_valid_thread → Nat × St
  | .l7 h seen => (7, ⟨mkTm 107 [(2, .pt 3 0 0), (3, .pt 4 0 0), (5, .mp 6 0), (21, .d (.sl T_api_Ins) t), (22, .d (.int .i64) (Int.ofNat (List.length t))), (23, .d (.int .i64) h)], [(3, 0, .box 25 [.d (.sl T_api_Sym) p.1, .d (.sl (.sl T_api_Ins)) p.2] none), (4, 0, .box 40 [.d (.sl T_api_Ins) t] none), (6, 0, .map .str .bool seen)]⟩)
  | .l14 h h1 i i1 i2 i3 i4 i5 i6 i7 i8 i9 i10 i11 i12 h2 seen h3 => (14, ⟨mkTm 107 [(2, .pt 3 0 0), (3, .pt 4 0 0), (5, .mp 6 0), (7, .pt 8 0 0), (21, .d (.sl T_api_Ins) t), (22, .d (.int .i64) (Int.ofNat (List.length t))), (23, .d (.int .i64) h3), (28, .d (.sl .str) h), (29, .d (.int .i64) h1), (30, .d (.int .i64) h2)], [(3, 0, .box 25 [.d (.sl T_api_Sym) p.1, .d (.sl (.sl T_api_Ins)) p.2] none), (4, 0, .box 40 [.d (.sl T_api_Ins) t] none), (6, 0, .map .str .bool seen), (8, 0, .box 47 [.d (.int .i64) i, .d .bool i1, .d (.int .i64) i2, .d (.int .i64) i3, .d (.int .i64) i4, .d (.int .i64) i5, .d (.int .i64) i6, .d (.int .i64) i7, .d (.int .i64) i8, .d (.int .i64) i9, .d (.int .i64) i10, .d .str i11, .d (.sl .str) i12] none)]⟩)
  | .l38 h seen => (38, ⟨mkTm 107 [(5, .mp 6 0), (87, .d (.sl T_api_Ins) t), (88, .d (.int .i64) (Int.ofNat (List.length t))), (89, .d (.int .i64) h)], [(6, 0, .map .str .bool seen)]⟩)
theorem en_valid_thread (p : El T_api_Prog) (t : List (El T_api_Ins)) (L : Lt) : entryA Go.Proofs.Tryd.prog (clOf t_valid_thread) tb_valid_thread Go.Proofs.Tryd.f57 c_valid_thread L (toForms sg_valid_thread (p, t, ())) = (T0_valid_thread p t).run (fun v => some (R_valid_thread v, tps (toForms sg_valid_thread (p, t, ())))) fun j => L (S_valid_thread p t j).1 (S_valid_thread p t j).2 := by kernel_rfl
theorem lp_valid_thread (p : El T_api_Prog) (t : List (El T_api_Ins)) : ∀ (L : Lt) (j : J_valid_thread), procOf (procsF Go.Proofs.Tryd.prog (clOf t_valid_thread) tb_valid_thread Go.Proofs.Tryd.f57 c_valid_thread (toForms sg_valid_thread (p, t, ()))) (S_valid_thread p t j).1 L (S_valid_thread p t j).2 = (T_valid_thread p t j).run (fun v => some (R_valid_thread v, tps (toForms sg_valid_thread (p, t, ())))) fun j => L (S_valid_thread p t j).1 (S_valid_thread p t j).2
  | L, .l7 h seen => by kernel_rfl
  | L, .l14 h h1 i i1 i2 i3 i4 i5 i6 i7 i8 i9 i10 i11 i12 h2 seen h3 => by kernel_rfl
  | L, .l38 h seen => by kernel_rfl
end Go.Ev
end

section
set_option linter.unusedSectionVars false
set_option linter.unusedVariables false
set_option linter.unusedSimpArgs false
set_option linter.unusedVariables false
set_option linter.unusedSimpArgs false
open Go
namespace Go.Ev
def v_valid_thread (p : El T_api_Prog) (t : List (El T_api_Ins)) : Int := threadC p t
def k_valid_thread (p : El T_api_Prog) (t : List (El T_api_Ins)) : Bool := smallThread t
theorem g_valid_thread (p : El T_api_Prog) (t : List (El T_api_Ins)) (hk : k_valid_thread p t = true) : Goes (T_valid_thread p t) (T0_valid_thread p t) (v_valid_thread p t) := by
  have hS := smallT hk
  have hn := hS.len
  have jmps : ∀ m seen, Seen m seen → (∀ i ∈ t, v_ins_Right i = 0) → ∀ k, k ≤ t.length → Goes (T_valid_thread p t) (.jmp (.l38 (k : Int) m)) (jumpC seen (t.drop k)) := by
    intro m seen hm hr
    refine down ?_ fun k hk ih => ?_
    · rw [goes_jmp]
      simp only [T_valid_thread, goes_br, lt_len_not (Nat.lt_irrefl _), goes_leaf, List.drop_length]
      simp [jumpC]
    · have hmem : t[k] ∈ t := List.getElem_mem hk
      have hto := hS.to _ hmem
      rw [goes_jmp]
      simp only [T_valid_thread, goes_br, lt_len hk, nng, Bool.and_self, if_true, Int.toNat_natCast, getD_lt hk, wrap_succ (k := k) (by omega), (k_reads hto).2.2.1, jumps_is hto (hr _ hmem), hm t[k].2.2.2.2.2.1]
      rw [drop_cons hk]
      unfold jumpC
      by_cases h1 : ((t[k].1 == (10 : Int)) || (t[k].1 == (11 : Int))) = true
      · rw [if_pos h1, if_pos h1]
        by_cases h2 : seen.contains t[k].2.2.2.2.2.1 = true
        · rw [if_pos h2, if_neg (by rw [h2]; decide)]; exact ih
        · rw [if_neg h2, if_pos (by rw [Bool.eq_false_iff.2 h2]; rfl)]; exact .leaf
      · rw [if_neg h1, if_neg h1]; exact ih
  have main : ∀ k, k ≤ t.length → ∀ m seen, Seen m seen → (∀ i ∈ t.take k, v_ins_Right i = 0) → Goes (T_valid_thread p t) (.jmp (.l7 (k : Int) m)) (scanI p (fun seen => endC t (jumpC seen t)) seen (t.drop k)) := by
    refine down ?_ fun k hk ih => ?_
    · intro m seen hm hr
      rw [List.take_length] at hr
      have hj := jmps m seen hm hr 0 (Nat.zero_le _)
      rw [List.drop_zero] at hj
      rw [goes_jmp, List.drop_length]
      unfold scanI
      simp only [T_valid_thread, goes_br, lt_len_not (Nat.lt_irrefl _)]
      rw [if_neg (by decide)]
      by_cases h0 : t.length = 0
      · have : t = [] := List.eq_nil_of_length_eq_zero h0
        rw [this]; simp [goes_leaf, endC]
      · have hp : 0 < t.length := by omega
        rw [if_neg (by simp; exact fun e => h0 (by rw [e]; rfl)), endC_eq hp]
        rw [show Int.ofNat t.length = (t.length : Int) from rfl, wrap_pred (k := t.length) (by omega) hp]
        have hb : (decide (0 ≤ ((t.length - 1 : Nat) : Int)) && decide (((t.length - 1 : Nat) : Int) < (t.length : Int))) = true := by simp; omega
        simp only [hb, if_true, Int.toNat_natCast, getD_lt (show t.length - 1 < t.length by omega)]
        unfold bne
        cases h10 : (t[t.length - 1].1 == (10 : Int)) with
        | true => simpa using hj
        | false =>
          cases h14 : (t[t.length - 1].1 == (14 : Int)) with
          | true => simpa using hj
          | false => simp [goes_leaf]
    · intro m seen hm hr
      have hmem : t[k] ∈ t := List.getElem_mem hk
      have hto := hS.to _ hmem
      have hlab := hS.lab _ hmem
      have hlen := Nat.lt_of_le_of_lt (labels_mem hmem) hS.labs
      have hr' : v_ins_Right t[k] = 0 → ∀ i ∈ t.take (k + 1), v_ins_Right i = 0 := fun h i hi => by
        rw [List.take_add_one, List.getElem?_eq_getElem hk] at hi
        rcases List.mem_append.1 hi with hi | hi
        · exact hr i hi
        · rw [Option.toList_some, List.mem_singleton] at hi; rw [hi]; exact h
      rw [goes_jmp]
      simp only [T_valid_thread, goes_br, lt_len hk, nng, Bool.and_self, if_true, Int.toNat_natCast, getD_lt hk]
      rw [drop_cons hk]
      unfold scanI
      generalize t[k] = i at hto hlab hlen hr'
      obtain ⟨op, lock, cond, ⟨ak, ar, ay, an⟩, ⟨bk, br, bz, bn⟩, to, ls⟩ := i
      dsimp only at hto hlab hlen hr' ⊢
      have inner : ∀ j, j ≤ ls.length → ∀ m seen, Seen m seen → Goes (T_valid_thread p t) (.jmp (.l14 ls (Int.ofNat ls.length) op lock cond ak ar ay an bk br bz bn to ls (j : Int) m (k : Int))) (scanL seen (fun seen => if insC p (op, (lock, (cond, ((ak, (ar, (ay, an))), ((bk, (br, (bz, bn))), (to, ls)))))) ≠ 0 then insC p (op, (lock, (cond, ((ak, (ar, (ay, an))), ((bk, (br, (bz, bn))), (to, ls)))))) else scanI p (fun seen => endC t (jumpC seen t)) seen (t.drop (k + 1))) (ls.drop j)) := by
        refine down ?_ fun j hj ihj => ?_
        · intro m seen hm
          rw [goes_jmp, List.drop_length]
          unfold scanL
          have hkr : k_ins_Right (op, (lock, (cond, ((ak, (ar, (ay, an))), ((bk, (br, (bz, bn))), (to, ls)))))) = true := hto
          simp only [T_valid_thread, goes_br, lt_len_not (Nat.lt_irrefl _), hkr, if_true, v_valid_place, wrap_succ (k := k) (by omega)]
          rw [if_neg (by decide)]
          unfold insC
          dsimp only
          by_cases hr : v_ins_Right (op, (lock, (cond, ((ak, (ar, (ay, an))), ((bk, (br, (bz, bn))), (to, ls)))))) = 0
          · have ih' := ih m seen hm (hr' hr)
            by_cases ha : placeC p (ak, (ar, (ay, an))) = 0
            · by_cases hb : placeC p (bk, (br, (bz, bn))) = 0
              · simp [hr, ha, hb]; exact ih'
              · simp [hr, ha, hb, goes_leaf]
            · simp [hr, ha, goes_leaf]
          · simp [hr, goes_leaf]
        · intro m seen hm
          have hl := hlab ls[j] (List.getElem_mem hj)
          have hkn : k_names_Right ls[j] = true := hl
          rw [goes_jmp]
          simp only [T_valid_thread, goes_br, lt_len hj, nng, Bool.and_self, if_true, Int.toNat_natCast, getD_lt hj, wrap_succ (k := j) (by omega), hkn, hm ls[j]]
          rw [drop_cons hj]
          unfold scanL
          by_cases h1 : nameRight ls[j] = false
          · rw [if_pos h1, if_pos (by show (! nameRight ls[j]) = true; rw [h1]; rfl)]; exact .leaf
          · rw [if_neg h1, if_neg (by show ¬ (! nameRight ls[j]) = true; simpa using h1)]
            by_cases h2 : seen.contains ls[j] = true
            · rw [if_pos h2, if_pos h2]; exact .leaf
            · rw [if_neg h2, if_neg h2]; exact ihj _ _ (hm.put _)
      have := inner 0 (Nat.zero_le _) m seen hm
      rw [List.drop_zero] at this
      exact this
  unfold T0_valid_thread v_valid_thread
  have hkc : k_valid_Count t = true := decide_eq_true hn
  simp only [goes_br, hkc, if_true]
  unfold threadC v_valid_Count
  by_cases h : 4096 < countM t
  · rw [if_pos (by simp; omega), if_pos h]; exact .leaf
  · rw [if_neg (by simp; omega), if_neg h]
    exact main 0 (Nat.zero_le _) [] [] Seen.nil (fun i hi => by simp at hi)
end Go.Ev
end

section
set_option linter.unusedSectionVars false
set_option linter.unusedVariables false
set_option linter.unusedSimpArgs false
set_option maxRecDepth 100000
set_option linter.unusedVariables false
open Go Go.Ev
namespace Go.Ev
noncomputable def e_valid_thread : Run := entG sg_valid_thread R_valid_thread (fun a => k_valid_thread a.1 a.2.1) (fun a => v_valid_thread a.1 a.2.1)
theorem ok_valid_thread : EntOK Go.Proofs.Tryd.prog 57 e_valid_thread := entG_ok (tb := tb_valid_thread) (c := c_valid_thread) tk_valid_thread (by kernel_rfl) (by kernel_rfl) (by kernel_rfl) (fun a => by kernel_rfl) fun ⟨p, t, _⟩ hk => evF_goes (c := c_valid_thread) (K := fun v => (R_valid_thread v, tps (toForms sg_valid_thread (p, t, ())))) (S := S_valid_thread p t) (by kernel_rfl) (en_valid_thread p t) (lp_valid_thread p t) (g_valid_thread p t hk)
end Go.Ev
end

section
set_option linter.unusedSectionVars false
set_option linter.unusedVariables false
set_option linter.unusedSimpArgs false
set_option maxRecDepth 100000
set_option linter.unusedVariables false
open Go Go.Ev
namespace Go.Ev
/-! ### paling/valid.Check -/
def sg_valid_Check : Sig := [(true, T_api_Prog)]
noncomputable def t_valid_Check : Tbl := [(56, e_names_Right), (57, e_valid_thread)]
theorem tk_valid_Check : ∀ p ∈ t_valid_Check, EntOK Go.Proofs.Tryd.prog p.1 p.2 := tbl_cons ok_names_Right (tbl_cons ok_valid_thread (tbl_nil))
noncomputable def c_valid_Check : Code := Go.Proofs.Tryd.f36.body.getD .skip
def tb_valid_Check : Tb := [(7, ⟨[1, 3, 21, 22, 23], []⟩), (21, ⟨[1, 59, 60, 61], []⟩)]
inductive J_valid_Check where
  | l7 (h : Int) (seen : List (ByteArray × Bool))
  | l21 (h : Int)
def T_valid_Check (p : El T_api_Prog) : J_valid_Check → JT J_valid_Check (Int)
  | .l7 h seen =>
    .br (decide (h < (Int.ofNat (List.length p.1))))
      (.br ((decide ((0 : Int) ≤ h)) && (decide (h < (Int.ofNat (List.length p.1)))))
        (.br (k_names_Right (List.getD p.1 (Int.toNat h) (dflt T_api_Sym)).1)
          (.br (! (v_names_Right (List.getD p.1 (Int.toNat h) (dflt T_api_Sym)).1))
            (.leaf (3 : Int))
          (.br (Option.getD (mget (kt := .str) (List.getD p.1 (Int.toNat h) (dflt T_api_Sym)).1 seen) false)
            (.leaf (6 : Int))
          (.br (decide ((List.getD p.1 (Int.toNat h) (dflt T_api_Sym)).2.1 < (1 : Int)))
            (.leaf (5 : Int))
          (.br (decide ((List.getD p.1 (Int.toNat h) (dflt T_api_Sym)).2.1 > (64 : Int)))
            (.leaf (5 : Int))
          (.br (decide ((Int.ofNat (List.length (List.getD p.1 (Int.toNat h) (dflt T_api_Sym)).2.2)) > (List.getD p.1 (Int.toNat h) (dflt T_api_Sym)).2.1))
            (.leaf (5 : Int))
          (.jmp (.l7 (IntKind.i64.wrap (h + (1 : Int))) (mput (kt := .str) (List.getD p.1 (Int.toNat h) (dflt T_api_Sym)).1 true seen))))))))
        (.no))
      (.no))
    (.jmp (.l21 (0 : Int)))
  | .l21 h =>
    .br (decide (h < (Int.ofNat (List.length p.2))))
      (.br ((decide ((0 : Int) ≤ h)) && (decide (h < (Int.ofNat (List.length p.2)))))
        (.br (k_valid_thread p (List.getD p.2 (Int.toNat h) (dflt (.sl (.pr (.int .i64) (.pr .bool (.pr (.int .i64) (.pr (.pr (.int .i64) (.pr (.int .i64) (.pr (.int .i64) (.int .i64)))) (.pr (.pr (.int .i64) (.pr (.int .i64) (.pr (.int .i64) (.int .i64)))) (.pr .str (.sl .str)))))))))))
          (.br ((v_valid_thread p (List.getD p.2 (Int.toNat h) (dflt (.sl (.pr (.int .i64) (.pr .bool (.pr (.int .i64) (.pr (.pr (.int .i64) (.pr (.int .i64) (.pr (.int .i64) (.int .i64)))) (.pr (.pr (.int .i64) (.pr (.int .i64) (.pr (.int .i64) (.int .i64)))) (.pr .str (.sl .str))))))))))) != (0 : Int))
            (.leaf (v_valid_thread p (List.getD p.2 (Int.toNat h) (dflt (.sl (.pr (.int .i64) (.pr .bool (.pr (.int .i64) (.pr (.pr (.int .i64) (.pr (.int .i64) (.pr (.int .i64) (.int .i64)))) (.pr (.pr (.int .i64) (.pr (.int .i64) (.pr (.int .i64) (.int .i64)))) (.pr .str (.sl .str))))))))))))
          (.jmp (.l21 (IntKind.i64.wrap (h + (1 : Int))))))
        (.no))
      (.no))
    (.leaf (0 : Int))
def T0_valid_Check (p : El T_api_Prog) : JT J_valid_Check (Int) :=
  .br (decide ((Int.ofNat (List.length p.1)) > (64 : Int)))
    (.leaf (10 : Int))
  (.br (decide ((Int.ofNat (List.length p.2)) > (64 : Int)))
    (.leaf (10 : Int))
  (.jmp (.l7 (0 : Int) [])))
def R_valid_Check : Int → AV := fun (r : Int) => .d (.int .i64) r
def S_valid_Check (p : El T_api_Prog) : J_valid_Check → Nat × St
  | .l7 h seen => (7, ⟨mkTm 72 [(1, .pt 2 0 0), (3, .mp 4 0), (21, .d (.sl T_api_Sym) p.1), (22, .d (.int .i64) (Int.ofNat (List.length p.1))), (23, .d (.int .i64) h)], [(2, 0, .box 25 [.d (.sl T_api_Sym) p.1, .d (.sl (.sl T_api_Ins)) p.2] none), (4, 0, .map .str .bool seen)]⟩)
  | .l21 h => (21, ⟨mkTm 72 [(1, .pt 2 0 0), (59, .d (.sl (.sl T_api_Ins)) p.2), (60, .d (.int .i64) (Int.ofNat (List.length p.2))), (61, .d (.int .i64) h)], [(2, 0, .box 25 [.d (.sl T_api_Sym) p.1, .d (.sl (.sl T_api_Ins)) p.2] none)]⟩)
theorem en_valid_Check (p : El T_api_Prog) (L : Lt) : entryA Go.Proofs.Tryd.prog (clOf t_valid_Check) tb_valid_Check Go.Proofs.Tryd.f36 c_valid_Check L (toForms sg_valid_Check (p, ())) = (T0_valid_Check p).run (fun v => some (R_valid_Check v, tps (toForms sg_valid_Check (p, ())))) fun j => L (S_valid_Check p j).1 (S_valid_Check p j).2 := by kernel_rfl
theorem lp_valid_Check (p : El T_api_Prog) : ∀ (L : Lt) (j : J_valid_Check), procOf (procsF Go.Proofs.Tryd.prog (clOf t_valid_Check) tb_valid_Check Go.Proofs.Tryd.f36 c_valid_Check (toForms sg_valid_Check (p, ()))) (S_valid_Check p j).1 L (S_valid_Check p j).2 = (T_valid_Check p j).run (fun v => some (R_valid_Check v, tps (toForms sg_valid_Check (p, ())))) fun j => L (S_valid_Check p j).1 (S_valid_Check p j).2
  | L, .l7 h seen => by kernel_rfl
  | L, .l21 h => by kernel_rfl
end Go.Ev
end

section
set_option linter.unusedSectionVars false
set_option linter.unusedVariables false
set_option linter.unusedSimpArgs false
set_option linter.unusedVariables false
set_option linter.unusedSimpArgs false
open Go
namespace Go.Ev
def v_valid_Check (p : El T_api_Prog) : Int := checkC p
def k_valid_Check (p : El T_api_Prog) : Bool := smallProg p
theorem g_valid_Check (p : El T_api_Prog) (hk : k_valid_Check p = true) : Goes (T_valid_Check p) (T0_valid_Check p) (v_valid_Check p) := by
  have hth : ∀ t ∈ p.2, smallThread t = true := by
    unfold k_valid_Check smallProg at hk
    simp only [Bool.and_eq_true, List.all_eq_true] at hk
    exact hk.2
  have hsy : ∀ s ∈ p.1, smallText s.1 = true := by
    unfold k_valid_Check smallProg at hk
    simp only [Bool.and_eq_true, List.all_eq_true] at hk
    exact hk.1
  obtain ⟨sy, th⟩ := p
  dsimp only at hth hsy
  have ths : th.length ≤ 64 → ∀ k, k ≤ th.length → Goes (T_valid_Check (sy, th)) (.jmp (.l21 (k : Int))) (thsC (sy, th) (th.drop k)) := by
    intro hn
    refine down ?_ fun k hk ih => ?_
    · rw [goes_jmp]
      simp only [T_valid_Check, goes_br, lt_len_not (Nat.lt_irrefl _), goes_leaf, List.drop_length]
      simp [thsC]
    · have hkt : k_valid_thread (sy, th) th[k] = true := hth _ (List.getElem_mem hk)
      rw [goes_jmp]
      simp only [T_valid_Check, goes_br, lt_len hk, nng, Bool.and_self, if_true, Int.toNat_natCast, getD_lt hk, wrap_succ (k := k) (by omega), hkt]
      rw [drop_cons hk]
      unfold thsC
      show (if (threadC (sy, th) th[k] != 0) = true then _ else _)
      by_cases h : threadC (sy, th) th[k] = 0
      · rw [if_neg (by simp [h]), if_neg (by simp [h])]; exact ih
      · rw [if_pos (by simp [h]), if_pos h]; exact .leaf

  have main : sy.length ≤ 64 → th.length ≤ 64 → ∀ k, k ≤ sy.length → ∀ m seen, Seen m seen → Goes (T_valid_Check (sy, th)) (.jmp (.l7 (k : Int) m)) (symsC (thsC (sy, th) th) seen (sy.drop k)) := by
    intro hn hm
    refine down ?_ fun k hk ih => ?_
    · intro m seen hs
      rw [goes_jmp, List.drop_length]
      unfold symsC
      simp only [T_valid_Check, goes_br, lt_len_not (Nat.lt_irrefl _)]
      rw [if_neg (by decide)]
      simpa using ths hm 0 (Nat.zero_le _)
    · intro m seen hs
      have hkn : k_names_Right sy[k].1 = true := hsy _ (List.getElem_mem hk)
      rw [goes_jmp]
      simp only [T_valid_Check, goes_br, lt_len hk, nng, Bool.and_self, if_true, Int.toNat_natCast, getD_lt hk, wrap_succ (k := k) (by omega), hkn, hs sy[k].1]
      rw [drop_cons hk]
      unfold symsC
      generalize sy[k] = s at *
      obtain ⟨nm, size, init⟩ := s
      dsimp only
      change Int at size
      by_cases h1 : nameRight nm = false
      · rw [if_pos h1, if_pos (by show (! nameRight nm) = true; rw [h1]; rfl)]; exact .leaf
      rw [if_neg h1, if_neg (by show ¬ (! nameRight nm) = true; simpa using h1)]
      by_cases h2 : seen.contains nm = true
      · rw [if_pos h2, if_pos h2]; exact .leaf
      rw [if_neg h2, if_neg h2]
      by_cases h3 : size < 1
      · rw [if_pos (decide_eq_true h3), if_pos (.inl h3)]; exact .leaf
      rw [if_neg (by simpa using h3)]
      by_cases h4 : 64 < size
      · rw [if_pos (decide_eq_true h4), if_pos (.inr (.inl h4))]; exact .leaf
      rw [if_neg (by simpa using h4)]
      by_cases h5 : size < (List.length init : Int)
      · rw [if_pos (show decide (Int.ofNat (List.length init) > size) = true from decide_eq_true h5), if_pos (.inr (.inr h5))]; exact .leaf
      rw [if_neg (show ¬ decide (Int.ofNat (List.length init) > size) = true by simpa using h5), if_neg (by rintro (h | h | h) <;> contradiction)]
      exact ih _ _ (hs.put nm)
  unfold T0_valid_Check v_valid_Check checkC
  simp only [goes_br]
  by_cases h : 64 < sy.length
  · rw [if_pos (by simp; omega), if_pos (.inl h)]; exact .leaf
  rw [if_neg (by simp; omega)]
  by_cases h2 : 64 < th.length
  · rw [if_pos (by simp; omega), if_pos (.inr h2)]; exact .leaf
  rw [if_neg (by simp; omega), if_neg (by rintro (h | h) <;> contradiction)]
  exact main (by omega) (by omega) 0 (Nat.zero_le _) [] [] Seen.nil
end Go.Ev
end

section
set_option linter.unusedSectionVars false
set_option linter.unusedVariables false
set_option linter.unusedSimpArgs false
set_option maxRecDepth 100000
set_option linter.unusedVariables false
open Go Go.Ev
namespace Go.Ev
noncomputable def e_valid_Check : Run := entG sg_valid_Check R_valid_Check (fun a => k_valid_Check a.1) (fun a => v_valid_Check a.1)
theorem ok_valid_Check : EntOK Go.Proofs.Tryd.prog 36 e_valid_Check := entG_ok (tb := tb_valid_Check) (c := c_valid_Check) tk_valid_Check (by kernel_rfl) (by kernel_rfl) (by kernel_rfl) (fun a => by kernel_rfl) fun ⟨p, _⟩ hk => evF_goes (c := c_valid_Check) (K := fun v => (R_valid_Check v, tps (toForms sg_valid_Check (p, ())))) (S := S_valid_Check p) (by kernel_rfl) (en_valid_Check p) (lp_valid_Check p) (g_valid_Check p hk)
end Go.Ev
end

section
set_option linter.unusedSectionVars false
set_option linter.unusedVariables false
set_option linter.unusedSimpArgs false
set_option maxRecDepth 100000
set_option linter.unusedVariables false
open Go Go.Ev
namespace Go.Ev
/-! ### paling/touch.Of -/
def sg_touch_Of : Sig := [(true, T_api_Prog)]
noncomputable def t_touch_Of : Tbl := [(36, e_valid_Check), (37, e_ins_Locked), (38, e_ins_Reads), (39, e_ins_Writes)]
theorem tk_touch_Of : ∀ p ∈ t_touch_Of, EntOK Go.Proofs.Tryd.prog p.1 p.2 := tbl_cons ok_valid_Check (tbl_cons ok_ins_Locked (tbl_cons ok_ins_Reads (tbl_cons ok_ins_Writes (tbl_nil))))
noncomputable def c_touch_Of : Code := Go.Proofs.Tryd.f14.body.getD .skip
def tb_touch_Of : Tb := [(7, ⟨[3, 17, 18, 19], [(4, 58)]⟩), (13, ⟨[3, 4, 17, 18, 19, 25, 26, 27], [(4, 58)]⟩), (hintK, ⟨[], [(1, 58)]⟩)]
inductive J_touch_Of where
  | l7 (h : Int) (out : List (El T_api_Access))
  | l13 (h : List (El T_api_Ins)) (h1 : Int) (h2 : Int) (out : List (El T_api_Access)) (t : Int) (h3 : Int)
def T_touch_Of (p : El T_api_Prog) : J_touch_Of → JT J_touch_Of (List (El T_api_Access))
  | .l7 h out =>
    .br (decide (h < (Int.ofNat (List.length p.2))))
      (.br ((decide ((0 : Int) ≤ h)) && (decide (h < (Int.ofNat (List.length p.2)))))
        (.jmp (.l13 (List.getD p.2 (Int.toNat h) (dflt (.sl (.pr (.int .i64) (.pr .bool (.pr (.int .i64) (.pr (.pr (.int .i64) (.pr (.int .i64) (.pr (.int .i64) (.int .i64)))) (.pr (.pr (.int .i64) (.pr (.int .i64) (.pr (.int .i64) (.int .i64)))) (.pr .str (.sl .str)))))))))) (Int.ofNat (List.length (List.getD p.2 (Int.toNat h) (dflt (.sl (.pr (.int .i64) (.pr .bool (.pr (.int .i64) (.pr (.pr (.int .i64) (.pr (.int .i64) (.pr (.int .i64) (.int .i64)))) (.pr (.pr (.int .i64) (.pr (.int .i64) (.pr (.int .i64) (.int .i64)))) (.pr .str (.sl .str)))))))))))) (0 : Int) out h h))
      (.no))
    (.leaf out)
  | .l13 h h1 h2 out t h3 =>
    .br (decide (h2 < h1))
      (.br ((decide ((0 : Int) ≤ h2)) && (decide (h2 < (Int.ofNat (List.length h)))))
        (.br (k_ins_Locked (List.getD h (Int.toNat h2) (dflt T_api_Ins)))
          (.br (k_ins_Reads (List.getD h (Int.toNat h2) (dflt T_api_Ins)))
            (.br (v_ins_Reads (List.getD h (Int.toNat h2) (dflt T_api_Ins))).2
              (.br (Nat.ble (((List.length out) + 1) * 40) limit)
                (.br (k_ins_Writes (List.getD h (Int.toNat h2) (dflt T_api_Ins)))
                  (.br (v_ins_Writes (List.getD h (Int.toNat h2) (dflt T_api_Ins))).2
                    (.br (Nat.ble (((List.length (out ++ [(t, (h2, ((0 : Int), ((v_ins_Reads (List.getD h (Int.toNat h2) (dflt T_api_Ins))).1.2.2.1, (false, (v_ins_Locked (List.getD h (Int.toNat h2) (dflt T_api_Ins))))))))])) + 1) * 40) limit)
                      (.jmp (.l13 h h1 (IntKind.i64.wrap (h2 + (1 : Int))) ((out ++ [(t, (h2, ((0 : Int), ((v_ins_Reads (List.getD h (Int.toNat h2) (dflt T_api_Ins))).1.2.2.1, (false, (v_ins_Locked (List.getD h (Int.toNat h2) (dflt T_api_Ins))))))))]) ++ [(t, (h2, ((1 : Int), ((v_ins_Writes (List.getD h (Int.toNat h2) (dflt T_api_Ins))).1.2.2.1, (true, (v_ins_Locked (List.getD h (Int.toNat h2) (dflt T_api_Ins))))))))]) t h3))
                    (.no))
                  (.jmp (.l13 h h1 (IntKind.i64.wrap (h2 + (1 : Int))) (out ++ [(t, (h2, ((0 : Int), ((v_ins_Reads (List.getD h (Int.toNat h2) (dflt T_api_Ins))).1.2.2.1, (false, (v_ins_Locked (List.getD h (Int.toNat h2) (dflt T_api_Ins))))))))]) t h3)))
                (.no))
              (.no))
            (.br (k_ins_Writes (List.getD h (Int.toNat h2) (dflt T_api_Ins)))
              (.br (v_ins_Writes (List.getD h (Int.toNat h2) (dflt T_api_Ins))).2
                (.br (Nat.ble (((List.length out) + 1) * 40) limit)
                  (.jmp (.l13 h h1 (IntKind.i64.wrap (h2 + (1 : Int))) (out ++ [(t, (h2, ((0 : Int), ((v_ins_Writes (List.getD h (Int.toNat h2) (dflt T_api_Ins))).1.2.2.1, (true, (v_ins_Locked (List.getD h (Int.toNat h2) (dflt T_api_Ins))))))))]) t h3))
                (.no))
              (.jmp (.l13 h h1 (IntKind.i64.wrap (h2 + (1 : Int))) out t h3)))
            (.no)))
          (.no))
        (.no))
      (.no))
    (.jmp (.l7 (IntKind.i64.wrap (h3 + (1 : Int))) out))
def T0_touch_Of (p : El T_api_Prog) : JT J_touch_Of (List (El T_api_Access)) :=
  .br (k_valid_Check p)
    (.br ((v_valid_Check p) != (0 : Int))
      (.leaf [])
    (.jmp (.l7 (0 : Int) [])))
  (.no)
def R_touch_Of : List (El T_api_Access) → AV := fun (r : List (El T_api_Access)) => .rw 49 T_api_Access r
def S_touch_Of (p : El T_api_Prog) : J_touch_Of → Nat × St
  | .l7 h out => (7, ⟨mkTm 68 [(3, .own 4 0 none), (17, .d (.sl (.sl T_api_Ins)) p.2), (18, .d (.int .i64) (Int.ofNat (List.length p.2))), (19, .d (.int .i64) h)], [(4, 0, .row 49 T_api_Access out false)]⟩)
  | .l13 h h1 h2 out t h3 => (13, ⟨mkTm 68 [(3, .own 4 0 none), (4, .d (.int .i64) t), (17, .d (.sl (.sl T_api_Ins)) p.2), (18, .d (.int .i64) (Int.ofNat (List.length p.2))), (19, .d (.int .i64) h3), (25, .d (.sl T_api_Ins) h), (26, .d (.int .i64) h1), (27, .d (.int .i64) h2)], [(4, 0, .row 49 T_api_Access out false)]⟩)
theorem en_touch_Of (p : El T_api_Prog) (L : Lt) : entryA Go.Proofs.Tryd.prog (clOf t_touch_Of) tb_touch_Of Go.Proofs.Tryd.f14 c_touch_Of L (toForms sg_touch_Of (p, ())) = (T0_touch_Of p).run (fun v => some (R_touch_Of v, tps (toForms sg_touch_Of (p, ())))) fun j => L (S_touch_Of p j).1 (S_touch_Of p j).2 := by kernel_rfl
theorem lp_touch_Of (p : El T_api_Prog) : ∀ (L : Lt) (j : J_touch_Of), procOf (procsF Go.Proofs.Tryd.prog (clOf t_touch_Of) tb_touch_Of Go.Proofs.Tryd.f14 c_touch_Of (toForms sg_touch_Of (p, ()))) (S_touch_Of p j).1 L (S_touch_Of p j).2 = (T_touch_Of p j).run (fun v => some (R_touch_Of v, tps (toForms sg_touch_Of (p, ())))) fun j => L (S_touch_Of p j).1 (S_touch_Of p j).2
  | L, .l7 h out => by kernel_rfl
  | L, .l13 h h1 h2 out t h3 => by kernel_rfl
end Go.Ev
end

section
set_option linter.unusedSectionVars false
set_option linter.unusedVariables false
set_option linter.unusedSimpArgs false
set_option linter.unusedVariables false
set_option linter.unusedSimpArgs false
open Go
namespace Go.Ev
def v_touch_Of (p : El T_api_Prog) : List (El T_api_Access) := ofC p
def k_touch_Of (p : El T_api_Prog) : Bool := smallAll p
theorem g_touch_Of (p : El T_api_Prog) (hk : k_touch_Of p = true) : Goes (T_touch_Of p) (T0_touch_Of p) (v_touch_Of p) := by
  have hA := smallA hk
  obtain ⟨sy, th⟩ := p
  have hkc : k_valid_Check (sy, th) = true := hA.prog
  have hlen : th.length < 1073741824 := hA.len
  have htot : total th < 1073741824 := hA.tot
  have main : ∀ k, k ≤ th.length → ∀ out : List (El T_api_Access), out.length + 2 * total (th.drop k) < 4294967296 → Goes (T_touch_Of (sy, th)) (.jmp (.l7 (k : Int) out)) (out ++ accP k (th.drop k)) := by
    refine down ?_ fun k hk ih => ?_
    · intro out ho
      rw [goes_jmp]
      simp only [T_touch_Of, goes_br, lt_len_not (Nat.lt_irrefl _), goes_leaf, List.drop_length]
      simp [accP]
    · intro out ho
      rw [total_drop hk] at ho
      have hS := smallT (hA.thr _ (List.getElem_mem hk))
      rw [goes_jmp]
      simp only [T_touch_Of, goes_br, lt_len hk, nng, Bool.and_self, if_true, Int.toNat_natCast, getD_lt hk]
      rw [drop_cons hk]
      unfold accP
      generalize th[k] = x at ho hS
      have inner : ∀ j, j ≤ List.length x → ∀ out : List (El T_api_Access), out.length + 2 * (List.length x - j) + 2 * total (th.drop (k + 1)) < 4294967296 → Goes (T_touch_Of (sy, th)) (.jmp (.l13 x (Int.ofNat (List.length x)) (j : Int) out (k : Int) (k : Int))) (out ++ (accT k j (List.drop j x) ++ accP (k + 1) (th.drop (k + 1)))) := by
        refine down ?_ fun j hj ihj => ?_
        · intro out ho
          rw [goes_jmp]
          simp only [T_touch_Of, goes_br, lt_len_not (Nat.lt_irrefl _), wrap_succ (k := k) (by omega), List.drop_length]
          have := ih out (by omega)
          simpa [accT] using this
        · intro out ho
          have hto := hS.to _ (List.getElem_mem hj)
          obtain ⟨a1, a2, a3, a4⟩ := k_reads hto
          have hx : List.length x < 1099511627776 := hS.len
          rw [goes_jmp]
          have b1 : Nat.ble ((out.length + 1) * 40) limit = true := ble40 (by omega)
          have b2 : ∀ y : El T_api_Access, Nat.ble (((out ++ [y]).length + 1) * 40) limit = true := fun y => ble40 (by rw [List.length_append]; simp; omega)
          simp only [T_touch_Of, goes_br, lt_len hj, nng, Bool.and_self, if_true, Int.toNat_natCast, getD_lt hj, wrap_succ (k := j) (by omega), a1, a2, a4, b1, b2]
          rw [drop_cons hj]
          unfold accT accI
          have hs : ∀ y : List (El T_api_Access), y.length ≤ 2 → Goes (T_touch_Of (sy, th)) (.jmp (.l13 x (Int.ofNat (List.length x)) ((j + 1 : Nat) : Int) (out ++ y) (k : Int) (k : Int))) (out ++ ((y ++ accT k (j + 1) (List.drop (j + 1) x)) ++ accP (k + 1) (th.drop (k + 1)))) := fun y hy => by
            have := ihj (out ++ y) (by rw [List.length_append]; omega)
            rw [List.append_assoc] at this
            rw [List.append_assoc]
            exact this
          by_cases hr : (v_ins_Reads x[j]).2 = true <;> by_cases hw : (v_ins_Writes x[j]).2 = true
          · simp only [hr, hw, if_true]
            rw [List.append_assoc out]
            exact hs _ (by simp)
          · simp only [hr, hw, if_true, if_false]
            exact hs _ (by simp)
          · simp only [hr, hw, if_true, if_false]
            exact hs _ (by simp)
          · simp only [hr, hw, if_false]
            have := hs [] (by simp)
            rw [List.append_nil] at this
            exact this
      exact inner 0 (Nat.zero_le _) out (by omega)
  unfold T0_touch_Of v_touch_Of ofC
  simp only [goes_br, hkc, if_true, v_valid_Check]
  by_cases h : checkC (sy, th) = 0
  · rw [if_neg (by simp [h]), if_pos h]
    have := main 0 (Nat.zero_le _) [] (by simp; omega)
    simpa using this
  · rw [if_pos (by simp [h]), if_neg h]
    exact .leaf
end Go.Ev
end

section
set_option linter.unusedSectionVars false
set_option linter.unusedVariables false
set_option linter.unusedSimpArgs false
set_option maxRecDepth 100000
set_option linter.unusedVariables false
open Go Go.Ev
namespace Go.Ev
noncomputable def e_touch_Of : Run := entG sg_touch_Of R_touch_Of (fun a => k_touch_Of a.1) (fun a => v_touch_Of a.1)
theorem ok_touch_Of : EntOK Go.Proofs.Tryd.prog 14 e_touch_Of := entG_ok (tb := tb_touch_Of) (c := c_touch_Of) tk_touch_Of (by kernel_rfl) (by kernel_rfl) (by kernel_rfl) (fun a => by kernel_rfl) fun ⟨p, _⟩ hk => evF_goes (c := c_touch_Of) (K := fun v => (R_touch_Of v, tps (toForms sg_touch_Of (p, ())))) (S := S_touch_Of p) (by kernel_rfl) (en_touch_Of p) (lp_touch_Of p) (g_touch_Of p hk)
end Go.Ev
end

section
set_option linter.unusedSectionVars false
set_option linter.unusedVariables false
set_option linter.unusedSimpArgs false
set_option maxRecDepth 100000
set_option linter.unusedVariables false
open Go Go.Ev
namespace Go.Ev
/-! ### paling/touch.some -/
def sg_touch_some : Sig := [(true, T_api_Prog), (false, (.int .i64)), (false, .bool)]
noncomputable def t_touch_some : Tbl := [(14, e_touch_Of)]
theorem tk_touch_some : ∀ p ∈ t_touch_some, EntOK Go.Proofs.Tryd.prog p.1 p.2 := tbl_cons ok_touch_Of (tbl_nil)
noncomputable def c_touch_some : Code := Go.Proofs.Tryd.f41.body.getD .skip
def tb_touch_some : Tb := [(4, ⟨[1, 2, 7, 11, 12, 13], [(8, 64)]⟩)]
inductive J_touch_some where
  | l4 (h : Int) (out : List Int)
def T_touch_some (p : El T_api_Prog) (t : Int) (write : Bool) : J_touch_some → JT J_touch_some (List Int)
  | .l4 h out =>
    .br (decide (h < (Int.ofNat (List.length (v_touch_Of p)))))
      (.br ((decide ((0 : Int) ≤ h)) && (decide (h < (Int.ofNat (List.length (v_touch_Of p))))))
        (.br ((List.getD (v_touch_Of p) (Int.toNat h) (dflt T_api_Access)).1 == t)
          (.br ((List.getD (v_touch_Of p) (Int.toNat h) (dflt T_api_Access)).2.2.2.2.1 == write)
            (.br (! (List.getD (v_touch_Of p) (Int.toNat h) (dflt T_api_Access)).2.2.2.2.2)
              (.br (Nat.ble (((List.length out) + 1) * 8) limit)
                (.jmp (.l4 (IntKind.i64.wrap (h + (1 : Int))) (out ++ [(List.getD (v_touch_Of p) (Int.toNat h) (dflt T_api_Access)).2.1])))
              (.no))
            (.jmp (.l4 (IntKind.i64.wrap (h + (1 : Int))) out)))
          (.jmp (.l4 (IntKind.i64.wrap (h + (1 : Int))) out)))
        (.jmp (.l4 (IntKind.i64.wrap (h + (1 : Int))) out)))
      (.no))
    (.leaf out)
def T0_touch_some (p : El T_api_Prog) (t : Int) (write : Bool) : JT J_touch_some (List Int) :=
  .br (k_touch_Of p)
    (.jmp (.l4 (0 : Int) []))
  (.no)
def R_touch_some : List Int → AV := fun (r : List Int) => .rw 3 (.int .i64) r
def S_touch_some (p : El T_api_Prog) (t : Int) (write : Bool) : J_touch_some → Nat × St
  | .l4 h out => (4, ⟨mkTm 39 [(1, .d (.int .i64) t), (2, .d .bool write), (7, .own 8 0 none), (11, .own 12 0 none), (12, .d (.int .i64) (Int.ofNat (List.length (v_touch_Of p)))), (13, .d (.int .i64) h)], [(8, 0, .row 3 (.int .i64) out false), (12, 0, .row 49 T_api_Access (v_touch_Of p) false)]⟩)
theorem en_touch_some (p : El T_api_Prog) (t : Int) (write : Bool) (L : Lt) : entryA Go.Proofs.Tryd.prog (clOf t_touch_some) tb_touch_some Go.Proofs.Tryd.f41 c_touch_some L (toForms sg_touch_some (p, t, write, ())) = (T0_touch_some p t write).run (fun v => some (R_touch_some v, tps (toForms sg_touch_some (p, t, write, ())))) fun j => L (S_touch_some p t write j).1 (S_touch_some p t write j).2 := by kernel_rfl
theorem lp_touch_some (p : El T_api_Prog) (t : Int) (write : Bool) : ∀ (L : Lt) (j : J_touch_some), procOf (procsF Go.Proofs.Tryd.prog (clOf t_touch_some) tb_touch_some Go.Proofs.Tryd.f41 c_touch_some (toForms sg_touch_some (p, t, write, ()))) (S_touch_some p t write j).1 L (S_touch_some p t write j).2 = (T_touch_some p t write j).run (fun v => some (R_touch_some v, tps (toForms sg_touch_some (p, t, write, ())))) fun j => L (S_touch_some p t write j).1 (S_touch_some p t write j).2
  | L, .l4 h out => by kernel_rfl
end Go.Ev
end

section
set_option linter.unusedSectionVars false
set_option linter.unusedVariables false
set_option linter.unusedSimpArgs false
set_option linter.unusedVariables false
set_option linter.unusedSimpArgs false
open Go
namespace Go.Ev
def v_touch_some (p : El T_api_Prog) (t : Int) (write : Bool) : List Int := sideC p t write
def k_touch_some (p : El T_api_Prog) (t : Int) (write : Bool) : Bool := smallAll p
theorem g_touch_some (p : El T_api_Prog) (t : Int) (write : Bool) (hk : k_touch_some p t write = true) : Goes (T_touch_some p t write) (T0_touch_some p t write) (v_touch_some p t write) := by
  have hl : (v_touch_Of p).length < 2147483648 := ofC_len hk
  have hko : k_touch_Of p = true := hk
  have loop : ∀ k, k ≤ (v_touch_Of p).length → ∀ out : List Int, out.length ≤ k → Goes (T_touch_some p t write) (.jmp (.l4 (k : Int) out)) (out ++ (((v_touch_Of p).drop k).filter fun a => (show Int from a.1) == t && ((show Bool from a.2.2.2.2.1) == write && ! (show Bool from a.2.2.2.2.2))).map fun a => a.2.1) := by
    refine down ?_ fun k hk ih => ?_
    · intro out ho
      rw [goes_jmp]
      simp only [T_touch_some, goes_br, lt_len_not (Nat.lt_irrefl _), goes_leaf, List.drop_length]
      simp
    · intro out ho
      rw [goes_jmp]
      have b1 : Nat.ble ((out.length + 1) * 8) limit = true := ble8 (by omega)
      simp only [T_touch_some, goes_br, lt_len hk, nng, Bool.and_self, if_true, Int.toNat_natCast, getD_lt hk, wrap_succ (k := k) (by omega), b1]
      rw [drop_cons hk, List.filter_cons]
      generalize (v_touch_Of p)[k] = a
      obtain ⟨ath, ains, apart_, asym, awr, alk⟩ := a
      dsimp only
      have h0 := ih out (by omega)
      have h1 := ih (out ++ [ains]) (by rw [List.length_append]; simp; omega)
      rw [List.append_assoc] at h1
      cases e1 : ((show Int from ath) == t) <;> cases e2 : ((show Bool from awr) == write) <;> cases alk <;> simp_all
  unfold T0_touch_some v_touch_some sideC
  simp only [goes_br, hko, if_true]
  have := loop 0 (Nat.zero_le _) [] (Nat.le_refl _)
  rw [List.drop_zero, List.nil_append] at this
  exact this
end Go.Ev
end

section
set_option linter.unusedSectionVars false
set_option linter.unusedVariables false
set_option linter.unusedSimpArgs false
set_option maxRecDepth 100000
set_option linter.unusedVariables false
open Go Go.Ev
namespace Go.Ev
noncomputable def e_touch_some : Run := entG sg_touch_some R_touch_some (fun a => k_touch_some a.1 a.2.1 a.2.2.1) (fun a => v_touch_some a.1 a.2.1 a.2.2.1)
theorem ok_touch_some : EntOK Go.Proofs.Tryd.prog 41 e_touch_some := entG_ok (tb := tb_touch_some) (c := c_touch_some) tk_touch_some (by kernel_rfl) (by kernel_rfl) (by kernel_rfl) (fun a => by kernel_rfl) fun ⟨p, t, write, _⟩ hk => evF_goes (c := c_touch_some) (K := fun v => (R_touch_some v, tps (toForms sg_touch_some (p, t, write, ())))) (S := S_touch_some p t write) (by kernel_rfl) (en_touch_some p t write) (lp_touch_some p t write) (g_touch_some p t write hk)
end Go.Ev
end

section
set_option linter.unusedSectionVars false
set_option linter.unusedVariables false
set_option linter.unusedSimpArgs false
set_option maxRecDepth 100000
set_option linter.unusedVariables false
open Go Go.Ev
namespace Go.Ev
/-! ### paling/touch.Stores -/
def sg_touch_Stores : Sig := [(true, T_api_Prog), (false, (.int .i64))]
noncomputable def t_touch_Stores : Tbl := [(41, e_touch_some)]
theorem tk_touch_Stores : ∀ p ∈ t_touch_Stores, EntOK Go.Proofs.Tryd.prog p.1 p.2 := tbl_cons ok_touch_some (tbl_nil)
noncomputable def c_touch_Stores : Code := Go.Proofs.Tryd.f17.body.getD .skip
def tb_touch_Stores : Tb := []
def T_touch_Stores (p : El T_api_Prog) (t : Int) : Empty → JT Empty (List Int) := fun j => nomatch j
def T0_touch_Stores (p : El T_api_Prog) (t : Int) : JT Empty (List Int) :=
  .br (k_touch_some p t true)
    (.leaf (v_touch_some p t true))
  (.no)
def v_touch_Stores (p : El T_api_Prog) (t : Int) : List Int :=
  bif (k_touch_some p t true) then
    (v_touch_some p t true)
  else []
def k_touch_Stores (p : El T_api_Prog) (t : Int) : Bool :=
  bif (k_touch_some p t true) then
    true
  else false
theorem g_touch_Stores (p : El T_api_Prog) (t : Int) (hk : k_touch_Stores p t = true) : Goes (T_touch_Stores p t) (T0_touch_Stores p t) (v_touch_Stores p t) :=
  Goes.brk hk (fun hk =>
    Goes.leaf) (fun hk =>
    Goes.nok hk)
def R_touch_Stores : List Int → AV := fun (r : List Int) => .rw 3 (.int .i64) r
def S_touch_Stores (p : El T_api_Prog) (t : Int) : Empty → Nat × St := fun j => nomatch j
theorem en_touch_Stores (p : El T_api_Prog) (t : Int) (L : Lt) : entryA Go.Proofs.Tryd.prog (clOf t_touch_Stores) tb_touch_Stores Go.Proofs.Tryd.f17 c_touch_Stores L (toForms sg_touch_Stores (p, t, ())) = (T0_touch_Stores p t).run (fun v => some (R_touch_Stores v, tps (toForms sg_touch_Stores (p, t, ())))) fun j => L (S_touch_Stores p t j).1 (S_touch_Stores p t j).2 := by kernel_rfl
theorem lp_touch_Stores (p : El T_api_Prog) (t : Int) : ∀ (L : Lt) (j : Empty), procOf (procsF Go.Proofs.Tryd.prog (clOf t_touch_Stores) tb_touch_Stores Go.Proofs.Tryd.f17 c_touch_Stores (toForms sg_touch_Stores (p, t, ()))) (S_touch_Stores p t j).1 L (S_touch_Stores p t j).2 = (T_touch_Stores p t j).run (fun v => some (R_touch_Stores v, tps (toForms sg_touch_Stores (p, t, ())))) fun j => L (S_touch_Stores p t j).1 (S_touch_Stores p t j).2 := fun L j => nomatch j
noncomputable def e_touch_Stores : Run := entG sg_touch_Stores R_touch_Stores (fun a => k_touch_Stores a.1 a.2.1) (fun a => v_touch_Stores a.1 a.2.1)
theorem ok_touch_Stores : EntOK Go.Proofs.Tryd.prog 17 e_touch_Stores := entG_ok (tb := tb_touch_Stores) (c := c_touch_Stores) tk_touch_Stores (by kernel_rfl) (by kernel_rfl) (by kernel_rfl) (fun a => by kernel_rfl) fun ⟨p, t, _⟩ hk => evF_goes (c := c_touch_Stores) (K := fun v => (R_touch_Stores v, tps (toForms sg_touch_Stores (p, t, ())))) (S := S_touch_Stores p t) (by kernel_rfl) (en_touch_Stores p t) (lp_touch_Stores p t) (g_touch_Stores p t hk)
end Go.Ev
end

section
set_option linter.unusedSectionVars false
set_option linter.unusedVariables false
set_option linter.unusedSimpArgs false
set_option maxRecDepth 100000
set_option linter.unusedVariables false
open Go Go.Ev
namespace Go.Ev
/-! ### paling/touch.Loads -/
def sg_touch_Loads : Sig := [(true, T_api_Prog), (false, (.int .i64))]
noncomputable def t_touch_Loads : Tbl := [(41, e_touch_some)]
theorem tk_touch_Loads : ∀ p ∈ t_touch_Loads, EntOK Go.Proofs.Tryd.prog p.1 p.2 := tbl_cons ok_touch_some (tbl_nil)
noncomputable def c_touch_Loads : Code := Go.Proofs.Tryd.f19.body.getD .skip
def tb_touch_Loads : Tb := []
def T_touch_Loads (p : El T_api_Prog) (t : Int) : Empty → JT Empty (List Int) := fun j => nomatch j
def T0_touch_Loads (p : El T_api_Prog) (t : Int) : JT Empty (List Int) :=
  .br (k_touch_some p t false)
    (.leaf (v_touch_some p t false))
  (.no)
def v_touch_Loads (p : El T_api_Prog) (t : Int) : List Int :=
  bif (k_touch_some p t false) then
    (v_touch_some p t false)
  else []
def k_touch_Loads (p : El T_api_Prog) (t : Int) : Bool :=
  bif (k_touch_some p t false) then
    true
  else false
theorem g_touch_Loads (p : El T_api_Prog) (t : Int) (hk : k_touch_Loads p t = true) : Goes (T_touch_Loads p t) (T0_touch_Loads p t) (v_touch_Loads p t) :=
  Goes.brk hk (fun hk =>
    Goes.leaf) (fun hk =>
    Goes.nok hk)
def R_touch_Loads : List Int → AV := fun (r : List Int) => .rw 3 (.int .i64) r
def S_touch_Loads (p : El T_api_Prog) (t : Int) : Empty → Nat × St := fun j => nomatch j
theorem en_touch_Loads (p : El T_api_Prog) (t : Int) (L : Lt) : entryA Go.Proofs.Tryd.prog (clOf t_touch_Loads) tb_touch_Loads Go.Proofs.Tryd.f19 c_touch_Loads L (toForms sg_touch_Loads (p, t, ())) = (T0_touch_Loads p t).run (fun v => some (R_touch_Loads v, tps (toForms sg_touch_Loads (p, t, ())))) fun j => L (S_touch_Loads p t j).1 (S_touch_Loads p t j).2 := by kernel_rfl
theorem lp_touch_Loads (p : El T_api_Prog) (t : Int) : ∀ (L : Lt) (j : Empty), procOf (procsF Go.Proofs.Tryd.prog (clOf t_touch_Loads) tb_touch_Loads Go.Proofs.Tryd.f19 c_touch_Loads (toForms sg_touch_Loads (p, t, ()))) (S_touch_Loads p t j).1 L (S_touch_Loads p t j).2 = (T_touch_Loads p t j).run (fun v => some (R_touch_Loads v, tps (toForms sg_touch_Loads (p, t, ())))) fun j => L (S_touch_Loads p t j).1 (S_touch_Loads p t j).2 := fun L j => nomatch j
noncomputable def e_touch_Loads : Run := entG sg_touch_Loads R_touch_Loads (fun a => k_touch_Loads a.1 a.2.1) (fun a => v_touch_Loads a.1 a.2.1)
theorem ok_touch_Loads : EntOK Go.Proofs.Tryd.prog 19 e_touch_Loads := entG_ok (tb := tb_touch_Loads) (c := c_touch_Loads) tk_touch_Loads (by kernel_rfl) (by kernel_rfl) (by kernel_rfl) (fun a => by kernel_rfl) fun ⟨p, t, _⟩ hk => evF_goes (c := c_touch_Loads) (K := fun v => (R_touch_Loads v, tps (toForms sg_touch_Loads (p, t, ())))) (S := S_touch_Loads p t) (by kernel_rfl) (en_touch_Loads p t) (lp_touch_Loads p t) (g_touch_Loads p t hk)
end Go.Ev
end

section
set_option linter.unusedSectionVars false
set_option linter.unusedVariables false
set_option linter.unusedSimpArgs false
set_option maxRecDepth 100000
set_option linter.unusedVariables false
open Go Go.Ev
namespace Go.Ev
/-! ### paling/palingref1.Count -/
def sg_ref1_Count : Sig := [(true, (.sl T_api_Ins))]
noncomputable def t_ref1_Count : Tbl := []
theorem tk_ref1_Count : ∀ p ∈ t_ref1_Count, EntOK Go.Proofs.Tryd.prog p.1 p.2 := tbl_nil
noncomputable def c_ref1_Count : Code := Go.Proofs.Tryd.f85.body.getD .skip
def tb_ref1_Count : Tb := [(4, ⟨[1, 3, 4], []⟩)]
inductive J_ref1_Count where
  | l4 (n : Int) (i : Int)
def T_ref1_Count (t : List (El T_api_Ins)) : J_ref1_Count → JT J_ref1_Count (Int)
  | .l4 n i =>
    .br (decide (i < (Int.ofNat (List.length t))))
      (.br ((decide ((0 : Int) ≤ i)) && (decide (i < (Int.ofNat (List.length t)))))
        (.br ((List.getD t (Int.toNat i) (dflt T_api_Ins)).1 != (12 : Int))
          (.jmp (.l4 (IntKind.i64.wrap (n + (1 : Int))) (IntKind.i64.wrap (i + (1 : Int)))))
        (.jmp (.l4 n (IntKind.i64.wrap (i + (1 : Int))))))
      (.no))
    (.leaf n)
def T0_ref1_Count (t : List (El T_api_Ins)) : JT J_ref1_Count (Int) :=
  .jmp (.l4 (0 : Int) (0 : Int))
def R_ref1_Count : Int → AV := fun (r : Int) => .d (.int .i64) r
def S_ref1_Count (t : List (El T_api_Ins)) : J_ref1_Count → Nat × St
  | .l4 n i => (4, ⟨mkTm 22 [(1, .pt 2 0 0), (3, .d (.int .i64) n), (4, .d (.int .i64) i)], [(2, 0, .box 40 [.d (.sl T_api_Ins) t] none)]⟩)
theorem en_ref1_Count (t : List (El T_api_Ins)) (L : Lt) : entryA Go.Proofs.Tryd.prog (clOf t_ref1_Count) tb_ref1_Count Go.Proofs.Tryd.f85 c_ref1_Count L (toForms sg_ref1_Count (t, ())) = (T0_ref1_Count t).run (fun v => some (R_ref1_Count v, tps (toForms sg_ref1_Count (t, ())))) fun j => L (S_ref1_Count t j).1 (S_ref1_Count t j).2 := by kernel_rfl
theorem lp_ref1_Count (t : List (El T_api_Ins)) : ∀ (L : Lt) (j : J_ref1_Count), procOf (procsF Go.Proofs.Tryd.prog (clOf t_ref1_Count) tb_ref1_Count Go.Proofs.Tryd.f85 c_ref1_Count (toForms sg_ref1_Count (t, ()))) (S_ref1_Count t j).1 L (S_ref1_Count t j).2 = (T_ref1_Count t j).run (fun v => some (R_ref1_Count v, tps (toForms sg_ref1_Count (t, ())))) fun j => L (S_ref1_Count t j).1 (S_ref1_Count t j).2
  | L, .l4 n i => by kernel_rfl
end Go.Ev
end

section
set_option linter.unusedSectionVars false
set_option linter.unusedVariables false
set_option linter.unusedSimpArgs false
set_option linter.unusedVariables false
set_option linter.unusedSimpArgs false
open Go
namespace Go.Ev
def v_ref1_Count (t : List (El T_api_Ins)) : Int := (countM t : Int)
def k_ref1_Count (t : List (El T_api_Ins)) : Bool := decide (t.length < 1099511627776)
theorem g_ref1_Count (t : List (El T_api_Ins)) (hk : k_ref1_Count t = true) : Goes (T_ref1_Count t) (T0_ref1_Count t) (v_ref1_Count t) := by
  have hn : t.length < 1099511627776 := of_decide_eq_true hk
  have loop : ∀ k, k ≤ t.length → ∀ n : Nat, n ≤ k → Goes (T_ref1_Count t) (.jmp (.l4 (n : Int) (k : Int))) ((n + countM (t.drop k) : Nat) : Int) := by
    refine down ?_ fun k hk ih => ?_
    · intro n hnk
      rw [goes_jmp]
      simp only [T_ref1_Count, goes_br, lt_len_not (Nat.lt_irrefl _), goes_leaf, List.drop_length]
      simp [countM]
    · intro n hnk
      rw [goes_jmp]
      simp only [T_ref1_Count, goes_br, lt_len hk, nng, Bool.and_self, if_true, Int.toNat_natCast, getD_lt hk, wrap_succ (k := k) (by omega), wrap_succ (k := n) (by omega)]
      rw [drop_cons hk]
      unfold countM
      rw [List.filter_cons]
      split
      · rename_i h
        have := ih (n + 1) (by omega)
        unfold countM at this
        rw [List.length_cons, show n + ((List.filter (fun i => i.1 != (12 : Int)) (List.drop (k + 1) t)).length + 1) = n + 1 + (List.filter (fun i => i.1 != (12 : Int)) (List.drop (k + 1) t)).length by omega]
        exact this
      · exact ih n (by omega)
  have := loop 0 (Nat.zero_le _) 0 (Nat.le_refl _)
  unfold T0_ref1_Count v_ref1_Count
  simpa using this
end Go.Ev
end

section
set_option linter.unusedSectionVars false
set_option linter.unusedVariables false
set_option linter.unusedSimpArgs false
set_option maxRecDepth 100000
set_option linter.unusedVariables false
open Go Go.Ev
namespace Go.Ev
noncomputable def e_ref1_Count : Run := entG sg_ref1_Count R_ref1_Count (fun a => k_ref1_Count a.1) (fun a => v_ref1_Count a.1)
theorem ok_ref1_Count : EntOK Go.Proofs.Tryd.prog 85 e_ref1_Count := entG_ok (tb := tb_ref1_Count) (c := c_ref1_Count) tk_ref1_Count (by kernel_rfl) (by kernel_rfl) (by kernel_rfl) (fun a => by kernel_rfl) fun ⟨t, _⟩ hk => evF_goes (c := c_ref1_Count) (K := fun v => (R_ref1_Count v, tps (toForms sg_ref1_Count (t, ())))) (S := S_ref1_Count t) (by kernel_rfl) (en_ref1_Count t) (lp_ref1_Count t) (g_ref1_Count t hk)
end Go.Ev
end

section
set_option linter.unusedSectionVars false
set_option linter.unusedVariables false
set_option linter.unusedSimpArgs false
set_option maxRecDepth 100000
set_option linter.unusedVariables false
open Go Go.Ev
namespace Go.Ev
/-! ### paling/palingref1.operand -/
def sg_ref1_operand : Sig := [(true, T_api_Prog), (true, T_api_Opd)]
noncomputable def t_ref1_operand : Tbl := [(46, e_ref1_Memory)]
theorem tk_ref1_operand : ∀ p ∈ t_ref1_operand, EntOK Go.Proofs.Tryd.prog p.1 p.2 := tbl_cons ok_ref1_Memory (tbl_nil)
noncomputable def c_ref1_operand : Code := Go.Proofs.Tryd.f87.body.getD .skip
def tb_ref1_operand : Tb := []
def T_ref1_operand (p : El T_api_Prog) (o : El T_api_Opd) : Empty → JT Empty (Int) := fun j => nomatch j
def T0_ref1_operand (p : El T_api_Prog) (o : El T_api_Opd) : JT Empty (Int) :=
  .br (! (v_ref1_Memory o))
    (.leaf (0 : Int))
  (.br (decide (o.2.2.1 ≥ (Int.ofNat (List.length p.1))))
    (.leaf (7 : Int))
  (.br (o.1 == (3 : Int))
    (.br ((decide ((0 : Int) ≤ o.2.2.1)) && (decide (o.2.2.1 < (Int.ofNat (List.length p.1)))))
      (.br (decide (o.2.2.2 ≥ (List.getD p.1 (Int.toNat o.2.2.1) (dflt T_api_Sym)).2.1))
        (.leaf (8 : Int))
      (.leaf (0 : Int)))
    (.no))
  (.leaf (0 : Int))))
def v_ref1_operand (p : El T_api_Prog) (o : El T_api_Opd) : Int :=
  bif (! (v_ref1_Memory o)) then
    (0 : Int)
  else bif (decide (o.2.2.1 ≥ (Int.ofNat (List.length p.1)))) then
    (7 : Int)
  else bif (o.1 == (3 : Int)) then
    bif ((decide ((0 : Int) ≤ o.2.2.1)) && (decide (o.2.2.1 < (Int.ofNat (List.length p.1))))) then
      bif (decide (o.2.2.2 ≥ (List.getD p.1 (Int.toNat o.2.2.1) (dflt T_api_Sym)).2.1)) then
        (8 : Int)
      else (0 : Int)
    else (0 : Int)
  else (0 : Int)
def k_ref1_operand (p : El T_api_Prog) (o : El T_api_Opd) : Bool :=
  bif (! (v_ref1_Memory o)) then
    true
  else bif (decide (o.2.2.1 ≥ (Int.ofNat (List.length p.1)))) then
    true
  else bif (o.1 == (3 : Int)) then
    bif ((decide ((0 : Int) ≤ o.2.2.1)) && (decide (o.2.2.1 < (Int.ofNat (List.length p.1))))) then
      bif (decide (o.2.2.2 ≥ (List.getD p.1 (Int.toNat o.2.2.1) (dflt T_api_Sym)).2.1)) then
        true
      else true
    else false
  else true
theorem g_ref1_operand (p : El T_api_Prog) (o : El T_api_Opd) (hk : k_ref1_operand p o = true) : Goes (T_ref1_operand p o) (T0_ref1_operand p o) (v_ref1_operand p o) :=
  Goes.brk hk (fun hk =>
    Goes.leaf) (fun hk =>
    Goes.brk hk (fun hk =>
      Goes.leaf) (fun hk =>
      Goes.brk hk (fun hk =>
        Goes.brk hk (fun hk =>
          Goes.brk hk (fun hk =>
            Goes.leaf) (fun hk =>
            Goes.leaf)) (fun hk =>
          Goes.nok hk)) (fun hk =>
        Goes.leaf)))
def R_ref1_operand : Int → AV := fun (r : Int) => .d (.int .i64) r
def S_ref1_operand (p : El T_api_Prog) (o : El T_api_Opd) : Empty → Nat × St := fun j => nomatch j
theorem en_ref1_operand (p : El T_api_Prog) (o : El T_api_Opd) (L : Lt) : entryA Go.Proofs.Tryd.prog (clOf t_ref1_operand) tb_ref1_operand Go.Proofs.Tryd.f87 c_ref1_operand L (toForms sg_ref1_operand (p, o, ())) = (T0_ref1_operand p o).run (fun v => some (R_ref1_operand v, tps (toForms sg_ref1_operand (p, o, ())))) fun j => L (S_ref1_operand p o j).1 (S_ref1_operand p o j).2 := by kernel_rfl
theorem lp_ref1_operand (p : El T_api_Prog) (o : El T_api_Opd) : ∀ (L : Lt) (j : Empty), procOf (procsF Go.Proofs.Tryd.prog (clOf t_ref1_operand) tb_ref1_operand Go.Proofs.Tryd.f87 c_ref1_operand (toForms sg_ref1_operand (p, o, ()))) (S_ref1_operand p o j).1 L (S_ref1_operand p o j).2 = (T_ref1_operand p o j).run (fun v => some (R_ref1_operand v, tps (toForms sg_ref1_operand (p, o, ())))) fun j => L (S_ref1_operand p o j).1 (S_ref1_operand p o j).2 := fun L j => nomatch j
noncomputable def e_ref1_operand : Run := entG sg_ref1_operand R_ref1_operand (fun a => k_ref1_operand a.1 a.2.1) (fun a => v_ref1_operand a.1 a.2.1)
theorem ok_ref1_operand : EntOK Go.Proofs.Tryd.prog 87 e_ref1_operand := entG_ok (tb := tb_ref1_operand) (c := c_ref1_operand) tk_ref1_operand (by kernel_rfl) (by kernel_rfl) (by kernel_rfl) (fun a => by kernel_rfl) fun ⟨p, o, _⟩ hk => evF_goes (c := c_ref1_operand) (K := fun v => (R_ref1_operand v, tps (toForms sg_ref1_operand (p, o, ())))) (S := S_ref1_operand p o) (by kernel_rfl) (en_ref1_operand p o) (lp_ref1_operand p o) (g_ref1_operand p o hk)
end Go.Ev
end

section
set_option linter.unusedSectionVars false
set_option linter.unusedVariables false
set_option linter.unusedSimpArgs false
set_option maxRecDepth 100000
set_option linter.unusedVariables false
open Go Go.Ev
namespace Go.Ev
/-! ### paling/palingref1.Find -/
def sg_ref1_Find : Sig := [(true, (.sl T_api_Ins)), (false, .str)]
noncomputable def t_ref1_Find : Tbl := [(86, e_ref1_index)]
theorem tk_ref1_Find : ∀ p ∈ t_ref1_Find, EntOK Go.Proofs.Tryd.prog p.1 p.2 := tbl_cons ok_ref1_index (tbl_nil)
noncomputable def c_ref1_Find : Code := Go.Proofs.Tryd.f88.body.getD .skip
def tb_ref1_Find : Tb := [(3, ⟨[1, 2, 5], []⟩)]
inductive J_ref1_Find where
  | l3 (i : Int)
def T_ref1_Find (t : List (El T_api_Ins)) (label : ByteArray) : J_ref1_Find → JT J_ref1_Find (Int)
  | .l3 i =>
    .br (decide (i < (Int.ofNat (List.length t))))
      (.br ((decide ((0 : Int) ≤ i)) && (decide (i < (Int.ofNat (List.length t)))))
        (.br (k_ref1_index (List.getD t (Int.toNat i) (dflt T_api_Ins)).2.2.2.2.2.2 label)
          (.br (decide ((v_ref1_index (List.getD t (Int.toNat i) (dflt T_api_Ins)).2.2.2.2.2.2 label) ≥ (0 : Int)))
            (.leaf i)
          (.jmp (.l3 (IntKind.i64.wrap (i + (1 : Int))))))
        (.no))
      (.no))
    (.leaf (-1 : Int))
def T0_ref1_Find (t : List (El T_api_Ins)) (label : ByteArray) : JT J_ref1_Find (Int) :=
  .jmp (.l3 (0 : Int))
def R_ref1_Find : Int → AV := fun (r : Int) => .d (.int .i64) r
def S_ref1_Find (t : List (El T_api_Ins)) (label : ByteArray) : J_ref1_Find → Nat × St
  | .l3 i => (3, ⟨mkTm 23 [(1, .d .str label), (2, .pt 3 0 0), (5, .d (.int .i64) i)], [(3, 0, .box 40 [.d (.sl T_api_Ins) t] none)]⟩)
theorem en_ref1_Find (t : List (El T_api_Ins)) (label : ByteArray) (L : Lt) : entryA Go.Proofs.Tryd.prog (clOf t_ref1_Find) tb_ref1_Find Go.Proofs.Tryd.f88 c_ref1_Find L (toForms sg_ref1_Find (t, label, ())) = (T0_ref1_Find t label).run (fun v => some (R_ref1_Find v, tps (toForms sg_ref1_Find (t, label, ())))) fun j => L (S_ref1_Find t label j).1 (S_ref1_Find t label j).2 := by kernel_rfl
theorem lp_ref1_Find (t : List (El T_api_Ins)) (label : ByteArray) : ∀ (L : Lt) (j : J_ref1_Find), procOf (procsF Go.Proofs.Tryd.prog (clOf t_ref1_Find) tb_ref1_Find Go.Proofs.Tryd.f88 c_ref1_Find (toForms sg_ref1_Find (t, label, ()))) (S_ref1_Find t label j).1 L (S_ref1_Find t label j).2 = (T_ref1_Find t label j).run (fun v => some (R_ref1_Find v, tps (toForms sg_ref1_Find (t, label, ())))) fun j => L (S_ref1_Find t label j).1 (S_ref1_Find t label j).2
  | L, .l3 i => by kernel_rfl
end Go.Ev
end

section
set_option linter.unusedSectionVars false
set_option linter.unusedVariables false
set_option linter.unusedSimpArgs false
set_option linter.unusedVariables false
set_option linter.unusedSimpArgs false
open Go
namespace Go.Ev
def v_ref1_Find (t : List (El T_api_Ins)) (label : ByteArray) : Int := findI label t 0
def k_ref1_Find (t : List (El T_api_Ins)) (label : ByteArray) : Bool := decide (t.length < 1099511627776) && t.all fun i => decide (i.2.2.2.2.2.2.length < 1099511627776)
theorem g_ref1_Find (t : List (El T_api_Ins)) (label : ByteArray) (hk : k_ref1_Find t label = true) : Goes (T_ref1_Find t label) (T0_ref1_Find t label) (v_ref1_Find t label) := by
  unfold k_ref1_Find at hk
  simp only [Bool.and_eq_true, decide_eq_true_eq, List.all_eq_true] at hk
  obtain ⟨hn, hl⟩ := hk
  have loop : ∀ k, k ≤ t.length → Goes (T_ref1_Find t label) (.jmp (.l3 (k : Int))) (findI label (t.drop k) k) := by
    refine down ?_ fun k hk ih => ?_
    · rw [goes_jmp]
      simp only [T_ref1_Find, goes_br, lt_len_not (Nat.lt_irrefl _), goes_leaf, List.drop_length]
      simp [findI]
    · have hli := hl t[k] (List.getElem_mem hk)
      have hki : k_ref1_index t[k].2.2.2.2.2.2 label = true := decide_eq_true (by omega)
      rw [goes_jmp]
      simp only [T_ref1_Find, goes_br, lt_len hk, nng, Bool.and_self, if_true, Int.toNat_natCast, getD_lt hk, wrap_succ (k := k) (by omega), hki]
      rw [drop_cons hk]
      unfold findI
      have hi : decide (v_ref1_index t[k].2.2.2.2.2.2 label ≥ 0) = t[k].2.2.2.2.2.2.contains label := by
        rw [← findFrom_contains (k := 0)]
        unfold v_ref1_index
        cases h : findFrom label t[k].2.2.2.2.2.2 0 with
        | none => rfl
        | some n => simp
      rw [hi]
      split
      · exact .leaf
      · exact ih
  unfold T0_ref1_Find v_ref1_Find
  simpa using loop 0 (Nat.zero_le _)
end Go.Ev
end

section
set_option linter.unusedSectionVars false
set_option linter.unusedVariables false
set_option linter.unusedSimpArgs false
set_option maxRecDepth 100000
set_option linter.unusedVariables false
open Go Go.Ev
namespace Go.Ev
noncomputable def e_ref1_Find : Run := entG sg_ref1_Find R_ref1_Find (fun a => k_ref1_Find a.1 a.2.1) (fun a => v_ref1_Find a.1 a.2.1)
theorem ok_ref1_Find : EntOK Go.Proofs.Tryd.prog 88 e_ref1_Find := entG_ok (tb := tb_ref1_Find) (c := c_ref1_Find) tk_ref1_Find (by kernel_rfl) (by kernel_rfl) (by kernel_rfl) (fun a => by kernel_rfl) fun ⟨t, label, _⟩ hk => evF_goes (c := c_ref1_Find) (K := fun v => (R_ref1_Find v, tps (toForms sg_ref1_Find (t, label, ())))) (S := S_ref1_Find t label) (by kernel_rfl) (en_ref1_Find t label) (lp_ref1_Find t label) (g_ref1_Find t label hk)
end Go.Ev
end

section
set_option linter.unusedSectionVars false
set_option linter.unusedVariables false
set_option linter.unusedSimpArgs false
set_option maxRecDepth 100000
set_option linter.unusedVariables false
open Go Go.Ev
namespace Go.Ev
/-! ### paling/palingref1.thread -/
def sg_ref1_thread : Sig := [(true, T_api_Prog), (true, (.sl T_api_Ins))]
noncomputable def t_ref1_thread : Tbl := [(85, e_ref1_Count), (60, e_ref1_Right), (86, e_ref1_index), (45, e_ref1_InsRight), (87, e_ref1_operand), (66, e_ref1_Jumps), (88, e_ref1_Find)]
theorem tk_ref1_thread : ∀ p ∈ t_ref1_thread, EntOK Go.Proofs.Tryd.prog p.1 p.2 := tbl_cons ok_ref1_Count (tbl_cons ok_ref1_Right (tbl_cons ok_ref1_index (tbl_cons ok_ref1_InsRight (tbl_cons ok_ref1_operand (tbl_cons ok_ref1_Jumps (tbl_cons ok_ref1_Find (tbl_nil)))))))
noncomputable def c_ref1_thread : Code := Go.Proofs.Tryd.f61.body.getD .skip
def tb_ref1_thread : Tb := [(7, ⟨[2, 3, 5, 6, 94, 95, 112, 113, 114, 115, 116, 117, 118, 119, 120], [(6, 90)]⟩), (14, ⟨[2, 3, 5, 6, 7, 8, 94, 95, 112, 113, 114, 115, 116, 117, 118, 119, 120], [(6, 90)]⟩), (44, ⟨[3, 13], []⟩)]
inductive J_ref1_thread where
  | l7 (i : Int) (seen : List ByteArray)
  | l14 (x : Int) (x1 : Bool) (x2 : Int) (x3 : Int) (x4 : Int) (x5 : Int) (x6 : Int) (x7 : Int) (x8 : Int) (x9 : Int) (x10 : Int) (x11 : ByteArray) (x12 : List ByteArray) (k : Int) (seen : List ByteArray) (i : Int)
  | l44 (i : Int)
def T_ref1_thread (p : El T_api_Prog) (t : List (El T_api_Ins)) : J_ref1_thread → JT J_ref1_thread (Int)
  | .l7 i seen =>
    .br (decide (i < (Int.ofNat (List.length t))))
      (.br ((decide ((0 : Int) ≤ i)) && (decide (i < (Int.ofNat (List.length t)))))
        (.jmp (.l14 (List.getD t (Int.toNat i) (dflt T_api_Ins)).1 (List.getD t (Int.toNat i) (dflt T_api_Ins)).2.1 (List.getD t (Int.toNat i) (dflt T_api_Ins)).2.2.1 (List.getD t (Int.toNat i) (dflt T_api_Ins)).2.2.2.1.1 (List.getD t (Int.toNat i) (dflt T_api_Ins)).2.2.2.1.2.1 (List.getD t (Int.toNat i) (dflt T_api_Ins)).2.2.2.1.2.2.1 (List.getD t (Int.toNat i) (dflt T_api_Ins)).2.2.2.1.2.2.2 (List.getD t (Int.toNat i) (dflt T_api_Ins)).2.2.2.2.1.1 (List.getD t (Int.toNat i) (dflt T_api_Ins)).2.2.2.2.1.2.1 (List.getD t (Int.toNat i) (dflt T_api_Ins)).2.2.2.2.1.2.2.1 (List.getD t (Int.toNat i) (dflt T_api_Ins)).2.2.2.2.1.2.2.2 (List.getD t (Int.toNat i) (dflt T_api_Ins)).2.2.2.2.2.1 (List.getD t (Int.toNat i) (dflt T_api_Ins)).2.2.2.2.2.2 (0 : Int) seen i))
      (.no))
    (.br ((Int.ofNat (List.length t)) == (0 : Int))
      (.leaf (9 : Int))
    (.br ((decide ((0 : Int) ≤ (IntKind.i64.wrap ((Int.ofNat (List.length t)) - (1 : Int))))) && (decide ((IntKind.i64.wrap ((Int.ofNat (List.length t)) - (1 : Int))) < (Int.ofNat (List.length t)))))
      (.br ((List.getD t (Int.toNat (IntKind.i64.wrap ((Int.ofNat (List.length t)) - (1 : Int)))) (dflt T_api_Ins)).1 != (10 : Int))
        (.br ((List.getD t (Int.toNat (IntKind.i64.wrap ((Int.ofNat (List.length t)) - (1 : Int)))) (dflt T_api_Ins)).1 != (14 : Int))
          (.leaf (9 : Int))
        (.jmp (.l44 (0 : Int))))
      (.jmp (.l44 (0 : Int))))
    (.no)))
  | .l14 x x1 x2 x3 x4 x5 x6 x7 x8 x9 x10 x11 x12 k seen i =>
    .br (decide (k < (Int.ofNat (List.length x12))))
      (.br ((decide ((0 : Int) ≤ k)) && (decide (k < (Int.ofNat (List.length x12)))))
        (.br (k_ref1_Right (List.getD x12 (Int.toNat k) (dflt .str)))
          (.br (! (v_ref1_Right (List.getD x12 (Int.toNat k) (dflt .str))))
            (.leaf (3 : Int))
          (.br ((decide ((0 : Int) ≤ k)) && (decide (k < (Int.ofNat (List.length x12)))))
            (.br (k_ref1_index seen (List.getD x12 (Int.toNat k) (dflt .str)))
              (.br (decide ((v_ref1_index seen (List.getD x12 (Int.toNat k) (dflt .str))) ≥ (0 : Int)))
                (.leaf (6 : Int))
              (.br ((decide ((0 : Int) ≤ k)) && (decide (k < (Int.ofNat (List.length x12)))))
                (.br (Nat.ble (((List.length seen) + 1) * 16) limit)
                  (.jmp (.l14 x x1 x2 x3 x4 x5 x6 x7 x8 x9 x10 x11 x12 (IntKind.i64.wrap (k + (1 : Int))) (seen ++ [(List.getD x12 (Int.toNat k) (dflt .str))]) i))
                (.no))
              (.no)))
            (.no))
          (.no)))
        (.no))
      (.no))
    (.br (k_ref1_InsRight (x, (x1, (x2, ((x3, (x4, (x5, x6))), ((x7, (x8, (x9, x10))), (x11, x12)))))))
      (.br ((v_ref1_InsRight (x, (x1, (x2, ((x3, (x4, (x5, x6))), ((x7, (x8, (x9, x10))), (x11, x12))))))) != (0 : Int))
        (.leaf (v_ref1_InsRight (x, (x1, (x2, ((x3, (x4, (x5, x6))), ((x7, (x8, (x9, x10))), (x11, x12))))))))
      (.br (k_ref1_operand p (x3, (x4, (x5, x6))))
        (.br ((v_ref1_operand p (x3, (x4, (x5, x6)))) != (0 : Int))
          (.leaf (v_ref1_operand p (x3, (x4, (x5, x6)))))
        (.br (k_ref1_operand p (x7, (x8, (x9, x10))))
          (.br ((v_ref1_operand p (x7, (x8, (x9, x10)))) != (0 : Int))
            (.leaf (v_ref1_operand p (x7, (x8, (x9, x10)))))
          (.jmp (.l7 (IntKind.i64.wrap (i + (1 : Int))) seen)))
        (.no)))
      (.no)))
    (.no))
  | .l44 i =>
    .br (decide (i < (Int.ofNat (List.length t))))
      (.br ((decide ((0 : Int) ≤ i)) && (decide (i < (Int.ofNat (List.length t)))))
        (.br (v_ref1_Jumps (List.getD t (Int.toNat i) (dflt T_api_Ins)).1)
          (.br ((decide ((0 : Int) ≤ i)) && (decide (i < (Int.ofNat (List.length t)))))
            (.br (k_ref1_Find t (List.getD t (Int.toNat i) (dflt T_api_Ins)).2.2.2.2.2.1)
              (.br (decide ((v_ref1_Find t (List.getD t (Int.toNat i) (dflt T_api_Ins)).2.2.2.2.2.1) < (0 : Int)))
                (.leaf (7 : Int))
              (.jmp (.l44 (IntKind.i64.wrap (i + (1 : Int))))))
            (.no))
          (.no))
        (.jmp (.l44 (IntKind.i64.wrap (i + (1 : Int))))))
      (.no))
    (.leaf (0 : Int))
def T0_ref1_thread (p : El T_api_Prog) (t : List (El T_api_Ins)) : JT J_ref1_thread (Int) :=
  .br (k_ref1_Count t)
    (.br (decide ((v_ref1_Count t) > (4096 : Int)))
      (.leaf (10 : Int))
    (.jmp (.l7 (0 : Int) [])))
  (.no)
def R_ref1_thread : Int → AV := fun (r : Int) => .d (.int .i64) r
def S_ref1_thread (p : El T_api_Prog) (t : List (El T_api_Ins)) : J_ref1_thread → Nat × St
  | .l7 i seen => (7, ⟨mkTm 122 [(2, .pt 3 0 0), (3, .pt 4 0 0), (5, .own 6 0 none), (6, .d (.int .i64) i)], [(3, 0, .box 25 [.d (.sl T_api_Sym) p.1, .d (.sl (.sl T_api_Ins)) p.2] none), (4, 0, .box 40 [.d (.sl T_api_Ins) t] none), (6, 0, .row 9 .str seen false)]⟩)
  | .l14 x x1 x2 x3 x4 x5 x6 x7 x8 x9 x10 x11 x12 k seen i => (14, ⟨mkTm 122 [(2, .pt 3 0 0), (3, .pt 4 0 0), (5, .own 6 0 none), (6, .d (.int .i64) i), (7, .pt 8 0 0), (8, .d (.int .i64) k)], [(3, 0, .box 25 [.d (.sl T_api_Sym) p.1, .d (.sl (.sl T_api_Ins)) p.2] none), (4, 0, .box 40 [.d (.sl T_api_Ins) t] none), (6, 0, .row 9 .str seen false), (8, 0, .box 47 [.d (.int .i64) x, .d .bool x1, .d (.int .i64) x2, .d (.int .i64) x3, .d (.int .i64) x4, .d (.int .i64) x5, .d (.int .i64) x6, .d (.int .i64) x7, .d (.int .i64) x8, .d (.int .i64) x9, .d (.int .i64) x10, .d .str x11, .d (.sl .str) x12] none)]⟩)
  | .l44 i => (44, ⟨mkTm 122 [(3, .pt 4 0 0), (13, .d (.int .i64) i)], [(4, 0, .box 40 [.d (.sl T_api_Ins) t] none)]⟩)
theorem en_ref1_thread (p : El T_api_Prog) (t : List (El T_api_Ins)) (L : Lt) : entryA Go.Proofs.Tryd.prog (clOf t_ref1_thread) tb_ref1_thread Go.Proofs.Tryd.f61 c_ref1_thread L (toForms sg_ref1_thread (p, t, ())) = (T0_ref1_thread p t).run (fun v => some (R_ref1_thread v, tps (toForms sg_ref1_thread (p, t, ())))) fun j => L (S_ref1_thread p t j).1 (S_ref1_thread p t j).2 := by kernel_rfl
theorem lp_ref1_thread (p : El T_api_Prog) (t : List (El T_api_Ins)) : ∀ (L : Lt) (j : J_ref1_thread), procOf (procsF Go.Proofs.Tryd.prog (clOf t_ref1_thread) tb_ref1_thread Go.Proofs.Tryd.f61 c_ref1_thread (toForms sg_ref1_thread (p, t, ()))) (S_ref1_thread p t j).1 L (S_ref1_thread p t j).2 = (T_ref1_thread p t j).run (fun v => some (R_ref1_thread v, tps (toForms sg_ref1_thread (p, t, ())))) fun j => L (S_ref1_thread p t j).1 (S_ref1_thread p t j).2
  | L, .l7 i seen => by kernel_rfl
  | L, .l14 x x1 x2 x3 x4 x5 x6 x7 x8 x9 x10 x11 x12 k seen i => by kernel_rfl
  | L, .l44 i => by kernel_rfl
end Go.Ev
end

section
set_option linter.unusedSectionVars false
set_option linter.unusedVariables false
set_option linter.unusedSimpArgs false
set_option linter.unusedVariables false
set_option linter.unusedSimpArgs false
open Go
namespace Go.Ev
def v_ref1_thread (p : El T_api_Prog) (t : List (El T_api_Ins)) : Int := threadC p t
def k_ref1_thread (p : El T_api_Prog) (t : List (El T_api_Ins)) : Bool := smallThread t
theorem operand_eq' (len : Nat) (size : Int → Int) (k s n : Int) (h : (k = 3 ∨ k = 4) → 0 ≤ s) :
  (bif (! (decide (k = 3) || decide (k = 4))) then
    (0 : Int)
  else bif (decide (s ≥ (Int.ofNat len))) then
    (7 : Int)
  else bif (k == (3 : Int)) then
    bif ((decide ((0 : Int) ≤ s)) && (decide (s < (Int.ofNat len)))) then
      bif (decide (n ≥ size s)) then
        (8 : Int)
      else (0 : Int)
    else (0 : Int)
  else (0 : Int)) = placeN len size k s n ∧
  (bif (! (decide (k = 3) || decide (k = 4))) then
    true
  else bif (decide (s ≥ (Int.ofNat len))) then
    true
  else bif (k == (3 : Int)) then
    bif ((decide ((0 : Int) ≤ s)) && (decide (s < (Int.ofNat len)))) then
      bif (decide (n ≥ size s)) then
        true
      else true
    else false
  else true) = true := by
  unfold placeN
  by_cases h3 : k = 3
  · have h0 := h (.inl h3)
    subst h3
    by_cases hl : (len : Int) ≤ s
    · simp [hl]
    have h2 : s < (len : Int) := by omega
    have h1 : ¬ s < 0 := by omega
    by_cases hn : size s ≤ n
    · simp [hl, hn, h0, h1, h2]
    · simp [hl, hn, h0, h1, h2]
  by_cases h4 : k = 4
  · have h0 := h (.inr h4)
    subst h4
    have h1 : ¬ s < 0 := by omega
    by_cases hl : (len : Int) ≤ s
    · simp [hl]
    simp [hl, h1]
  simp [h3, h4]
theorem operand_eq (p : El T_api_Prog) (o : El T_api_Opd) (h : ∀ k s : Int, o.1 = k → o.2.2.1 = s → (k = 3 ∨ k = 4) → 0 ≤ s) : v_ref1_operand p o = placeC p o ∧ k_ref1_operand p o = true := by
  have := operand_eq' p.1.length (fun s => (List.getD p.1 s.toNat (dflt T_api_Sym)).2.1) o.1 o.2.2.1 o.2.2.2 (h _ _ rfl rfl)
  unfold v_ref1_operand k_ref1_operand
  rw [refMemory_eq]
  exact this
theorem right_sym' {k r s n : Int} (h : v_opnd_Right (k, r, s, n) = true) (hk : k = 3 ∨ k = 4) : 0 ≤ s := by
  unfold v_opnd_Right at h
  rcases hk with rfl | rfl
  · by_cases hs : 0 ≤ s
    · exact hs
    · simp [hs] at h
  · by_cases hs : 0 ≤ s
    · exact hs
    · simp [hs] at h
theorem opds_ok {i : El T_api_Ins} (hr : v_ins_Right i = 0) : (∀ k s : Int, i.2.2.2.1.1 = k → i.2.2.2.1.2.2.1 = s → (k = 3 ∨ k = 4) → 0 ≤ s) ∧ ∀ k s : Int, i.2.2.2.2.1.1 = k → i.2.2.2.2.1.2.2.1 = s → (k = 3 ∨ k = 4) → 0 ≤ s := by
  obtain ⟨h1, h14, hrow⟩ := right0_row hr
  rcases nine i.1 with ⟨h9, _⟩ | ⟨h9, _⟩
  · obtain ⟨a, b⟩ := row_low hrow h1 h9
    exact ⟨fun k s hk hs h => hs ▸ right_sym' (k := i.2.2.2.1.1) (r := i.2.2.2.1.2.1) (s := i.2.2.2.1.2.2.1) (n := i.2.2.2.1.2.2.2) a (hk ▸ h), fun k s hk hs h => hs ▸ right_sym' (k := i.2.2.2.2.1.1) (r := i.2.2.2.2.1.2.1) (s := i.2.2.2.2.1.2.2.1) (n := i.2.2.2.2.1.2.2.2) b (hk ▸ h)⟩
  · obtain ⟨a, b⟩ := row_high hrow h9
    refine ⟨fun k s hk hs h => ?_, fun k s hk hs h => ?_⟩
    · have : k = 0 := hk ▸ a
      omega
    · have : k = 0 := hk ▸ b
      omega
theorem g_ref1_thread (p : El T_api_Prog) (t : List (El T_api_Ins)) (hk : k_ref1_thread p t = true) : Goes (T_ref1_thread p t) (T0_ref1_thread p t) (v_ref1_thread p t) := by
  have hS := smallT hk
  have hn := hS.len
  have hkf : ∀ l, k_ref1_Find t l = true := fun l => by
    unfold k_ref1_Find
    simp only [Bool.and_eq_true, decide_eq_true_eq, List.all_eq_true]
    exact ⟨hn, fun i hi => Nat.lt_of_le_of_lt (labels_mem hi) hS.labs⟩
  have jmps : ∀ k, k ≤ t.length → Goes (T_ref1_thread p t) (.jmp (.l44 (k : Int))) (jumpC (labels t) (t.drop k)) := by
    refine down ?_ fun k hk ih => ?_
    · rw [goes_jmp]
      simp only [T_ref1_thread, goes_br, lt_len_not (Nat.lt_irrefl _), goes_leaf, List.drop_length]
      simp [jumpC]
    · rw [goes_jmp]
      simp only [T_ref1_thread, goes_br, lt_len hk, nng, Bool.and_self, if_true, Int.toNat_natCast, getD_lt hk, wrap_succ (k := k) (by omega), hkf, jumps_eq]
      have hfi : decide (v_ref1_Find t t[k].2.2.2.2.2.1 < 0) = ! (labels t).contains t[k].2.2.2.2.2.1 := findI_neg
      rw [hfi, drop_cons hk]
      unfold jumpC
      by_cases h1 : ((t[k].1 == (10 : Int)) || (t[k].1 == (11 : Int))) = true
      · rw [if_pos h1, if_pos h1]
        by_cases h2 : (labels t).contains t[k].2.2.2.2.2.1 = true
        · rw [if_pos h2, if_neg (by rw [h2]; decide)]; exact ih
        · rw [if_neg h2, if_pos (by rw [Bool.eq_false_iff.2 h2]; rfl)]; exact .leaf
      · rw [if_neg h1, if_neg h1]; exact ih
  have main : ∀ k, k ≤ t.length → Goes (T_ref1_thread p t) (.jmp (.l7 (k : Int) (labels (t.take k)))) (scanI p (fun seen => endC t (jumpC seen t)) (labels (t.take k)) (t.drop k)) := by
    refine down ?_ fun k hk ih => ?_
    · have hj := jmps 0 (Nat.zero_le _)
      rw [List.drop_zero] at hj
      rw [goes_jmp, List.drop_length, List.take_length]
      unfold scanI
      simp only [T_ref1_thread, goes_br, lt_len_not (Nat.lt_irrefl _)]
      rw [if_neg (by decide)]
      by_cases h0 : t.length = 0
      · have : t = [] := List.eq_nil_of_length_eq_zero h0
        rw [this]; simp [goes_leaf, endC]
      · have hp : 0 < t.length := by omega
        rw [if_neg (by simp; exact fun e => h0 (by rw [e]; rfl)), endC_eq hp]
        rw [show Int.ofNat t.length = (t.length : Int) from rfl, wrap_pred (k := t.length) (by omega) hp]
        have hb : (decide (0 ≤ ((t.length - 1 : Nat) : Int)) && decide (((t.length - 1 : Nat) : Int) < (t.length : Int))) = true := by simp; omega
        simp only [hb, if_true, Int.toNat_natCast, getD_lt (show t.length - 1 < t.length by omega)]
        unfold bne
        cases h10 : (t[t.length - 1].1 == (10 : Int)) with
        | true => simpa using hj
        | false =>
          cases h14 : (t[t.length - 1].1 == (14 : Int)) with
          | true => simpa using hj
          | false => simp [goes_leaf]
    · have hmem : t[k] ∈ t := List.getElem_mem hk
      have hto := hS.to _ hmem
      have hlab := hS.lab _ hmem
      have hlen := Nat.lt_of_le_of_lt (labels_mem hmem) hS.labs
      have htk : labels (t.take (k + 1)) = labels (t.take k) ++ t[k].2.2.2.2.2.2 := by
        unfold labels
        rw [List.take_add_one, List.getElem?_eq_getElem hk, List.flatMap_append]
        simp
      have hall : labels t = labels (t.take (k + 1)) ++ labels (t.drop (k + 1)) := by
        unfold labels
        rw [← List.flatMap_append, List.take_append_drop]
      have hlt : (labels (t.take (k + 1))).length < 1099511627776 := by
        have := hS.labs
        rw [hall, List.length_append] at this
        omega
      rw [goes_jmp]
      simp only [T_ref1_thread, goes_br, lt_len hk, nng, Bool.and_self, if_true, Int.toNat_natCast, getD_lt hk]
      rw [drop_cons hk]
      unfold scanI
      rw [htk] at ih hlt
      generalize t[k] = i at hto hlab hlen htk ih hlt
      obtain ⟨op, lock, cond, ⟨ak, ar, ay, an⟩, ⟨bk, br, bz, bn⟩, to, ls⟩ := i
      dsimp only at hto hlab hlen htk ih hlt ⊢
      have inner : ∀ j, j ≤ ls.length → Goes (T_ref1_thread p t) (.jmp (.l14 op lock cond ak ar ay an bk br bz bn to ls (j : Int) (labels (t.take k) ++ ls.take j) (k : Int))) (scanL (labels (t.take k) ++ ls.take j) (fun seen => if insC p (op, (lock, (cond, ((ak, (ar, (ay, an))), ((bk, (br, (bz, bn))), (to, ls)))))) ≠ 0 then insC p (op, (lock, (cond, ((ak, (ar, (ay, an))), ((bk, (br, (bz, bn))), (to, ls)))))) else scanI p (fun seen => endC t (jumpC seen t)) seen (t.drop (k + 1))) (ls.drop j)) := by
        refine down ?_ fun j hj ihj => ?_
        · rw [goes_jmp, List.drop_length, List.take_length]
          unfold scanL
          have hkr : k_ref1_InsRight (op, (lock, (cond, ((ak, (ar, (ay, an))), ((bk, (br, (bz, bn))), (to, ls)))))) = true := hto
          simp only [T_ref1_thread, goes_br, lt_len_not (Nat.lt_irrefl _), hkr, if_true, wrap_succ (k := k) (by omega)]
          rw [if_neg (by decide)]
          unfold insC v_ref1_InsRight
          dsimp only
          by_cases hr : v_ins_Right (op, (lock, (cond, ((ak, (ar, (ay, an))), ((bk, (br, (bz, bn))), (to, ls)))))) = 0
          · obtain ⟨oa, ob⟩ := opds_ok hr
            obtain ⟨a1, a2⟩ := operand_eq p (ak, (ar, (ay, an))) oa
            obtain ⟨b1, b2⟩ := operand_eq p (bk, (br, (bz, bn))) ob
            by_cases ha : placeC p (ak, (ar, (ay, an))) = 0
            · by_cases hb : placeC p (bk, (br, (bz, bn))) = 0
              · simp [hr, ha, hb, a1, a2, b1, b2]; exact ih
              · simp [hr, ha, hb, a1, a2, b1, b2, goes_leaf]
            · simp [hr, ha, a1, a2, goes_leaf]
          · simp [hr, goes_leaf]
        · have hl := hlab ls[j] (List.getElem_mem hj)
          have hkn : k_ref1_Right ls[j] = true := hl
          have hsl : (labels (t.take k) ++ ls.take j).length < 1099511627776 := by
            rw [List.length_append] at hlt ⊢
            rw [List.length_take]
            omega
          have hki : k_ref1_index (labels (t.take k) ++ ls.take j) ls[j] = true := decide_eq_true (by omega)
          have hap : Nat.ble (((labels (t.take k) ++ ls.take j).length + 1) * 16) limit = true := by apply Nat.ble_eq_true_of_le; unfold limit; omega
          have htj : labels (t.take k) ++ ls.take (j + 1) = (labels (t.take k) ++ ls.take j) ++ [ls[j]] := by
            rw [List.take_add_one, List.getElem?_eq_getElem hj, List.append_assoc]; rfl
          rw [htj] at ihj
          rw [goes_jmp]
          simp only [T_ref1_thread, goes_br, lt_len hj, nng, Bool.and_self, if_true, Int.toNat_natCast, getD_lt hj, wrap_succ (k := j) (by omega), hkn, hki, hap, index_contains]
          rw [drop_cons hj]
          unfold scanL
          by_cases h1 : nameRight ls[j] = false
          · rw [if_pos h1, if_pos (by show (! nameRight ls[j]) = true; rw [h1]; rfl)]; exact .leaf
          · rw [if_neg h1, if_neg (by show ¬ (! nameRight ls[j]) = true; simpa using h1)]
            by_cases h2 : (labels (t.take k) ++ ls.take j).contains ls[j] = true
            · rw [if_pos h2, if_pos h2]; exact .leaf
            · rw [if_neg h2, if_neg h2]; exact ihj
      have := inner 0 (Nat.zero_le _)
      rw [List.drop_zero, List.take_zero, List.append_nil] at this
      exact this
  unfold T0_ref1_thread v_ref1_thread
  have hkc : k_ref1_Count t = true := decide_eq_true hn
  simp only [goes_br, hkc, if_true]
  unfold threadC v_ref1_Count
  by_cases h : 4096 < countM t
  · rw [if_pos (by simp; omega), if_pos h]; exact .leaf
  · rw [if_neg (by simp; omega), if_neg h]
    exact main 0 (Nat.zero_le _)
end Go.Ev
end

section
set_option linter.unusedSectionVars false
set_option linter.unusedVariables false
set_option linter.unusedSimpArgs false
set_option maxRecDepth 100000
set_option linter.unusedVariables false
open Go Go.Ev
namespace Go.Ev
noncomputable def e_ref1_thread : Run := entG sg_ref1_thread R_ref1_thread (fun a => k_ref1_thread a.1 a.2.1) (fun a => v_ref1_thread a.1 a.2.1)
theorem ok_ref1_thread : EntOK Go.Proofs.Tryd.prog 61 e_ref1_thread := entG_ok (tb := tb_ref1_thread) (c := c_ref1_thread) tk_ref1_thread (by kernel_rfl) (by kernel_rfl) (by kernel_rfl) (fun a => by kernel_rfl) fun ⟨p, t, _⟩ hk => evF_goes (c := c_ref1_thread) (K := fun v => (R_ref1_thread v, tps (toForms sg_ref1_thread (p, t, ())))) (S := S_ref1_thread p t) (by kernel_rfl) (en_ref1_thread p t) (lp_ref1_thread p t) (g_ref1_thread p t hk)
end Go.Ev
end

section
set_option linter.unusedSectionVars false
set_option linter.unusedVariables false
set_option linter.unusedSimpArgs false
set_option maxRecDepth 100000
set_option linter.unusedVariables false
open Go Go.Ev
namespace Go.Ev
/-! ### paling/palingref1.Check -/
def sg_ref1_Check : Sig := [(true, T_api_Prog)]
noncomputable def t_ref1_Check : Tbl := [(60, e_ref1_Right), (61, e_ref1_thread)]
theorem tk_ref1_Check : ∀ p ∈ t_ref1_Check, EntOK Go.Proofs.Tryd.prog p.1 p.2 := tbl_cons ok_ref1_Right (tbl_cons ok_ref1_thread (tbl_nil))
noncomputable def c_ref1_Check : Code := Go.Proofs.Tryd.f40.body.getD .skip
def tb_ref1_Check : Tb := [(6, ⟨[1, 3], []⟩), (16, ⟨[1, 3, 4, 5, 52, 53, 54, 57, 58, 59, 60, 61, 62], []⟩), (26, ⟨[1, 6], []⟩)]
inductive J_ref1_Check where
  | l6 (i : Int)
  | l16 (x : ByteArray) (x1 : Int) (x2 : List Int) (i : Int) (k : Int)
  | l26 (i : Int)
def T_ref1_Check (p : El T_api_Prog) : J_ref1_Check → JT J_ref1_Check (Int)
  | .l6 i =>
    .br (decide (i < (Int.ofNat (List.length p.1))))
      (.br ((decide ((0 : Int) ≤ i)) && (decide (i < (Int.ofNat (List.length p.1)))))
        (.br (k_ref1_Right (List.getD p.1 (Int.toNat i) (dflt T_api_Sym)).1)
          (.br (! (v_ref1_Right (List.getD p.1 (Int.toNat i) (dflt T_api_Sym)).1))
            (.leaf (3 : Int))
          (.jmp (.l16 (List.getD p.1 (Int.toNat i) (dflt T_api_Sym)).1 (List.getD p.1 (Int.toNat i) (dflt T_api_Sym)).2.1 (List.getD p.1 (Int.toNat i) (dflt T_api_Sym)).2.2 i (0 : Int))))
        (.no))
      (.no))
    (.jmp (.l26 (0 : Int)))
  | .l16 x x1 x2 i k =>
    .br (decide (k < i))
      (.br ((decide ((0 : Int) ≤ k)) && (decide (k < (Int.ofNat (List.length p.1)))))
        (.br (eqB (List.getD p.1 (Int.toNat k) (dflt T_api_Sym)).1 x)
          (.leaf (6 : Int))
        (.jmp (.l16 x x1 x2 i (IntKind.i64.wrap (k + (1 : Int))))))
      (.no))
    (.br (decide (x1 < (1 : Int)))
      (.leaf (5 : Int))
    (.br (decide (x1 > (64 : Int)))
      (.leaf (5 : Int))
    (.br (decide ((Int.ofNat (List.length x2)) > x1))
      (.leaf (5 : Int))
    (.jmp (.l6 (IntKind.i64.wrap (i + (1 : Int))))))))
  | .l26 i =>
    .br (decide (i < (Int.ofNat (List.length p.2))))
      (.br ((decide ((0 : Int) ≤ i)) && (decide (i < (Int.ofNat (List.length p.2)))))
        (.br (k_ref1_thread p (List.getD p.2 (Int.toNat i) (dflt (.sl (.pr (.int .i64) (.pr .bool (.pr (.int .i64) (.pr (.pr (.int .i64) (.pr (.int .i64) (.pr (.int .i64) (.int .i64)))) (.pr (.pr (.int .i64) (.pr (.int .i64) (.pr (.int .i64) (.int .i64)))) (.pr .str (.sl .str)))))))))))
          (.br ((v_ref1_thread p (List.getD p.2 (Int.toNat i) (dflt (.sl (.pr (.int .i64) (.pr .bool (.pr (.int .i64) (.pr (.pr (.int .i64) (.pr (.int .i64) (.pr (.int .i64) (.int .i64)))) (.pr (.pr (.int .i64) (.pr (.int .i64) (.pr (.int .i64) (.int .i64)))) (.pr .str (.sl .str))))))))))) != (0 : Int))
            (.leaf (v_ref1_thread p (List.getD p.2 (Int.toNat i) (dflt (.sl (.pr (.int .i64) (.pr .bool (.pr (.int .i64) (.pr (.pr (.int .i64) (.pr (.int .i64) (.pr (.int .i64) (.int .i64)))) (.pr (.pr (.int .i64) (.pr (.int .i64) (.pr (.int .i64) (.int .i64)))) (.pr .str (.sl .str))))))))))))
          (.jmp (.l26 (IntKind.i64.wrap (i + (1 : Int))))))
        (.no))
      (.no))
    (.leaf (0 : Int))
def T0_ref1_Check (p : El T_api_Prog) : JT J_ref1_Check (Int) :=
  .br (decide ((Int.ofNat (List.length p.1)) > (64 : Int)))
    (.leaf (10 : Int))
  (.br (decide ((Int.ofNat (List.length p.2)) > (64 : Int)))
    (.leaf (10 : Int))
  (.jmp (.l6 (0 : Int))))
def R_ref1_Check : Int → AV := fun (r : Int) => .d (.int .i64) r
def S_ref1_Check (p : El T_api_Prog) : J_ref1_Check → Nat × St
  | .l6 i => (6, ⟨mkTm 81 [(1, .pt 2 0 0), (3, .d (.int .i64) i)], [(2, 0, .box 25 [.d (.sl T_api_Sym) p.1, .d (.sl (.sl T_api_Ins)) p.2] none)]⟩)
  | .l16 x x1 x2 i k => (16, ⟨mkTm 81 [(1, .pt 2 0 0), (3, .d (.int .i64) i), (4, .pt 5 0 0), (5, .d (.int .i64) k)], [(2, 0, .box 25 [.d (.sl T_api_Sym) p.1, .d (.sl (.sl T_api_Ins)) p.2] none), (5, 0, .box 59 [.d .str x, .d (.int .i64) x1, .d (.sl (.int .i64)) x2] none)]⟩)
  | .l26 i => (26, ⟨mkTm 81 [(1, .pt 2 0 0), (6, .d (.int .i64) i)], [(2, 0, .box 25 [.d (.sl T_api_Sym) p.1, .d (.sl (.sl T_api_Ins)) p.2] none)]⟩)
theorem en_ref1_Check (p : El T_api_Prog) (L : Lt) : entryA Go.Proofs.Tryd.prog (clOf t_ref1_Check) tb_ref1_Check Go.Proofs.Tryd.f40 c_ref1_Check L (toForms sg_ref1_Check (p, ())) = (T0_ref1_Check p).run (fun v => some (R_ref1_Check v, tps (toForms sg_ref1_Check (p, ())))) fun j => L (S_ref1_Check p j).1 (S_ref1_Check p j).2 := by kernel_rfl
theorem lp_ref1_Check (p : El T_api_Prog) : ∀ (L : Lt) (j : J_ref1_Check), procOf (procsF Go.Proofs.Tryd.prog (clOf t_ref1_Check) tb_ref1_Check Go.Proofs.Tryd.f40 c_ref1_Check (toForms sg_ref1_Check (p, ()))) (S_ref1_Check p j).1 L (S_ref1_Check p j).2 = (T_ref1_Check p j).run (fun v => some (R_ref1_Check v, tps (toForms sg_ref1_Check (p, ())))) fun j => L (S_ref1_Check p j).1 (S_ref1_Check p j).2
  | L, .l6 i => by kernel_rfl
  | L, .l16 x x1 x2 i k => by kernel_rfl
  | L, .l26 i => by kernel_rfl
end Go.Ev
end

section
set_option linter.unusedSectionVars false
set_option linter.unusedVariables false
set_option linter.unusedSimpArgs false
set_option linter.unusedVariables false
set_option linter.unusedSimpArgs false
open Go
namespace Go.Ev
def v_ref1_Check (p : El T_api_Prog) : Int := checkC p
def k_ref1_Check (p : El T_api_Prog) : Bool := smallProg p
theorem g_ref1_Check (p : El T_api_Prog) (hk : k_ref1_Check p = true) : Goes (T_ref1_Check p) (T0_ref1_Check p) (v_ref1_Check p) := by
  have hth : ∀ t ∈ p.2, smallThread t = true := by
    unfold k_ref1_Check smallProg at hk
    simp only [Bool.and_eq_true, List.all_eq_true] at hk
    exact hk.2
  have hsy : ∀ s ∈ p.1, smallText s.1 = true := by
    unfold k_ref1_Check smallProg at hk
    simp only [Bool.and_eq_true, List.all_eq_true] at hk
    exact hk.1
  obtain ⟨sy, th⟩ := p
  dsimp only at hth hsy
  have ths : th.length ≤ 64 → ∀ k, k ≤ th.length → Goes (T_ref1_Check (sy, th)) (.jmp (.l26 (k : Int))) (thsC (sy, th) (th.drop k)) := by
    intro hn
    refine down ?_ fun k hk ih => ?_
    · rw [goes_jmp]
      simp only [T_ref1_Check, goes_br, lt_len_not (Nat.lt_irrefl _), goes_leaf, List.drop_length]
      simp [thsC]
    · have hkt : k_ref1_thread (sy, th) th[k] = true := hth _ (List.getElem_mem hk)
      rw [goes_jmp]
      simp only [T_ref1_Check, goes_br, lt_len hk, nng, Bool.and_self, if_true, Int.toNat_natCast, getD_lt hk, wrap_succ (k := k) (by omega), hkt]
      rw [drop_cons hk]
      unfold thsC
      show (if (threadC (sy, th) th[k] != 0) = true then _ else _)
      by_cases h : threadC (sy, th) th[k] = 0
      · rw [if_neg (by simp [h]), if_neg (by simp [h])]; exact ih
      · rw [if_pos (by simp [h]), if_pos h]; exact .leaf

  have main : sy.length ≤ 64 → th.length ≤ 64 → ∀ k, k ≤ sy.length → Goes (T_ref1_Check (sy, th)) (.jmp (.l6 (k : Int))) (symsC (thsC (sy, th) th) ((sy.take k).map fun s => s.1) (sy.drop k)) := by
    intro hn hm
    refine down ?_ fun k hk ih => ?_
    · rw [goes_jmp, List.drop_length]
      unfold symsC
      simp only [T_ref1_Check, goes_br, lt_len_not (Nat.lt_irrefl _)]
      rw [if_neg (by decide)]
      simpa using ths hm 0 (Nat.zero_le _)
    · have hkn : k_ref1_Right sy[k].1 = true := hsy _ (List.getElem_mem hk)
      have htk : (sy.take (k + 1)).map (fun s => s.1) = (sy.take k).map (fun s => s.1) ++ [sy[k].1] := by
        rw [List.take_add_one, List.getElem?_eq_getElem hk, List.map_append]; rfl
      rw [htk] at ih
      rw [goes_jmp]
      simp only [T_ref1_Check, goes_br, lt_len hk, nng, Bool.and_self, if_true, Int.toNat_natCast, getD_lt hk, hkn]
      rw [drop_cons hk]
      unfold symsC
      generalize sy[k] = s at ih hkn
      obtain ⟨nm, size, init⟩ := s
      dsimp only at ih hkn ⊢
      change Int at size
      by_cases h1 : nameRight nm = false
      · rw [if_pos h1, if_pos (by show (! nameRight nm) = true; rw [h1]; rfl)]; exact .leaf
      rw [if_neg h1, if_neg (by show ¬ (! nameRight nm) = true; simpa using h1)]
      have inner : ∀ j, j ≤ k → Goes (T_ref1_Check (sy, th)) (.jmp (.l16 nm size init (k : Int) (j : Int))) (if (((sy.take k).drop j).map (fun s => s.1)).contains nm = true then 6 else if size < (1 : Int) ∨ (64 : Int) < size ∨ size < (List.length init : Int) then 5 else symsC (thsC (sy, th) th) ((sy.take k).map (fun s => s.1) ++ [nm]) (sy.drop (k + 1))) := by
        refine down ?_ fun j hj ihj => ?_
        · rw [goes_jmp]
          have : (sy.take k).drop k = [] := List.drop_eq_nil_of_le (by rw [List.length_take]; omega)
          rw [this]
          simp only [T_ref1_Check, goes_br, wrap_succ (k := k) (by omega)]
          rw [if_neg (by simp)]
          simp only [List.map_nil, List.contains_nil, Bool.false_eq_true, if_false]
          by_cases h3 : size < 1
          · rw [if_pos (decide_eq_true h3), if_pos (.inl h3)]; exact .leaf
          rw [if_neg (by simpa using h3)]
          by_cases h4 : 64 < size
          · rw [if_pos (decide_eq_true h4), if_pos (.inr (.inl h4))]; exact .leaf
          rw [if_neg (by simpa using h4)]
          by_cases h5 : size < (List.length init : Int)
          · rw [if_pos (show decide (Int.ofNat (List.length init) > size) = true from decide_eq_true h5), if_pos (.inr (.inr h5))]; exact .leaf
          rw [if_neg (show ¬ decide (Int.ofNat (List.length init) > size) = true by simpa using h5), if_neg (by rintro (h | h | h) <;> contradiction)]
          exact ih
        · have hjs : j < sy.length := by omega
          have hjt : j < (sy.take k).length := by rw [List.length_take]; omega
          rw [goes_jmp, drop_cons hjt, List.map_cons, List.contains_cons, List.getElem_take]
          simp only [T_ref1_Check, goes_br, lt_len hjs, nng, Bool.and_self, if_true, Int.toNat_natCast, getD_lt hjs, wrap_succ (k := j) (by omega), eqB_iff]
          rw [if_pos (by simp; omega)]
          by_cases h2 : sy[j].1 = nm
          · rw [if_pos h2, if_pos (by rw [h2]; simp)]; exact .leaf
          · rw [if_neg h2, beq_false_of_ne (Ne.symm h2), Bool.false_or]; exact ihj
      simpa using inner 0 (Nat.zero_le _)
  unfold T0_ref1_Check v_ref1_Check checkC
  simp only [goes_br]
  by_cases h : 64 < sy.length
  · rw [if_pos (by simp; omega), if_pos (.inl h)]; exact .leaf
  rw [if_neg (by simp; omega)]
  by_cases h2 : 64 < th.length
  · rw [if_pos (by simp; omega), if_pos (.inr h2)]; exact .leaf
  rw [if_neg (by simp; omega), if_neg (by rintro (h | h) <;> contradiction)]
  exact main (by omega) (by omega) 0 (Nat.zero_le _)
end Go.Ev
end

section
set_option linter.unusedSectionVars false
set_option linter.unusedVariables false
set_option linter.unusedSimpArgs false
set_option maxRecDepth 100000
set_option linter.unusedVariables false
open Go Go.Ev
namespace Go.Ev
noncomputable def e_ref1_Check : Run := entG sg_ref1_Check R_ref1_Check (fun a => k_ref1_Check a.1) (fun a => v_ref1_Check a.1)
theorem ok_ref1_Check : EntOK Go.Proofs.Tryd.prog 40 e_ref1_Check := entG_ok (tb := tb_ref1_Check) (c := c_ref1_Check) tk_ref1_Check (by kernel_rfl) (by kernel_rfl) (by kernel_rfl) (fun a => by kernel_rfl) fun ⟨p, _⟩ hk => evF_goes (c := c_ref1_Check) (K := fun v => (R_ref1_Check v, tps (toForms sg_ref1_Check (p, ())))) (S := S_ref1_Check p) (by kernel_rfl) (en_ref1_Check p) (lp_ref1_Check p) (g_ref1_Check p hk)
end Go.Ev
end

section
set_option linter.unusedSectionVars false
set_option linter.unusedVariables false
set_option linter.unusedSimpArgs false
set_option maxRecDepth 100000
set_option linter.unusedVariables false
open Go Go.Ev
namespace Go.Ev
/-! ### paling/palingref3.Accesses -/
def sg_ref3_Accesses : Sig := [(true, T_api_Prog)]
noncomputable def t_ref3_Accesses : Tbl := [(40, e_ref1_Check), (22, e_ref1_Reads), (23, e_ref1_Writes), (24, e_ref1_Locked)]
theorem tk_ref3_Accesses : ∀ p ∈ t_ref3_Accesses, EntOK Go.Proofs.Tryd.prog p.1 p.2 := tbl_cons ok_ref1_Check (tbl_cons ok_ref1_Reads (tbl_cons ok_ref1_Writes (tbl_cons ok_ref1_Locked (tbl_nil))))
noncomputable def c_ref3_Accesses : Code := Go.Proofs.Tryd.f15.body.getD .skip
def tb_ref3_Accesses : Tb := [(7, ⟨[1, 3, 4], [(4, 58)]⟩), (12, ⟨[1, 3, 4, 5], [(4, 58)]⟩), (hintK, ⟨[], [(1, 58)]⟩)]
inductive J_ref3_Accesses where
  | l7 (t : Int) (out : List (El T_api_Access))
  | l12 (i : Int) (out : List (El T_api_Access)) (t : Int)
def T_ref3_Accesses (p : El T_api_Prog) : J_ref3_Accesses → JT J_ref3_Accesses (List (El T_api_Access))
  | .l7 t out =>
    .br (decide (t < (Int.ofNat (List.length p.2))))
      (.jmp (.l12 (0 : Int) out t))
    (.leaf out)
  | .l12 i out t =>
    .br ((decide ((0 : Int) ≤ t)) && (decide (t < (Int.ofNat (List.length p.2)))))
      (.br (decide (i < (Int.ofNat (List.length (List.getD p.2 (Int.toNat t) (dflt (.sl (.pr (.int .i64) (.pr .bool (.pr (.int .i64) (.pr (.pr (.int .i64) (.pr (.int .i64) (.pr (.int .i64) (.int .i64)))) (.pr (.pr (.int .i64) (.pr (.int .i64) (.pr (.int .i64) (.int .i64)))) (.pr .str (.sl .str))))))))))))))
        (.br ((decide ((0 : Int) ≤ t)) && (decide (t < (Int.ofNat (List.length p.2)))))
          (.br ((decide ((0 : Int) ≤ i)) && (decide (i < (Int.ofNat (List.length (List.getD p.2 (Int.toNat t) (dflt (.sl (.pr (.int .i64) (.pr .bool (.pr (.int .i64) (.pr (.pr (.int .i64) (.pr (.int .i64) (.pr (.int .i64) (.int .i64)))) (.pr (.pr (.int .i64) (.pr (.int .i64) (.pr (.int .i64) (.int .i64)))) (.pr .str (.sl .str)))))))))))))))
            (.br (k_ref1_Reads (List.getD (List.getD p.2 (Int.toNat t) (dflt (.sl (.pr (.int .i64) (.pr .bool (.pr (.int .i64) (.pr (.pr (.int .i64) (.pr (.int .i64) (.pr (.int .i64) (.int .i64)))) (.pr (.pr (.int .i64) (.pr (.int .i64) (.pr (.int .i64) (.int .i64)))) (.pr .str (.sl .str)))))))))) (Int.toNat i) (dflt T_api_Ins)))
              (.br (k_ref1_Writes (List.getD (List.getD p.2 (Int.toNat t) (dflt (.sl (.pr (.int .i64) (.pr .bool (.pr (.int .i64) (.pr (.pr (.int .i64) (.pr (.int .i64) (.pr (.int .i64) (.int .i64)))) (.pr (.pr (.int .i64) (.pr (.int .i64) (.pr (.int .i64) (.int .i64)))) (.pr .str (.sl .str)))))))))) (Int.toNat i) (dflt T_api_Ins)))
                (.br (v_ref1_Reads (List.getD (List.getD p.2 (Int.toNat t) (dflt (.sl (.pr (.int .i64) (.pr .bool (.pr (.int .i64) (.pr (.pr (.int .i64) (.pr (.int .i64) (.pr (.int .i64) (.int .i64)))) (.pr (.pr (.int .i64) (.pr (.int .i64) (.pr (.int .i64) (.int .i64)))) (.pr .str (.sl .str)))))))))) (Int.toNat i) (dflt T_api_Ins))).2
                  (.br (k_ref1_Locked (List.getD (List.getD p.2 (Int.toNat t) (dflt (.sl (.pr (.int .i64) (.pr .bool (.pr (.int .i64) (.pr (.pr (.int .i64) (.pr (.int .i64) (.pr (.int .i64) (.int .i64)))) (.pr (.pr (.int .i64) (.pr (.int .i64) (.pr (.int .i64) (.int .i64)))) (.pr .str (.sl .str)))))))))) (Int.toNat i) (dflt T_api_Ins)))
                    (.br (Nat.ble (((List.length out) + 1) * 40) limit)
                      (.br (v_ref1_Writes (List.getD (List.getD p.2 (Int.toNat t) (dflt (.sl (.pr (.int .i64) (.pr .bool (.pr (.int .i64) (.pr (.pr (.int .i64) (.pr (.int .i64) (.pr (.int .i64) (.int .i64)))) (.pr (.pr (.int .i64) (.pr (.int .i64) (.pr (.int .i64) (.int .i64)))) (.pr .str (.sl .str)))))))))) (Int.toNat i) (dflt T_api_Ins))).2
                        (.br (k_ref1_Locked (List.getD (List.getD p.2 (Int.toNat t) (dflt (.sl (.pr (.int .i64) (.pr .bool (.pr (.int .i64) (.pr (.pr (.int .i64) (.pr (.int .i64) (.pr (.int .i64) (.int .i64)))) (.pr (.pr (.int .i64) (.pr (.int .i64) (.pr (.int .i64) (.int .i64)))) (.pr .str (.sl .str)))))))))) (Int.toNat i) (dflt T_api_Ins)))
                          (.br (Nat.ble (((List.length (out ++ [(t, (i, ((0 : Int), ((v_ref1_Reads (List.getD (List.getD p.2 (Int.toNat t) (dflt (.sl (.pr (.int .i64) (.pr .bool (.pr (.int .i64) (.pr (.pr (.int .i64) (.pr (.int .i64) (.pr (.int .i64) (.int .i64)))) (.pr (.pr (.int .i64) (.pr (.int .i64) (.pr (.int .i64) (.int .i64)))) (.pr .str (.sl .str)))))))))) (Int.toNat i) (dflt T_api_Ins))).1.2.2.1, (false, (v_ref1_Locked (List.getD (List.getD p.2 (Int.toNat t) (dflt (.sl (.pr (.int .i64) (.pr .bool (.pr (.int .i64) (.pr (.pr (.int .i64) (.pr (.int .i64) (.pr (.int .i64) (.int .i64)))) (.pr (.pr (.int .i64) (.pr (.int .i64) (.pr (.int .i64) (.int .i64)))) (.pr .str (.sl .str)))))))))) (Int.toNat i) (dflt T_api_Ins))))))))])) + 1) * 40) limit)
                            (.jmp (.l12 (IntKind.i64.wrap (i + (1 : Int))) ((out ++ [(t, (i, ((0 : Int), ((v_ref1_Reads (List.getD (List.getD p.2 (Int.toNat t) (dflt (.sl (.pr (.int .i64) (.pr .bool (.pr (.int .i64) (.pr (.pr (.int .i64) (.pr (.int .i64) (.pr (.int .i64) (.int .i64)))) (.pr (.pr (.int .i64) (.pr (.int .i64) (.pr (.int .i64) (.int .i64)))) (.pr .str (.sl .str)))))))))) (Int.toNat i) (dflt T_api_Ins))).1.2.2.1, (false, (v_ref1_Locked (List.getD (List.getD p.2 (Int.toNat t) (dflt (.sl (.pr (.int .i64) (.pr .bool (.pr (.int .i64) (.pr (.pr (.int .i64) (.pr (.int .i64) (.pr (.int .i64) (.int .i64)))) (.pr (.pr (.int .i64) (.pr (.int .i64) (.pr (.int .i64) (.int .i64)))) (.pr .str (.sl .str)))))))))) (Int.toNat i) (dflt T_api_Ins))))))))]) ++ [(t, (i, ((1 : Int), ((v_ref1_Writes (List.getD (List.getD p.2 (Int.toNat t) (dflt (.sl (.pr (.int .i64) (.pr .bool (.pr (.int .i64) (.pr (.pr (.int .i64) (.pr (.int .i64) (.pr (.int .i64) (.int .i64)))) (.pr (.pr (.int .i64) (.pr (.int .i64) (.pr (.int .i64) (.int .i64)))) (.pr .str (.sl .str)))))))))) (Int.toNat i) (dflt T_api_Ins))).1.2.2.1, (true, (v_ref1_Locked (List.getD (List.getD p.2 (Int.toNat t) (dflt (.sl (.pr (.int .i64) (.pr .bool (.pr (.int .i64) (.pr (.pr (.int .i64) (.pr (.int .i64) (.pr (.int .i64) (.int .i64)))) (.pr (.pr (.int .i64) (.pr (.int .i64) (.pr (.int .i64) (.int .i64)))) (.pr .str (.sl .str)))))))))) (Int.toNat i) (dflt T_api_Ins))))))))]) t))
                          (.no))
                        (.no))
                      (.jmp (.l12 (IntKind.i64.wrap (i + (1 : Int))) (out ++ [(t, (i, ((0 : Int), ((v_ref1_Reads (List.getD (List.getD p.2 (Int.toNat t) (dflt (.sl (.pr (.int .i64) (.pr .bool (.pr (.int .i64) (.pr (.pr (.int .i64) (.pr (.int .i64) (.pr (.int .i64) (.int .i64)))) (.pr (.pr (.int .i64) (.pr (.int .i64) (.pr (.int .i64) (.int .i64)))) (.pr .str (.sl .str)))))))))) (Int.toNat i) (dflt T_api_Ins))).1.2.2.1, (false, (v_ref1_Locked (List.getD (List.getD p.2 (Int.toNat t) (dflt (.sl (.pr (.int .i64) (.pr .bool (.pr (.int .i64) (.pr (.pr (.int .i64) (.pr (.int .i64) (.pr (.int .i64) (.int .i64)))) (.pr (.pr (.int .i64) (.pr (.int .i64) (.pr (.int .i64) (.int .i64)))) (.pr .str (.sl .str)))))))))) (Int.toNat i) (dflt T_api_Ins))))))))]) t)))
                    (.no))
                  (.no))
                (.br (v_ref1_Writes (List.getD (List.getD p.2 (Int.toNat t) (dflt (.sl (.pr (.int .i64) (.pr .bool (.pr (.int .i64) (.pr (.pr (.int .i64) (.pr (.int .i64) (.pr (.int .i64) (.int .i64)))) (.pr (.pr (.int .i64) (.pr (.int .i64) (.pr (.int .i64) (.int .i64)))) (.pr .str (.sl .str)))))))))) (Int.toNat i) (dflt T_api_Ins))).2
                  (.br (k_ref1_Locked (List.getD (List.getD p.2 (Int.toNat t) (dflt (.sl (.pr (.int .i64) (.pr .bool (.pr (.int .i64) (.pr (.pr (.int .i64) (.pr (.int .i64) (.pr (.int .i64) (.int .i64)))) (.pr (.pr (.int .i64) (.pr (.int .i64) (.pr (.int .i64) (.int .i64)))) (.pr .str (.sl .str)))))))))) (Int.toNat i) (dflt T_api_Ins)))
                    (.br (Nat.ble (((List.length out) + 1) * 40) limit)
                      (.jmp (.l12 (IntKind.i64.wrap (i + (1 : Int))) (out ++ [(t, (i, ((0 : Int), ((v_ref1_Writes (List.getD (List.getD p.2 (Int.toNat t) (dflt (.sl (.pr (.int .i64) (.pr .bool (.pr (.int .i64) (.pr (.pr (.int .i64) (.pr (.int .i64) (.pr (.int .i64) (.int .i64)))) (.pr (.pr (.int .i64) (.pr (.int .i64) (.pr (.int .i64) (.int .i64)))) (.pr .str (.sl .str)))))))))) (Int.toNat i) (dflt T_api_Ins))).1.2.2.1, (true, (v_ref1_Locked (List.getD (List.getD p.2 (Int.toNat t) (dflt (.sl (.pr (.int .i64) (.pr .bool (.pr (.int .i64) (.pr (.pr (.int .i64) (.pr (.int .i64) (.pr (.int .i64) (.int .i64)))) (.pr (.pr (.int .i64) (.pr (.int .i64) (.pr (.int .i64) (.int .i64)))) (.pr .str (.sl .str)))))))))) (Int.toNat i) (dflt T_api_Ins))))))))]) t))
                    (.no))
                  (.no))
                (.jmp (.l12 (IntKind.i64.wrap (i + (1 : Int))) out t))))
              (.no))
            (.no))
          (.no))
        (.no))
      (.jmp (.l7 (IntKind.i64.wrap (t + (1 : Int))) out)))
    (.no)
def T0_ref3_Accesses (p : El T_api_Prog) : JT J_ref3_Accesses (List (El T_api_Access)) :=
  .br (k_ref1_Check p)
    (.br ((v_ref1_Check p) != (0 : Int))
      (.leaf [])
    (.jmp (.l7 (0 : Int) [])))
  (.no)
def R_ref3_Accesses : List (El T_api_Access) → AV := fun (r : List (El T_api_Access)) => .rw 49 T_api_Access r
def S_ref3_Accesses (p : El T_api_Prog) : J_ref3_Accesses → Nat × St
  | .l7 t out => (7, ⟨mkTm 76 [(1, .pt 2 0 0), (3, .own 4 0 none), (4, .d (.int .i64) t)], [(2, 0, .box 25 [.d (.sl T_api_Sym) p.1, .d (.sl (.sl T_api_Ins)) p.2] none), (4, 0, .row 49 T_api_Access out false)]⟩)
  | .l12 i out t => (12, ⟨mkTm 76 [(1, .pt 2 0 0), (3, .own 4 0 none), (4, .d (.int .i64) t), (5, .d (.int .i64) i)], [(2, 0, .box 25 [.d (.sl T_api_Sym) p.1, .d (.sl (.sl T_api_Ins)) p.2] none), (4, 0, .row 49 T_api_Access out false)]⟩)
theorem en_ref3_Accesses (p : El T_api_Prog) (L : Lt) : entryA Go.Proofs.Tryd.prog (clOf t_ref3_Accesses) tb_ref3_Accesses Go.Proofs.Tryd.f15 c_ref3_Accesses L (toForms sg_ref3_Accesses (p, ())) = (T0_ref3_Accesses p).run (fun v => some (R_ref3_Accesses v, tps (toForms sg_ref3_Accesses (p, ())))) fun j => L (S_ref3_Accesses p j).1 (S_ref3_Accesses p j).2 := by kernel_rfl
theorem lp_ref3_Accesses (p : El T_api_Prog) : ∀ (L : Lt) (j : J_ref3_Accesses), procOf (procsF Go.Proofs.Tryd.prog (clOf t_ref3_Accesses) tb_ref3_Accesses Go.Proofs.Tryd.f15 c_ref3_Accesses (toForms sg_ref3_Accesses (p, ()))) (S_ref3_Accesses p j).1 L (S_ref3_Accesses p j).2 = (T_ref3_Accesses p j).run (fun v => some (R_ref3_Accesses v, tps (toForms sg_ref3_Accesses (p, ())))) fun j => L (S_ref3_Accesses p j).1 (S_ref3_Accesses p j).2
  | L, .l7 t out => by kernel_rfl
  | L, .l12 i out t => by kernel_rfl
end Go.Ev
end

section
set_option linter.unusedSectionVars false
set_option linter.unusedVariables false
set_option linter.unusedSimpArgs false
set_option linter.unusedVariables false
set_option linter.unusedSimpArgs false
open Go
namespace Go.Ev
def v_ref3_Accesses (p : El T_api_Prog) : List (El T_api_Access) := ofC p
def k_ref3_Accesses (p : El T_api_Prog) : Bool := smallAll p
theorem g_ref3_Accesses (p : El T_api_Prog) (hk : k_ref3_Accesses p = true) : Goes (T_ref3_Accesses p) (T0_ref3_Accesses p) (v_ref3_Accesses p) := by
  have hA := smallA hk
  obtain ⟨sy, th⟩ := p
  have hkc : k_ref1_Check (sy, th) = true := hA.prog
  have hlen : th.length < 1073741824 := hA.len
  have htot : total th < 1073741824 := hA.tot
  have main : ∀ k, k ≤ th.length → ∀ out : List (El T_api_Access), out.length + 2 * total (th.drop k) < 4294967296 → Goes (T_ref3_Accesses (sy, th)) (.jmp (.l7 (k : Int) out)) (out ++ accP k (th.drop k)) := by
    refine down ?_ fun k hk ih => ?_
    · intro out ho
      rw [goes_jmp]
      simp only [T_ref3_Accesses, goes_br, lt_len_not (Nat.lt_irrefl _), goes_leaf, List.drop_length]
      simp [accP]
    · intro out ho
      rw [total_drop hk] at ho
      have hS := smallT (hA.thr _ (List.getElem_mem hk))
      rw [goes_jmp]
      simp only [T_ref3_Accesses, goes_br, lt_len hk, if_true]
      rw [drop_cons hk]
      unfold accP
      obtain ⟨x, hx0⟩ : ∃ x, th[k] = x := ⟨_, rfl⟩
      rw [hx0] at ho hS ⊢
      have inner : ∀ j, j ≤ List.length x → ∀ out : List (El T_api_Access), out.length + 2 * (List.length x - j) + 2 * total (th.drop (k + 1)) < 4294967296 → Goes (T_ref3_Accesses (sy, th)) (.jmp (.l12 (j : Int) out (k : Int))) (out ++ (accT k j (List.drop j x) ++ accP (k + 1) (th.drop (k + 1)))) := by
        refine down ?_ fun j hj ihj => ?_
        · intro out ho
          rw [goes_jmp]
          simp only [T_ref3_Accesses, goes_br, lt_len hk, nng, Bool.and_self, if_true, Int.toNat_natCast, getD_lt hk, hx0, lt_len_not (Nat.lt_irrefl _), wrap_succ (k := k) (by omega), List.drop_length]
          have := ih out (by omega)
          simpa [accT] using this
        · intro out ho
          have hto := hS.to _ (List.getElem_mem hj)
          obtain ⟨a1, a2, a4⟩ := k_refR hto
          have hx : List.length x < 1099511627776 := hS.len
          rw [goes_jmp]
          have b1 : Nat.ble ((out.length + 1) * 40) limit = true := ble40 (by omega)
          have b2 : ∀ y : El T_api_Access, Nat.ble (((out ++ [y]).length + 1) * 40) limit = true := fun y => ble40 (by rw [List.length_append]; simp; omega)
          simp only [T_ref3_Accesses, goes_br, lt_len hk, getD_lt hk, hx0, lt_len hj, nng, Bool.and_self, if_true, Int.toNat_natCast, getD_lt hj, wrap_succ (k := j) (by omega), a1, a2, a4, b1, b2, reads_eq hto, writes_eq hto, locked_eq hto]
          rw [drop_cons hj]
          unfold accT accI
          have hs : ∀ y : List (El T_api_Access), y.length ≤ 2 → Goes (T_ref3_Accesses (sy, th)) (.jmp (.l12 ((j + 1 : Nat) : Int) (out ++ y) (k : Int))) (out ++ ((y ++ accT k (j + 1) (List.drop (j + 1) x)) ++ accP (k + 1) (th.drop (k + 1)))) := fun y hy => by
            have := ihj (out ++ y) (by rw [List.length_append]; omega)
            rw [List.append_assoc] at this
            rw [List.append_assoc]
            exact this
          by_cases hr : (v_ins_Reads x[j]).2 = true <;> by_cases hw : (v_ins_Writes x[j]).2 = true
          · simp only [hr, hw, if_true]
            rw [List.append_assoc out]
            exact hs _ (by simp)
          · simp only [hr, hw, if_true, if_false]
            exact hs _ (by simp)
          · simp only [hr, hw, if_true, if_false]
            exact hs _ (by simp)
          · simp only [hr, hw, if_false]
            have := hs [] (by simp)
            rw [List.append_nil] at this
            exact this
      exact inner 0 (Nat.zero_le _) out (by omega)
  unfold T0_ref3_Accesses v_ref3_Accesses ofC
  simp only [goes_br, hkc, if_true, v_ref1_Check]
  by_cases h : checkC (sy, th) = 0
  · rw [if_neg (by simp [h]), if_pos h]
    have := main 0 (Nat.zero_le _) [] (by simp; omega)
    simpa using this
  · rw [if_pos (by simp [h]), if_neg h]
    exact .leaf
end Go.Ev
end

section
set_option linter.unusedSectionVars false
set_option linter.unusedVariables false
set_option linter.unusedSimpArgs false
set_option maxRecDepth 100000
set_option linter.unusedVariables false
open Go Go.Ev
namespace Go.Ev
noncomputable def e_ref3_Accesses : Run := entG sg_ref3_Accesses R_ref3_Accesses (fun a => k_ref3_Accesses a.1) (fun a => v_ref3_Accesses a.1)
theorem ok_ref3_Accesses : EntOK Go.Proofs.Tryd.prog 15 e_ref3_Accesses := entG_ok (tb := tb_ref3_Accesses) (c := c_ref3_Accesses) tk_ref3_Accesses (by kernel_rfl) (by kernel_rfl) (by kernel_rfl) (fun a => by kernel_rfl) fun ⟨p, _⟩ hk => evF_goes (c := c_ref3_Accesses) (K := fun v => (R_ref3_Accesses v, tps (toForms sg_ref3_Accesses (p, ())))) (S := S_ref3_Accesses p) (by kernel_rfl) (en_ref3_Accesses p) (lp_ref3_Accesses p) (g_ref3_Accesses p hk)
end Go.Ev
end

section
set_option linter.unusedSectionVars false
set_option linter.unusedVariables false
set_option linter.unusedSimpArgs false
set_option maxRecDepth 100000
set_option linter.unusedVariables false
open Go Go.Ev
namespace Go.Ev
/-! ### paling/palingref3.side -/
def sg_ref3_side : Sig := [(true, T_api_Prog), (false, (.int .i64)), (false, .bool)]
noncomputable def t_ref3_side : Tbl := [(15, e_ref3_Accesses)]
theorem tk_ref3_side : ∀ p ∈ t_ref3_side, EntOK Go.Proofs.Tryd.prog p.1 p.2 := tbl_cons ok_ref3_Accesses (tbl_nil)
noncomputable def c_ref3_side : Code := Go.Proofs.Tryd.f42.body.getD .skip
def tb_ref3_side : Tb := [(5, ⟨[1, 2, 7, 8, 9], [(9, 64)]⟩)]
inductive J_ref3_side where
  | l5 (i : Int) (out : List Int)
def T_ref3_side (p : El T_api_Prog) (t : Int) (write : Bool) : J_ref3_side → JT J_ref3_side (List Int)
  | .l5 i out =>
    .br (decide (i < (Int.ofNat (List.length (v_ref3_Accesses p)))))
      (.br ((decide ((0 : Int) ≤ i)) && (decide (i < (Int.ofNat (List.length (v_ref3_Accesses p))))))
        (.br ((List.getD (v_ref3_Accesses p) (Int.toNat i) (dflt T_api_Access)).1 == t)
          (.br ((decide ((0 : Int) ≤ i)) && (decide (i < (Int.ofNat (List.length (v_ref3_Accesses p))))))
            (.br ((List.getD (v_ref3_Accesses p) (Int.toNat i) (dflt T_api_Access)).2.2.2.2.1 == write)
              (.br ((decide ((0 : Int) ≤ i)) && (decide (i < (Int.ofNat (List.length (v_ref3_Accesses p))))))
                (.br (! (List.getD (v_ref3_Accesses p) (Int.toNat i) (dflt T_api_Access)).2.2.2.2.2)
                  (.br ((decide ((0 : Int) ≤ i)) && (decide (i < (Int.ofNat (List.length (v_ref3_Accesses p))))))
                    (.br (Nat.ble (((List.length out) + 1) * 8) limit)
                      (.jmp (.l5 (IntKind.i64.wrap (i + (1 : Int))) (out ++ [(List.getD (v_ref3_Accesses p) (Int.toNat i) (dflt T_api_Access)).2.1])))
                    (.no))
                  (.no))
                (.jmp (.l5 (IntKind.i64.wrap (i + (1 : Int))) out)))
              (.no))
            (.jmp (.l5 (IntKind.i64.wrap (i + (1 : Int))) out)))
          (.no))
        (.jmp (.l5 (IntKind.i64.wrap (i + (1 : Int))) out)))
      (.no))
    (.leaf out)
def T0_ref3_side (p : El T_api_Prog) (t : Int) (write : Bool) : JT J_ref3_side (List Int) :=
  .br (k_ref3_Accesses p)
    (.jmp (.l5 (0 : Int) []))
  (.no)
def R_ref3_side : List Int → AV := fun (r : List Int) => .rw 3 (.int .i64) r
def S_ref3_side (p : El T_api_Prog) (t : Int) (write : Bool) : J_ref3_side → Nat × St
  | .l5 i out => (5, ⟨mkTm 51 [(1, .d (.int .i64) t), (2, .d .bool write), (7, .own 8 0 none), (8, .own 9 0 none), (9, .d (.int .i64) i)], [(8, 0, .row 49 T_api_Access (v_ref3_Accesses p) false), (9, 0, .row 3 (.int .i64) out false)]⟩)
theorem en_ref3_side (p : El T_api_Prog) (t : Int) (write : Bool) (L : Lt) : entryA Go.Proofs.Tryd.prog (clOf t_ref3_side) tb_ref3_side Go.Proofs.Tryd.f42 c_ref3_side L (toForms sg_ref3_side (p, t, write, ())) = (T0_ref3_side p t write).run (fun v => some (R_ref3_side v, tps (toForms sg_ref3_side (p, t, write, ())))) fun j => L (S_ref3_side p t write j).1 (S_ref3_side p t write j).2 := by kernel_rfl
theorem lp_ref3_side (p : El T_api_Prog) (t : Int) (write : Bool) : ∀ (L : Lt) (j : J_ref3_side), procOf (procsF Go.Proofs.Tryd.prog (clOf t_ref3_side) tb_ref3_side Go.Proofs.Tryd.f42 c_ref3_side (toForms sg_ref3_side (p, t, write, ()))) (S_ref3_side p t write j).1 L (S_ref3_side p t write j).2 = (T_ref3_side p t write j).run (fun v => some (R_ref3_side v, tps (toForms sg_ref3_side (p, t, write, ())))) fun j => L (S_ref3_side p t write j).1 (S_ref3_side p t write j).2
  | L, .l5 i out => by kernel_rfl
end Go.Ev
end

section
set_option linter.unusedSectionVars false
set_option linter.unusedVariables false
set_option linter.unusedSimpArgs false
set_option linter.unusedVariables false
set_option linter.unusedSimpArgs false
open Go
namespace Go.Ev
def v_ref3_side (p : El T_api_Prog) (t : Int) (write : Bool) : List Int := sideC p t write
def k_ref3_side (p : El T_api_Prog) (t : Int) (write : Bool) : Bool := smallAll p
theorem g_ref3_side (p : El T_api_Prog) (t : Int) (write : Bool) (hk : k_ref3_side p t write = true) : Goes (T_ref3_side p t write) (T0_ref3_side p t write) (v_ref3_side p t write) := by
  have hl : (v_ref3_Accesses p).length < 2147483648 := ofC_len hk
  have hko : k_ref3_Accesses p = true := hk
  have loop : ∀ k, k ≤ (v_ref3_Accesses p).length → ∀ out : List Int, out.length ≤ k → Goes (T_ref3_side p t write) (.jmp (.l5 (k : Int) out)) (out ++ (((v_ref3_Accesses p).drop k).filter fun a => (show Int from a.1) == t && ((show Bool from a.2.2.2.2.1) == write && ! (show Bool from a.2.2.2.2.2))).map fun a => a.2.1) := by
    refine down ?_ fun k hk ih => ?_
    · intro out ho
      rw [goes_jmp]
      simp only [T_ref3_side, goes_br, lt_len_not (Nat.lt_irrefl _), goes_leaf, List.drop_length]
      simp
    · intro out ho
      rw [goes_jmp]
      have b1 : Nat.ble ((out.length + 1) * 8) limit = true := ble8 (by omega)
      simp only [T_ref3_side, goes_br, lt_len hk, nng, Bool.and_self, if_true, Int.toNat_natCast, getD_lt hk, wrap_succ (k := k) (by omega), b1]
      rw [drop_cons hk, List.filter_cons]
      generalize (v_ref3_Accesses p)[k] = a
      obtain ⟨ath, ains, apart_, asym, awr, alk⟩ := a
      dsimp only
      have h0 := ih out (by omega)
      have h1 := ih (out ++ [ains]) (by rw [List.length_append]; simp; omega)
      rw [List.append_assoc] at h1
      cases e1 : ((show Int from ath) == t) <;> cases e2 : ((show Bool from awr) == write) <;> cases alk <;> simp_all
  unfold T0_ref3_side v_ref3_side sideC
  simp only [goes_br, hko, if_true]
  have := loop 0 (Nat.zero_le _) [] (Nat.le_refl _)
  rw [List.drop_zero, List.nil_append] at this
  exact this
end Go.Ev
end

section
set_option linter.unusedSectionVars false
set_option linter.unusedVariables false
set_option linter.unusedSimpArgs false
set_option maxRecDepth 100000
set_option linter.unusedVariables false
open Go Go.Ev
namespace Go.Ev
noncomputable def e_ref3_side : Run := entG sg_ref3_side R_ref3_side (fun a => k_ref3_side a.1 a.2.1 a.2.2.1) (fun a => v_ref3_side a.1 a.2.1 a.2.2.1)
theorem ok_ref3_side : EntOK Go.Proofs.Tryd.prog 42 e_ref3_side := entG_ok (tb := tb_ref3_side) (c := c_ref3_side) tk_ref3_side (by kernel_rfl) (by kernel_rfl) (by kernel_rfl) (fun a => by kernel_rfl) fun ⟨p, t, write, _⟩ hk => evF_goes (c := c_ref3_side) (K := fun v => (R_ref3_side v, tps (toForms sg_ref3_side (p, t, write, ())))) (S := S_ref3_side p t write) (by kernel_rfl) (en_ref3_side p t write) (lp_ref3_side p t write) (g_ref3_side p t write hk)
end Go.Ev
end

section
set_option linter.unusedSectionVars false
set_option linter.unusedVariables false
set_option linter.unusedSimpArgs false
set_option maxRecDepth 100000
set_option linter.unusedVariables false
open Go Go.Ev
namespace Go.Ev
/-! ### paling/palingref3.Stores -/
def sg_ref3_Stores : Sig := [(true, T_api_Prog), (false, (.int .i64))]
noncomputable def t_ref3_Stores : Tbl := [(42, e_ref3_side)]
theorem tk_ref3_Stores : ∀ p ∈ t_ref3_Stores, EntOK Go.Proofs.Tryd.prog p.1 p.2 := tbl_cons ok_ref3_side (tbl_nil)
noncomputable def c_ref3_Stores : Code := Go.Proofs.Tryd.f18.body.getD .skip
def tb_ref3_Stores : Tb := []
def T_ref3_Stores (p : El T_api_Prog) (t : Int) : Empty → JT Empty (List Int) := fun j => nomatch j
def T0_ref3_Stores (p : El T_api_Prog) (t : Int) : JT Empty (List Int) :=
  .br (k_ref3_side p t true)
    (.leaf (v_ref3_side p t true))
  (.no)
def v_ref3_Stores (p : El T_api_Prog) (t : Int) : List Int :=
  bif (k_ref3_side p t true) then
    (v_ref3_side p t true)
  else []
def k_ref3_Stores (p : El T_api_Prog) (t : Int) : Bool :=
  bif (k_ref3_side p t true) then
    true
  else false
theorem g_ref3_Stores (p : El T_api_Prog) (t : Int) (hk : k_ref3_Stores p t = true) : Goes (T_ref3_Stores p t) (T0_ref3_Stores p t) (v_ref3_Stores p t) :=
  Goes.brk hk (fun hk =>
    Goes.leaf) (fun hk =>
    Goes.nok hk)
def R_ref3_Stores : List Int → AV := fun (r : List Int) => .rw 3 (.int .i64) r
def S_ref3_Stores (p : El T_api_Prog) (t : Int) : Empty → Nat × St := fun j => nomatch j
theorem en_ref3_Stores (p : El T_api_Prog) (t : Int) (L : Lt) : entryA Go.Proofs.Tryd.prog (clOf t_ref3_Stores) tb_ref3_Stores Go.Proofs.Tryd.f18 c_ref3_Stores L (toForms sg_ref3_Stores (p, t, ())) = (T0_ref3_Stores p t).run (fun v => some (R_ref3_Stores v, tps (toForms sg_ref3_Stores (p, t, ())))) fun j => L (S_ref3_Stores p t j).1 (S_ref3_Stores p t j).2 := by kernel_rfl
theorem lp_ref3_Stores (p : El T_api_Prog) (t : Int) : ∀ (L : Lt) (j : Empty), procOf (procsF Go.Proofs.Tryd.prog (clOf t_ref3_Stores) tb_ref3_Stores Go.Proofs.Tryd.f18 c_ref3_Stores (toForms sg_ref3_Stores (p, t, ()))) (S_ref3_Stores p t j).1 L (S_ref3_Stores p t j).2 = (T_ref3_Stores p t j).run (fun v => some (R_ref3_Stores v, tps (toForms sg_ref3_Stores (p, t, ())))) fun j => L (S_ref3_Stores p t j).1 (S_ref3_Stores p t j).2 := fun L j => nomatch j
noncomputable def e_ref3_Stores : Run := entG sg_ref3_Stores R_ref3_Stores (fun a => k_ref3_Stores a.1 a.2.1) (fun a => v_ref3_Stores a.1 a.2.1)
theorem ok_ref3_Stores : EntOK Go.Proofs.Tryd.prog 18 e_ref3_Stores := entG_ok (tb := tb_ref3_Stores) (c := c_ref3_Stores) tk_ref3_Stores (by kernel_rfl) (by kernel_rfl) (by kernel_rfl) (fun a => by kernel_rfl) fun ⟨p, t, _⟩ hk => evF_goes (c := c_ref3_Stores) (K := fun v => (R_ref3_Stores v, tps (toForms sg_ref3_Stores (p, t, ())))) (S := S_ref3_Stores p t) (by kernel_rfl) (en_ref3_Stores p t) (lp_ref3_Stores p t) (g_ref3_Stores p t hk)
end Go.Ev
end

section
set_option linter.unusedSectionVars false
set_option linter.unusedVariables false
set_option linter.unusedSimpArgs false
set_option maxRecDepth 100000
set_option linter.unusedVariables false
open Go Go.Ev
namespace Go.Ev
/-! ### paling/palingref3.Loads -/
def sg_ref3_Loads : Sig := [(true, T_api_Prog), (false, (.int .i64))]
noncomputable def t_ref3_Loads : Tbl := [(42, e_ref3_side)]
theorem tk_ref3_Loads : ∀ p ∈ t_ref3_Loads, EntOK Go.Proofs.Tryd.prog p.1 p.2 := tbl_cons ok_ref3_side (tbl_nil)
noncomputable def c_ref3_Loads : Code := Go.Proofs.Tryd.f20.body.getD .skip
def tb_ref3_Loads : Tb := []
def T_ref3_Loads (p : El T_api_Prog) (t : Int) : Empty → JT Empty (List Int) := fun j => nomatch j
def T0_ref3_Loads (p : El T_api_Prog) (t : Int) : JT Empty (List Int) :=
  .br (k_ref3_side p t false)
    (.leaf (v_ref3_side p t false))
  (.no)
def v_ref3_Loads (p : El T_api_Prog) (t : Int) : List Int :=
  bif (k_ref3_side p t false) then
    (v_ref3_side p t false)
  else []
def k_ref3_Loads (p : El T_api_Prog) (t : Int) : Bool :=
  bif (k_ref3_side p t false) then
    true
  else false
theorem g_ref3_Loads (p : El T_api_Prog) (t : Int) (hk : k_ref3_Loads p t = true) : Goes (T_ref3_Loads p t) (T0_ref3_Loads p t) (v_ref3_Loads p t) :=
  Goes.brk hk (fun hk =>
    Goes.leaf) (fun hk =>
    Goes.nok hk)
def R_ref3_Loads : List Int → AV := fun (r : List Int) => .rw 3 (.int .i64) r
def S_ref3_Loads (p : El T_api_Prog) (t : Int) : Empty → Nat × St := fun j => nomatch j
theorem en_ref3_Loads (p : El T_api_Prog) (t : Int) (L : Lt) : entryA Go.Proofs.Tryd.prog (clOf t_ref3_Loads) tb_ref3_Loads Go.Proofs.Tryd.f20 c_ref3_Loads L (toForms sg_ref3_Loads (p, t, ())) = (T0_ref3_Loads p t).run (fun v => some (R_ref3_Loads v, tps (toForms sg_ref3_Loads (p, t, ())))) fun j => L (S_ref3_Loads p t j).1 (S_ref3_Loads p t j).2 := by kernel_rfl
theorem lp_ref3_Loads (p : El T_api_Prog) (t : Int) : ∀ (L : Lt) (j : Empty), procOf (procsF Go.Proofs.Tryd.prog (clOf t_ref3_Loads) tb_ref3_Loads Go.Proofs.Tryd.f20 c_ref3_Loads (toForms sg_ref3_Loads (p, t, ()))) (S_ref3_Loads p t j).1 L (S_ref3_Loads p t j).2 = (T_ref3_Loads p t j).run (fun v => some (R_ref3_Loads v, tps (toForms sg_ref3_Loads (p, t, ())))) fun j => L (S_ref3_Loads p t j).1 (S_ref3_Loads p t j).2 := fun L j => nomatch j
noncomputable def e_ref3_Loads : Run := entG sg_ref3_Loads R_ref3_Loads (fun a => k_ref3_Loads a.1 a.2.1) (fun a => v_ref3_Loads a.1 a.2.1)
theorem ok_ref3_Loads : EntOK Go.Proofs.Tryd.prog 20 e_ref3_Loads := entG_ok (tb := tb_ref3_Loads) (c := c_ref3_Loads) tk_ref3_Loads (by kernel_rfl) (by kernel_rfl) (by kernel_rfl) (fun a => by kernel_rfl) fun ⟨p, t, _⟩ hk => evF_goes (c := c_ref3_Loads) (K := fun v => (R_ref3_Loads v, tps (toForms sg_ref3_Loads (p, t, ())))) (S := S_ref3_Loads p t) (by kernel_rfl) (en_ref3_Loads p t) (lp_ref3_Loads p t) (g_ref3_Loads p t hk)
end Go.Ev
end

section
set_option linter.unusedSectionVars false
set_option linter.unusedVariables false
set_option linter.unusedSimpArgs false
set_option maxRecDepth 100000
set_option linter.unusedVariables false
open Go Go.Ev
namespace Go.Ev
/-! ### paling/palingbook.SameInts -/
def sg_book_SameInts : Sig := [(false, (.sl (.int .i64))), (false, (.sl (.int .i64)))]
noncomputable def t_book_SameInts : Tbl := []
theorem tk_book_SameInts : ∀ p ∈ t_book_SameInts, EntOK Go.Proofs.Tryd.prog p.1 p.2 := tbl_nil
noncomputable def c_book_SameInts : Code := Go.Proofs.Tryd.f16.body.getD .skip
def tb_book_SameInts : Tb := [(6, ⟨[0, 1, 5], []⟩)]
inductive J_book_SameInts where
  | l6 (i : Int)
def T_book_SameInts (a : List Int) (b : List Int) : J_book_SameInts → JT J_book_SameInts (Bool)
  | .l6 i =>
    .br (decide (i < (Int.ofNat (List.length a))))
      (.br ((decide ((0 : Int) ≤ i)) && (decide (i < (Int.ofNat (List.length a)))))
        (.br ((decide ((0 : Int) ≤ i)) && (decide (i < (Int.ofNat (List.length b)))))
          (.br ((List.getD a (Int.toNat i) (dflt (.int .i64))) != (List.getD b (Int.toNat i) (dflt (.int .i64))))
            (.leaf false)
          (.jmp (.l6 (IntKind.i64.wrap (i + (1 : Int))))))
        (.no))
      (.no))
    (.leaf true)
def T0_book_SameInts (a : List Int) (b : List Int) : JT J_book_SameInts (Bool) :=
  .br ((Int.ofNat (List.length a)) != (Int.ofNat (List.length b)))
    (.leaf false)
  (.jmp (.l6 (0 : Int)))
def R_book_SameInts : Bool → AV := fun (r : Bool) => .d .bool r
def S_book_SameInts (a : List Int) (b : List Int) : J_book_SameInts → Nat × St
  | .l6 i => (6, ⟨mkTm 26 [(0, .d (.sl (.int .i64)) a), (1, .d (.sl (.int .i64)) b), (5, .d (.int .i64) i)], []⟩)
theorem en_book_SameInts (a : List Int) (b : List Int) (L : Lt) : entryA Go.Proofs.Tryd.prog (clOf t_book_SameInts) tb_book_SameInts Go.Proofs.Tryd.f16 c_book_SameInts L (toForms sg_book_SameInts (a, b, ())) = (T0_book_SameInts a b).run (fun v => some (R_book_SameInts v, tps (toForms sg_book_SameInts (a, b, ())))) fun j => L (S_book_SameInts a b j).1 (S_book_SameInts a b j).2 := by kernel_rfl
theorem lp_book_SameInts (a : List Int) (b : List Int) : ∀ (L : Lt) (j : J_book_SameInts), procOf (procsF Go.Proofs.Tryd.prog (clOf t_book_SameInts) tb_book_SameInts Go.Proofs.Tryd.f16 c_book_SameInts (toForms sg_book_SameInts (a, b, ()))) (S_book_SameInts a b j).1 L (S_book_SameInts a b j).2 = (T_book_SameInts a b j).run (fun v => some (R_book_SameInts v, tps (toForms sg_book_SameInts (a, b, ())))) fun j => L (S_book_SameInts a b j).1 (S_book_SameInts a b j).2
  | L, .l6 i => by kernel_rfl
end Go.Ev
end

section
set_option linter.unusedSectionVars false
set_option linter.unusedVariables false
set_option linter.unusedSimpArgs false
set_option linter.unusedVariables false
set_option linter.unusedSimpArgs false
open Go
namespace Go.Ev
theorem intB_eq {a b : Int} : (a == b) = decide (a = b) := by rw [Bool.eq_iff_iff]; simp

def v_book_SameInts (a b : List Int) : Bool := decide (a = b)
def k_book_SameInts (a b : List Int) : Bool := decide (a.length < 4611686018427387904)
theorem g_book_SameInts (a b : List Int) (hk : k_book_SameInts a b = true) : Goes (T_book_SameInts a b) (T0_book_SameInts a b) (v_book_SameInts a b) := by
  have hn : a.length < 4611686018427387904 := of_decide_eq_true hk
  have loop : a.length = b.length → ∀ k, k ≤ a.length → Goes (T_book_SameInts a b) (.jmp (.l6 (k : Int))) (decide (a.drop k = b.drop k)) := by
    intro he
    refine down ?_ fun k hk ih => ?_
    · rw [goes_jmp]
      simp [T_book_SameInts, goes_br, goes_leaf, he]
    · rw [goes_jmp]
      have hkb : k < b.length := he ▸ hk
      simp only [T_book_SameInts, goes_br, lt_len hk, lt_len hkb, nng, Bool.and_self, if_true, Int.toNat_natCast, getD_lt hk, getD_lt hkb, wrap_succ (k := k) (by omega)]
      rw [drop_cons hk, drop_cons hkb]
      split
      · rename_i h1
        have h2 : (! decide (a[k] = b[k])) = true := (congrArg Bool.not intB_eq).symm.trans h1
        have h3 : ¬ a[k] = b[k] := by simpa using h2
        rw [decide_eq_false (fun e => h3 (List.cons.inj e).1)]
        exact .leaf
      · rename_i h1
        have h2 : ¬ (! decide (a[k] = b[k])) = true := fun h => h1 ((congrArg Bool.not intB_eq).trans h)
        have h3 : a[k] = b[k] := by simpa using h2
        rw [show decide (a[k] :: List.drop (k + 1) a = b[k] :: List.drop (k + 1) b) = decide (List.drop (k + 1) a = List.drop (k + 1) b) from decide_eq_decide.2 ⟨fun e => (List.cons.inj e).2, fun e => by rw [h3, e]⟩]
        exact ih
  unfold T0_book_SameInts v_book_SameInts
  rw [goes_br]
  by_cases h : a.length = b.length
  · have := loop h 0 (Nat.zero_le _)
    simpa [h] using this
  · have : a ≠ b := fun e => h (congrArg _ e)
    rw [if_pos (by simp; omega), decide_eq_false this]
    exact .leaf

end Go.Ev
end

section
set_option linter.unusedSectionVars false
set_option linter.unusedVariables false
set_option linter.unusedSimpArgs false
set_option maxRecDepth 100000
set_option linter.unusedVariables false
open Go Go.Ev
namespace Go.Ev
noncomputable def e_book_SameInts : Run := entG sg_book_SameInts R_book_SameInts (fun a => k_book_SameInts a.1 a.2.1) (fun a => v_book_SameInts a.1 a.2.1)
theorem ok_book_SameInts : EntOK Go.Proofs.Tryd.prog 16 e_book_SameInts := entG_ok (tb := tb_book_SameInts) (c := c_book_SameInts) tk_book_SameInts (by kernel_rfl) (by kernel_rfl) (by kernel_rfl) (fun a => by kernel_rfl) fun ⟨a, b, _⟩ hk => evF_goes (c := c_book_SameInts) (K := fun v => (R_book_SameInts v, tps (toForms sg_book_SameInts (a, b, ())))) (S := S_book_SameInts a b) (by kernel_rfl) (en_book_SameInts a b) (lp_book_SameInts a b) (g_book_SameInts a b hk)
end Go.Ev
end

section
set_option linter.unusedSectionVars false
set_option linter.unusedVariables false
set_option linter.unusedSimpArgs false
set_option maxRecDepth 100000
set_option linter.unusedVariables false
open Go Go.Ev
namespace Go.Ev
/-! ### paling/palingbook.SameAccesses -/
def sg_book_SameAccesses : Sig := [(false, (.sl T_api_Access)), (false, (.sl T_api_Access))]
noncomputable def t_book_SameAccesses : Tbl := []
theorem tk_book_SameAccesses : ∀ p ∈ t_book_SameAccesses, EntOK Go.Proofs.Tryd.prog p.1 p.2 := tbl_nil
noncomputable def c_book_SameAccesses : Code := Go.Proofs.Tryd.f13.body.getD .skip
def tb_book_SameAccesses : Tb := [(6, ⟨[0, 1, 5], []⟩)]
inductive J_book_SameAccesses where
  | l6 (i : Int)
def T_book_SameAccesses (a : List (El T_api_Access)) (b : List (El T_api_Access)) : J_book_SameAccesses → JT J_book_SameAccesses (Bool)
  | .l6 i =>
    .br (decide (i < (Int.ofNat (List.length a))))
      (.br ((decide ((0 : Int) ≤ i)) && (decide (i < (Int.ofNat (List.length a)))))
        (.br ((decide ((0 : Int) ≤ i)) && (decide (i < (Int.ofNat (List.length b)))))
          (.br (! (((List.getD a (Int.toNat i) (dflt T_api_Access)).1 == (List.getD b (Int.toNat i) (dflt T_api_Access)).1) && (((List.getD a (Int.toNat i) (dflt T_api_Access)).2.1 == (List.getD b (Int.toNat i) (dflt T_api_Access)).2.1) && (((List.getD a (Int.toNat i) (dflt T_api_Access)).2.2.1 == (List.getD b (Int.toNat i) (dflt T_api_Access)).2.2.1) && (((List.getD a (Int.toNat i) (dflt T_api_Access)).2.2.2.1 == (List.getD b (Int.toNat i) (dflt T_api_Access)).2.2.2.1) && (((List.getD a (Int.toNat i) (dflt T_api_Access)).2.2.2.2.1 == (List.getD b (Int.toNat i) (dflt T_api_Access)).2.2.2.2.1) && ((List.getD a (Int.toNat i) (dflt T_api_Access)).2.2.2.2.2 == (List.getD b (Int.toNat i) (dflt T_api_Access)).2.2.2.2.2)))))))
            (.leaf false)
          (.jmp (.l6 (IntKind.i64.wrap (i + (1 : Int))))))
        (.no))
      (.no))
    (.leaf true)
def T0_book_SameAccesses (a : List (El T_api_Access)) (b : List (El T_api_Access)) : JT J_book_SameAccesses (Bool) :=
  .br ((Int.ofNat (List.length a)) != (Int.ofNat (List.length b)))
    (.leaf false)
  (.jmp (.l6 (0 : Int)))
def R_book_SameAccesses : Bool → AV := fun (r : Bool) => .d .bool r
def S_book_SameAccesses (a : List (El T_api_Access)) (b : List (El T_api_Access)) : J_book_SameAccesses → Nat × St
  | .l6 i => (6, ⟨mkTm 26 [(0, .d (.sl T_api_Access) a), (1, .d (.sl T_api_Access) b), (5, .d (.int .i64) i)], []⟩)
theorem en_book_SameAccesses (a : List (El T_api_Access)) (b : List (El T_api_Access)) (L : Lt) : entryA Go.Proofs.Tryd.prog (clOf t_book_SameAccesses) tb_book_SameAccesses Go.Proofs.Tryd.f13 c_book_SameAccesses L (toForms sg_book_SameAccesses (a, b, ())) = (T0_book_SameAccesses a b).run (fun v => some (R_book_SameAccesses v, tps (toForms sg_book_SameAccesses (a, b, ())))) fun j => L (S_book_SameAccesses a b j).1 (S_book_SameAccesses a b j).2 := by kernel_rfl
theorem lp_book_SameAccesses (a : List (El T_api_Access)) (b : List (El T_api_Access)) : ∀ (L : Lt) (j : J_book_SameAccesses), procOf (procsF Go.Proofs.Tryd.prog (clOf t_book_SameAccesses) tb_book_SameAccesses Go.Proofs.Tryd.f13 c_book_SameAccesses (toForms sg_book_SameAccesses (a, b, ()))) (S_book_SameAccesses a b j).1 L (S_book_SameAccesses a b j).2 = (T_book_SameAccesses a b j).run (fun v => some (R_book_SameAccesses v, tps (toForms sg_book_SameAccesses (a, b, ())))) fun j => L (S_book_SameAccesses a b j).1 (S_book_SameAccesses a b j).2
  | L, .l6 i => by kernel_rfl
end Go.Ev
end

section
set_option linter.unusedSectionVars false
set_option linter.unusedVariables false
set_option linter.unusedSimpArgs false
set_option linter.unusedVariables false
set_option linter.unusedSimpArgs false
open Go
namespace Go.Ev
theorem accB_eq {a b : El T_api_Access} : (a.1 == b.1 && (a.2.1 == b.2.1 && (a.2.2.1 == b.2.2.1 && (a.2.2.2.1 == b.2.2.2.1 && (a.2.2.2.2.1 == b.2.2.2.2.1 && a.2.2.2.2.2 == b.2.2.2.2.2))))) = decide (a = b) := by
  obtain ⟨a1, a2, a3, a4, a5, a6⟩ := a
  obtain ⟨b1, b2, b3, b4, b5, b6⟩ := b
  rw [Bool.eq_iff_iff]
  simp

def v_book_SameAccesses (a b : List (El T_api_Access)) : Bool := decide (a = b)
def k_book_SameAccesses (a b : List (El T_api_Access)) : Bool := decide (a.length < 4611686018427387904)
theorem g_book_SameAccesses (a b : List (El T_api_Access)) (hk : k_book_SameAccesses a b = true) : Goes (T_book_SameAccesses a b) (T0_book_SameAccesses a b) (v_book_SameAccesses a b) := by
  have hn : a.length < 4611686018427387904 := of_decide_eq_true hk
  have loop : a.length = b.length → ∀ k, k ≤ a.length → Goes (T_book_SameAccesses a b) (.jmp (.l6 (k : Int))) (decide (a.drop k = b.drop k)) := by
    intro he
    refine down ?_ fun k hk ih => ?_
    · rw [goes_jmp]
      simp [T_book_SameAccesses, goes_br, goes_leaf, he]
    · rw [goes_jmp]
      have hkb : k < b.length := he ▸ hk
      simp only [T_book_SameAccesses, goes_br, lt_len hk, lt_len hkb, nng, Bool.and_self, if_true, Int.toNat_natCast, getD_lt hk, getD_lt hkb, wrap_succ (k := k) (by omega)]
      rw [drop_cons hk, drop_cons hkb]
      split
      · rename_i h1
        have h2 : (! decide (a[k] = b[k])) = true := (congrArg Bool.not accB_eq).symm.trans h1
        have h3 : ¬ a[k] = b[k] := by simpa using h2
        rw [decide_eq_false (fun e => h3 (List.cons.inj e).1)]
        exact .leaf
      · rename_i h1
        have h2 : ¬ (! decide (a[k] = b[k])) = true := fun h => h1 ((congrArg Bool.not accB_eq).trans h)
        have h3 : a[k] = b[k] := by simpa using h2
        rw [show decide (a[k] :: List.drop (k + 1) a = b[k] :: List.drop (k + 1) b) = decide (List.drop (k + 1) a = List.drop (k + 1) b) from decide_eq_decide.2 ⟨fun e => (List.cons.inj e).2, fun e => by rw [h3, e]⟩]
        exact ih
  unfold T0_book_SameAccesses v_book_SameAccesses
  rw [goes_br]
  by_cases h : a.length = b.length
  · have := loop h 0 (Nat.zero_le _)
    simpa [h] using this
  · have : a ≠ b := fun e => h (congrArg _ e)
    rw [if_pos (by simp; omega), decide_eq_false this]
    exact .leaf

end Go.Ev
end

section
set_option linter.unusedSectionVars false
set_option linter.unusedVariables false
set_option linter.unusedSimpArgs false
set_option maxRecDepth 100000
set_option linter.unusedVariables false
open Go Go.Ev
namespace Go.Ev
noncomputable def e_book_SameAccesses : Run := entG sg_book_SameAccesses R_book_SameAccesses (fun a => k_book_SameAccesses a.1 a.2.1) (fun a => v_book_SameAccesses a.1 a.2.1)
theorem ok_book_SameAccesses : EntOK Go.Proofs.Tryd.prog 13 e_book_SameAccesses := entG_ok (tb := tb_book_SameAccesses) (c := c_book_SameAccesses) tk_book_SameAccesses (by kernel_rfl) (by kernel_rfl) (by kernel_rfl) (fun a => by kernel_rfl) fun ⟨a, b, _⟩ hk => evF_goes (c := c_book_SameAccesses) (K := fun v => (R_book_SameAccesses v, tps (toForms sg_book_SameAccesses (a, b, ())))) (S := S_book_SameAccesses a b) (by kernel_rfl) (en_book_SameAccesses a b) (lp_book_SameAccesses a b) (g_book_SameAccesses a b hk)
end Go.Ev
end

section
set_option linter.unusedSectionVars false
set_option linter.unusedVariables false
set_option linter.unusedSimpArgs false
set_option maxRecDepth 100000
set_option linter.unusedVariables false
open Go Go.Ev
namespace Go.Ev
/-! ### paling/palinglaw22.alive -/
def sg_law22_alive : Sig := []
noncomputable def t_law22_alive : Tbl := [(14, e_touch_Of), (13, e_book_SameAccesses), (17, e_touch_Stores), (16, e_book_SameInts), (19, e_touch_Loads)]
theorem tk_law22_alive : ∀ p ∈ t_law22_alive, EntOK Go.Proofs.Tryd.prog p.1 p.2 := tbl_cons ok_touch_Of (tbl_cons ok_book_SameAccesses (tbl_cons ok_touch_Stores (tbl_cons ok_book_SameInts (tbl_cons ok_touch_Loads (tbl_nil)))))
noncomputable def c_law22_alive : Code := Go.Proofs.Tryd.f12.body.getD .skip
def tb_law22_alive : Tb := []
def T_law22_alive : Empty → JT Empty (Bool) := fun j => nomatch j
def T0_law22_alive : JT Empty (Bool) :=
  .br (k_touch_Of ([((bs [120]), ((1 : Int), []))], [[((2 : Int), (false, ((0 : Int), (((3 : Int), ((0 : Int), ((0 : Int), (0 : Int)))), (((2 : Int), ((0 : Int), ((0 : Int), (1 : Int)))), ((bs []), [])))))), ((14 : Int), (false, ((0 : Int), (((0 : Int), ((0 : Int), ((0 : Int), (0 : Int)))), (((0 : Int), ((0 : Int), ((0 : Int), (0 : Int)))), ((bs []), []))))))]]))
    (.br (k_book_SameAccesses (v_touch_Of ([((bs [120]), ((1 : Int), []))], [[((2 : Int), (false, ((0 : Int), (((3 : Int), ((0 : Int), ((0 : Int), (0 : Int)))), (((2 : Int), ((0 : Int), ((0 : Int), (1 : Int)))), ((bs []), [])))))), ((14 : Int), (false, ((0 : Int), (((0 : Int), ((0 : Int), ((0 : Int), (0 : Int)))), (((0 : Int), ((0 : Int), ((0 : Int), (0 : Int)))), ((bs []), []))))))]])) [((0 : Int), ((0 : Int), ((0 : Int), ((0 : Int), (false, false))))), ((0 : Int), ((0 : Int), ((1 : Int), ((0 : Int), (true, false)))))])
      (.br (v_book_SameAccesses (v_touch_Of ([((bs [120]), ((1 : Int), []))], [[((2 : Int), (false, ((0 : Int), (((3 : Int), ((0 : Int), ((0 : Int), (0 : Int)))), (((2 : Int), ((0 : Int), ((0 : Int), (1 : Int)))), ((bs []), [])))))), ((14 : Int), (false, ((0 : Int), (((0 : Int), ((0 : Int), ((0 : Int), (0 : Int)))), (((0 : Int), ((0 : Int), ((0 : Int), (0 : Int)))), ((bs []), []))))))]])) [((0 : Int), ((0 : Int), ((0 : Int), ((0 : Int), (false, false))))), ((0 : Int), ((0 : Int), ((1 : Int), ((0 : Int), (true, false)))))])
        (.br (k_touch_Stores ([((bs [120]), ((1 : Int), []))], [[((2 : Int), (false, ((0 : Int), (((3 : Int), ((0 : Int), ((0 : Int), (0 : Int)))), (((2 : Int), ((0 : Int), ((0 : Int), (1 : Int)))), ((bs []), [])))))), ((14 : Int), (false, ((0 : Int), (((0 : Int), ((0 : Int), ((0 : Int), (0 : Int)))), (((0 : Int), ((0 : Int), ((0 : Int), (0 : Int)))), ((bs []), []))))))]]) (0 : Int))
          (.br (k_book_SameInts (v_touch_Stores ([((bs [120]), ((1 : Int), []))], [[((2 : Int), (false, ((0 : Int), (((3 : Int), ((0 : Int), ((0 : Int), (0 : Int)))), (((2 : Int), ((0 : Int), ((0 : Int), (1 : Int)))), ((bs []), [])))))), ((14 : Int), (false, ((0 : Int), (((0 : Int), ((0 : Int), ((0 : Int), (0 : Int)))), (((0 : Int), ((0 : Int), ((0 : Int), (0 : Int)))), ((bs []), []))))))]]) (0 : Int)) [(0 : Int)])
            (.br (v_book_SameInts (v_touch_Stores ([((bs [120]), ((1 : Int), []))], [[((2 : Int), (false, ((0 : Int), (((3 : Int), ((0 : Int), ((0 : Int), (0 : Int)))), (((2 : Int), ((0 : Int), ((0 : Int), (1 : Int)))), ((bs []), [])))))), ((14 : Int), (false, ((0 : Int), (((0 : Int), ((0 : Int), ((0 : Int), (0 : Int)))), (((0 : Int), ((0 : Int), ((0 : Int), (0 : Int)))), ((bs []), []))))))]]) (0 : Int)) [(0 : Int)])
              (.br (k_touch_Loads ([((bs [120]), ((1 : Int), []))], [[((2 : Int), (false, ((0 : Int), (((3 : Int), ((0 : Int), ((0 : Int), (0 : Int)))), (((2 : Int), ((0 : Int), ((0 : Int), (1 : Int)))), ((bs []), [])))))), ((14 : Int), (false, ((0 : Int), (((0 : Int), ((0 : Int), ((0 : Int), (0 : Int)))), (((0 : Int), ((0 : Int), ((0 : Int), (0 : Int)))), ((bs []), []))))))]]) (0 : Int))
                (.br (k_book_SameInts (v_touch_Loads ([((bs [120]), ((1 : Int), []))], [[((2 : Int), (false, ((0 : Int), (((3 : Int), ((0 : Int), ((0 : Int), (0 : Int)))), (((2 : Int), ((0 : Int), ((0 : Int), (1 : Int)))), ((bs []), [])))))), ((14 : Int), (false, ((0 : Int), (((0 : Int), ((0 : Int), ((0 : Int), (0 : Int)))), (((0 : Int), ((0 : Int), ((0 : Int), (0 : Int)))), ((bs []), []))))))]]) (0 : Int)) [(0 : Int)])
                  (.br (v_book_SameInts (v_touch_Loads ([((bs [120]), ((1 : Int), []))], [[((2 : Int), (false, ((0 : Int), (((3 : Int), ((0 : Int), ((0 : Int), (0 : Int)))), (((2 : Int), ((0 : Int), ((0 : Int), (1 : Int)))), ((bs []), [])))))), ((14 : Int), (false, ((0 : Int), (((0 : Int), ((0 : Int), ((0 : Int), (0 : Int)))), (((0 : Int), ((0 : Int), ((0 : Int), (0 : Int)))), ((bs []), []))))))]]) (0 : Int)) [(0 : Int)])
                    (.br (k_touch_Loads ([((bs [120]), ((1 : Int), []))], [[((2 : Int), (false, ((0 : Int), (((3 : Int), ((0 : Int), ((0 : Int), (0 : Int)))), (((2 : Int), ((0 : Int), ((0 : Int), (1 : Int)))), ((bs []), [])))))), ((14 : Int), (false, ((0 : Int), (((0 : Int), ((0 : Int), ((0 : Int), (0 : Int)))), (((0 : Int), ((0 : Int), ((0 : Int), (0 : Int)))), ((bs []), []))))))]]) (1 : Int))
                      (.leaf ((Int.ofNat (List.length (v_touch_Loads ([((bs [120]), ((1 : Int), []))], [[((2 : Int), (false, ((0 : Int), (((3 : Int), ((0 : Int), ((0 : Int), (0 : Int)))), (((2 : Int), ((0 : Int), ((0 : Int), (1 : Int)))), ((bs []), [])))))), ((14 : Int), (false, ((0 : Int), (((0 : Int), ((0 : Int), ((0 : Int), (0 : Int)))), (((0 : Int), ((0 : Int), ((0 : Int), (0 : Int)))), ((bs []), []))))))]]) (1 : Int)))) == (0 : Int)))
                    (.no))
                  (.leaf false))
                (.no))
              (.no))
            (.leaf false))
          (.no))
        (.no))
      (.leaf false))
    (.no))
  (.no)
def v_law22_alive : Bool :=
  bif (k_touch_Of ([((bs [120]), ((1 : Int), []))], [[((2 : Int), (false, ((0 : Int), (((3 : Int), ((0 : Int), ((0 : Int), (0 : Int)))), (((2 : Int), ((0 : Int), ((0 : Int), (1 : Int)))), ((bs []), [])))))), ((14 : Int), (false, ((0 : Int), (((0 : Int), ((0 : Int), ((0 : Int), (0 : Int)))), (((0 : Int), ((0 : Int), ((0 : Int), (0 : Int)))), ((bs []), []))))))]])) then
    bif (k_book_SameAccesses (v_touch_Of ([((bs [120]), ((1 : Int), []))], [[((2 : Int), (false, ((0 : Int), (((3 : Int), ((0 : Int), ((0 : Int), (0 : Int)))), (((2 : Int), ((0 : Int), ((0 : Int), (1 : Int)))), ((bs []), [])))))), ((14 : Int), (false, ((0 : Int), (((0 : Int), ((0 : Int), ((0 : Int), (0 : Int)))), (((0 : Int), ((0 : Int), ((0 : Int), (0 : Int)))), ((bs []), []))))))]])) [((0 : Int), ((0 : Int), ((0 : Int), ((0 : Int), (false, false))))), ((0 : Int), ((0 : Int), ((1 : Int), ((0 : Int), (true, false)))))]) then
      bif (v_book_SameAccesses (v_touch_Of ([((bs [120]), ((1 : Int), []))], [[((2 : Int), (false, ((0 : Int), (((3 : Int), ((0 : Int), ((0 : Int), (0 : Int)))), (((2 : Int), ((0 : Int), ((0 : Int), (1 : Int)))), ((bs []), [])))))), ((14 : Int), (false, ((0 : Int), (((0 : Int), ((0 : Int), ((0 : Int), (0 : Int)))), (((0 : Int), ((0 : Int), ((0 : Int), (0 : Int)))), ((bs []), []))))))]])) [((0 : Int), ((0 : Int), ((0 : Int), ((0 : Int), (false, false))))), ((0 : Int), ((0 : Int), ((1 : Int), ((0 : Int), (true, false)))))]) then
        bif (k_touch_Stores ([((bs [120]), ((1 : Int), []))], [[((2 : Int), (false, ((0 : Int), (((3 : Int), ((0 : Int), ((0 : Int), (0 : Int)))), (((2 : Int), ((0 : Int), ((0 : Int), (1 : Int)))), ((bs []), [])))))), ((14 : Int), (false, ((0 : Int), (((0 : Int), ((0 : Int), ((0 : Int), (0 : Int)))), (((0 : Int), ((0 : Int), ((0 : Int), (0 : Int)))), ((bs []), []))))))]]) (0 : Int)) then
          bif (k_book_SameInts (v_touch_Stores ([((bs [120]), ((1 : Int), []))], [[((2 : Int), (false, ((0 : Int), (((3 : Int), ((0 : Int), ((0 : Int), (0 : Int)))), (((2 : Int), ((0 : Int), ((0 : Int), (1 : Int)))), ((bs []), [])))))), ((14 : Int), (false, ((0 : Int), (((0 : Int), ((0 : Int), ((0 : Int), (0 : Int)))), (((0 : Int), ((0 : Int), ((0 : Int), (0 : Int)))), ((bs []), []))))))]]) (0 : Int)) [(0 : Int)]) then
            bif (v_book_SameInts (v_touch_Stores ([((bs [120]), ((1 : Int), []))], [[((2 : Int), (false, ((0 : Int), (((3 : Int), ((0 : Int), ((0 : Int), (0 : Int)))), (((2 : Int), ((0 : Int), ((0 : Int), (1 : Int)))), ((bs []), [])))))), ((14 : Int), (false, ((0 : Int), (((0 : Int), ((0 : Int), ((0 : Int), (0 : Int)))), (((0 : Int), ((0 : Int), ((0 : Int), (0 : Int)))), ((bs []), []))))))]]) (0 : Int)) [(0 : Int)]) then
              bif (k_touch_Loads ([((bs [120]), ((1 : Int), []))], [[((2 : Int), (false, ((0 : Int), (((3 : Int), ((0 : Int), ((0 : Int), (0 : Int)))), (((2 : Int), ((0 : Int), ((0 : Int), (1 : Int)))), ((bs []), [])))))), ((14 : Int), (false, ((0 : Int), (((0 : Int), ((0 : Int), ((0 : Int), (0 : Int)))), (((0 : Int), ((0 : Int), ((0 : Int), (0 : Int)))), ((bs []), []))))))]]) (0 : Int)) then
                bif (k_book_SameInts (v_touch_Loads ([((bs [120]), ((1 : Int), []))], [[((2 : Int), (false, ((0 : Int), (((3 : Int), ((0 : Int), ((0 : Int), (0 : Int)))), (((2 : Int), ((0 : Int), ((0 : Int), (1 : Int)))), ((bs []), [])))))), ((14 : Int), (false, ((0 : Int), (((0 : Int), ((0 : Int), ((0 : Int), (0 : Int)))), (((0 : Int), ((0 : Int), ((0 : Int), (0 : Int)))), ((bs []), []))))))]]) (0 : Int)) [(0 : Int)]) then
                  bif (v_book_SameInts (v_touch_Loads ([((bs [120]), ((1 : Int), []))], [[((2 : Int), (false, ((0 : Int), (((3 : Int), ((0 : Int), ((0 : Int), (0 : Int)))), (((2 : Int), ((0 : Int), ((0 : Int), (1 : Int)))), ((bs []), [])))))), ((14 : Int), (false, ((0 : Int), (((0 : Int), ((0 : Int), ((0 : Int), (0 : Int)))), (((0 : Int), ((0 : Int), ((0 : Int), (0 : Int)))), ((bs []), []))))))]]) (0 : Int)) [(0 : Int)]) then
                    bif (k_touch_Loads ([((bs [120]), ((1 : Int), []))], [[((2 : Int), (false, ((0 : Int), (((3 : Int), ((0 : Int), ((0 : Int), (0 : Int)))), (((2 : Int), ((0 : Int), ((0 : Int), (1 : Int)))), ((bs []), [])))))), ((14 : Int), (false, ((0 : Int), (((0 : Int), ((0 : Int), ((0 : Int), (0 : Int)))), (((0 : Int), ((0 : Int), ((0 : Int), (0 : Int)))), ((bs []), []))))))]]) (1 : Int)) then
                      ((Int.ofNat (List.length (v_touch_Loads ([((bs [120]), ((1 : Int), []))], [[((2 : Int), (false, ((0 : Int), (((3 : Int), ((0 : Int), ((0 : Int), (0 : Int)))), (((2 : Int), ((0 : Int), ((0 : Int), (1 : Int)))), ((bs []), [])))))), ((14 : Int), (false, ((0 : Int), (((0 : Int), ((0 : Int), ((0 : Int), (0 : Int)))), (((0 : Int), ((0 : Int), ((0 : Int), (0 : Int)))), ((bs []), []))))))]]) (1 : Int)))) == (0 : Int))
                    else false
                  else false
                else false
              else false
            else false
          else false
        else false
      else false
    else false
  else false
def k_law22_alive : Bool :=
  bif (k_touch_Of ([((bs [120]), ((1 : Int), []))], [[((2 : Int), (false, ((0 : Int), (((3 : Int), ((0 : Int), ((0 : Int), (0 : Int)))), (((2 : Int), ((0 : Int), ((0 : Int), (1 : Int)))), ((bs []), [])))))), ((14 : Int), (false, ((0 : Int), (((0 : Int), ((0 : Int), ((0 : Int), (0 : Int)))), (((0 : Int), ((0 : Int), ((0 : Int), (0 : Int)))), ((bs []), []))))))]])) then
    bif (k_book_SameAccesses (v_touch_Of ([((bs [120]), ((1 : Int), []))], [[((2 : Int), (false, ((0 : Int), (((3 : Int), ((0 : Int), ((0 : Int), (0 : Int)))), (((2 : Int), ((0 : Int), ((0 : Int), (1 : Int)))), ((bs []), [])))))), ((14 : Int), (false, ((0 : Int), (((0 : Int), ((0 : Int), ((0 : Int), (0 : Int)))), (((0 : Int), ((0 : Int), ((0 : Int), (0 : Int)))), ((bs []), []))))))]])) [((0 : Int), ((0 : Int), ((0 : Int), ((0 : Int), (false, false))))), ((0 : Int), ((0 : Int), ((1 : Int), ((0 : Int), (true, false)))))]) then
      bif (v_book_SameAccesses (v_touch_Of ([((bs [120]), ((1 : Int), []))], [[((2 : Int), (false, ((0 : Int), (((3 : Int), ((0 : Int), ((0 : Int), (0 : Int)))), (((2 : Int), ((0 : Int), ((0 : Int), (1 : Int)))), ((bs []), [])))))), ((14 : Int), (false, ((0 : Int), (((0 : Int), ((0 : Int), ((0 : Int), (0 : Int)))), (((0 : Int), ((0 : Int), ((0 : Int), (0 : Int)))), ((bs []), []))))))]])) [((0 : Int), ((0 : Int), ((0 : Int), ((0 : Int), (false, false))))), ((0 : Int), ((0 : Int), ((1 : Int), ((0 : Int), (true, false)))))]) then
        bif (k_touch_Stores ([((bs [120]), ((1 : Int), []))], [[((2 : Int), (false, ((0 : Int), (((3 : Int), ((0 : Int), ((0 : Int), (0 : Int)))), (((2 : Int), ((0 : Int), ((0 : Int), (1 : Int)))), ((bs []), [])))))), ((14 : Int), (false, ((0 : Int), (((0 : Int), ((0 : Int), ((0 : Int), (0 : Int)))), (((0 : Int), ((0 : Int), ((0 : Int), (0 : Int)))), ((bs []), []))))))]]) (0 : Int)) then
          bif (k_book_SameInts (v_touch_Stores ([((bs [120]), ((1 : Int), []))], [[((2 : Int), (false, ((0 : Int), (((3 : Int), ((0 : Int), ((0 : Int), (0 : Int)))), (((2 : Int), ((0 : Int), ((0 : Int), (1 : Int)))), ((bs []), [])))))), ((14 : Int), (false, ((0 : Int), (((0 : Int), ((0 : Int), ((0 : Int), (0 : Int)))), (((0 : Int), ((0 : Int), ((0 : Int), (0 : Int)))), ((bs []), []))))))]]) (0 : Int)) [(0 : Int)]) then
            bif (v_book_SameInts (v_touch_Stores ([((bs [120]), ((1 : Int), []))], [[((2 : Int), (false, ((0 : Int), (((3 : Int), ((0 : Int), ((0 : Int), (0 : Int)))), (((2 : Int), ((0 : Int), ((0 : Int), (1 : Int)))), ((bs []), [])))))), ((14 : Int), (false, ((0 : Int), (((0 : Int), ((0 : Int), ((0 : Int), (0 : Int)))), (((0 : Int), ((0 : Int), ((0 : Int), (0 : Int)))), ((bs []), []))))))]]) (0 : Int)) [(0 : Int)]) then
              bif (k_touch_Loads ([((bs [120]), ((1 : Int), []))], [[((2 : Int), (false, ((0 : Int), (((3 : Int), ((0 : Int), ((0 : Int), (0 : Int)))), (((2 : Int), ((0 : Int), ((0 : Int), (1 : Int)))), ((bs []), [])))))), ((14 : Int), (false, ((0 : Int), (((0 : Int), ((0 : Int), ((0 : Int), (0 : Int)))), (((0 : Int), ((0 : Int), ((0 : Int), (0 : Int)))), ((bs []), []))))))]]) (0 : Int)) then
                bif (k_book_SameInts (v_touch_Loads ([((bs [120]), ((1 : Int), []))], [[((2 : Int), (false, ((0 : Int), (((3 : Int), ((0 : Int), ((0 : Int), (0 : Int)))), (((2 : Int), ((0 : Int), ((0 : Int), (1 : Int)))), ((bs []), [])))))), ((14 : Int), (false, ((0 : Int), (((0 : Int), ((0 : Int), ((0 : Int), (0 : Int)))), (((0 : Int), ((0 : Int), ((0 : Int), (0 : Int)))), ((bs []), []))))))]]) (0 : Int)) [(0 : Int)]) then
                  bif (v_book_SameInts (v_touch_Loads ([((bs [120]), ((1 : Int), []))], [[((2 : Int), (false, ((0 : Int), (((3 : Int), ((0 : Int), ((0 : Int), (0 : Int)))), (((2 : Int), ((0 : Int), ((0 : Int), (1 : Int)))), ((bs []), [])))))), ((14 : Int), (false, ((0 : Int), (((0 : Int), ((0 : Int), ((0 : Int), (0 : Int)))), (((0 : Int), ((0 : Int), ((0 : Int), (0 : Int)))), ((bs []), []))))))]]) (0 : Int)) [(0 : Int)]) then
                    bif (k_touch_Loads ([((bs [120]), ((1 : Int), []))], [[((2 : Int), (false, ((0 : Int), (((3 : Int), ((0 : Int), ((0 : Int), (0 : Int)))), (((2 : Int), ((0 : Int), ((0 : Int), (1 : Int)))), ((bs []), [])))))), ((14 : Int), (false, ((0 : Int), (((0 : Int), ((0 : Int), ((0 : Int), (0 : Int)))), (((0 : Int), ((0 : Int), ((0 : Int), (0 : Int)))), ((bs []), []))))))]]) (1 : Int)) then
                      true
                    else false
                  else true
                else false
              else false
            else true
          else false
        else false
      else true
    else false
  else false
theorem g_law22_alive (hk : k_law22_alive = true) : Goes (T_law22_alive) (T0_law22_alive) (v_law22_alive) :=
  Goes.brk hk (fun hk =>
    Goes.brk hk (fun hk =>
      Goes.brk hk (fun hk =>
        Goes.brk hk (fun hk =>
          Goes.brk hk (fun hk =>
            Goes.brk hk (fun hk =>
              Goes.brk hk (fun hk =>
                Goes.brk hk (fun hk =>
                  Goes.brk hk (fun hk =>
                    Goes.brk hk (fun hk =>
                      Goes.leaf) (fun hk =>
                      Goes.nok hk)) (fun hk =>
                    Goes.leaf)) (fun hk =>
                  Goes.nok hk)) (fun hk =>
                Goes.nok hk)) (fun hk =>
              Goes.leaf)) (fun hk =>
            Goes.nok hk)) (fun hk =>
          Goes.nok hk)) (fun hk =>
        Goes.leaf)) (fun hk =>
      Goes.nok hk)) (fun hk =>
    Goes.nok hk)
def R_law22_alive : Bool → AV := fun (r : Bool) => .d .bool r
def S_law22_alive : Empty → Nat × St := fun j => nomatch j
theorem en_law22_alive (L : Lt) : entryA Go.Proofs.Tryd.prog (clOf t_law22_alive) tb_law22_alive Go.Proofs.Tryd.f12 c_law22_alive L (toForms sg_law22_alive (())) = (T0_law22_alive).run (fun v => some (R_law22_alive v, tps (toForms sg_law22_alive (())))) fun j => L (S_law22_alive j).1 (S_law22_alive j).2 := by kernel_rfl
theorem lp_law22_alive : ∀ (L : Lt) (j : Empty), procOf (procsF Go.Proofs.Tryd.prog (clOf t_law22_alive) tb_law22_alive Go.Proofs.Tryd.f12 c_law22_alive (toForms sg_law22_alive (()))) (S_law22_alive j).1 L (S_law22_alive j).2 = (T_law22_alive j).run (fun v => some (R_law22_alive v, tps (toForms sg_law22_alive (())))) fun j => L (S_law22_alive j).1 (S_law22_alive j).2 := fun L j => nomatch j
noncomputable def e_law22_alive : Run := entG sg_law22_alive R_law22_alive (fun a => k_law22_alive) (fun a => v_law22_alive)
theorem ok_law22_alive : EntOK Go.Proofs.Tryd.prog 12 e_law22_alive := entG_ok (tb := tb_law22_alive) (c := c_law22_alive) tk_law22_alive (by kernel_rfl) (by kernel_rfl) (by kernel_rfl) (fun a => by kernel_rfl) fun _ hk => evF_goes (c := c_law22_alive) (K := fun v => (R_law22_alive v, tps (toForms sg_law22_alive (())))) (S := S_law22_alive) (by kernel_rfl) (en_law22_alive) (lp_law22_alive) (g_law22_alive hk)
theorem co_law22_alive (hk : k_law22_alive = true) : CallOK Go.Proofs.Tryd.prog 12 (toForms sg_law22_alive (())) (R_law22_alive (v_law22_alive), tps (toForms sg_law22_alive (()))) := by
  obtain ⟨h1, h2⟩ := clOf_ok tk_law22_alive
  obtain ⟨n, hn⟩ := evF_goes (c := c_law22_alive) (K := fun v => (R_law22_alive v, tps (toForms sg_law22_alive (())))) (S := S_law22_alive) (by kernel_rfl) (en_law22_alive) (lp_law22_alive) (g_law22_alive hk)
  exact evF_sound (f := 12) (c := c_law22_alive) h1 h2 (by kernel_rfl) (by kernel_rfl) (by kernel_rfl) hn
end Go.Ev
end

section
set_option linter.unusedSectionVars false
set_option linter.unusedVariables false
set_option linter.unusedSimpArgs false
/- Both texts tell the same accesses. -/
set_option maxRecDepth 100000
set_option linter.unusedVariables false
set_option linter.unusedSimpArgs false
namespace Go.Ev
open Go
theorem k_alive22 : k_law22_alive = true := by decide +kernel
theorem v_alive22 : v_law22_alive = true := by decide +kernel
theorem side_len {p : El T_api_Prog} (h : smallAll p = true) (t : Int) (w : Bool) : (sideC p t w).length < 2147483648 := by
  have := ofC_len h
  unfold sideC
  rw [List.length_map]
  exact Nat.lt_of_le_of_lt (List.length_filter_le _ _) this
structure TouchAll (p : El T_api_Prog) (t : Int) : Prop where
  ko : k_touch_Of p = true
  ka : k_ref3_Accesses p = true
  ks : k_book_SameAccesses (v_touch_Of p) (v_ref3_Accesses p) = true
  vs : v_book_SameAccesses (v_touch_Of p) (v_ref3_Accesses p) = true
  kS : k_touch_Stores p t = true
  kS' : k_ref3_Stores p t = true
  kSs : k_book_SameInts (v_touch_Stores p t) (v_ref3_Stores p t) = true
  vSs : v_book_SameInts (v_touch_Stores p t) (v_ref3_Stores p t) = true
  kL : k_touch_Loads p t = true
  kL' : k_ref3_Loads p t = true
  kLs : k_book_SameInts (v_touch_Loads p t) (v_ref3_Loads p t) = true
  vLs : v_book_SameInts (v_touch_Loads p t) (v_ref3_Loads p t) = true
theorem stores_is {p : El T_api_Prog} (h : smallAll p = true) (t : Int) : v_touch_Stores p t = sideC p t true ∧ v_ref3_Stores p t = sideC p t true ∧ v_touch_Loads p t = sideC p t false ∧ v_ref3_Loads p t = sideC p t false ∧ k_touch_Stores p t = true ∧ k_ref3_Stores p t = true ∧ k_touch_Loads p t = true ∧ k_ref3_Loads p t = true := by
  have h1 : ∀ w, k_touch_some p t w = true := fun _ => h
  have h2 : ∀ w, k_ref3_side p t w = true := fun _ => h
  unfold v_touch_Stores v_ref3_Stores v_touch_Loads v_ref3_Loads k_touch_Stores k_ref3_Stores k_touch_Loads k_ref3_Loads
  simp only [h1, h2, cond_true]
  exact ⟨rfl, rfl, rfl, rfl, trivial, trivial, trivial, trivial⟩
theorem touchAll {p : El T_api_Prog} (h : smallAll p = true) (t : Int) : TouchAll p t := by
  obtain ⟨s1, s2, s3, s4, q1, q2, q3, q4⟩ := stores_is h t
  refine ⟨h, h, ?_, ?_, q1, q2, ?_, ?_, q3, q4, ?_, ?_⟩
  · have := ofC_len h
    exact decide_eq_true (show (ofC p).length < _ by omega)
  · exact decide_eq_true rfl
  · rw [s1, s2]; have := side_len h t true; exact decide_eq_true (by omega)
  · rw [s1, s2]; exact decide_eq_true rfl
  · rw [s3, s4]; have := side_len h t false; exact decide_eq_true (by omega)
  · rw [s3, s4]; exact decide_eq_true rfl
theorem total_le {l : List (List (El T_api_Ins))} {n : Nat} (h : ∀ t ∈ l, List.length t ≤ n) : total l ≤ n * l.length := by
  unfold total
  induction l with
  | nil => simp
  | cons t l ih =>
    rw [List.map_cons, List.sum_cons, List.length_cons, Nat.mul_add, Nat.mul_one]
    have h1 := h t (List.mem_cons_self ..)
    have h2 := ih fun x hx => h x (List.mem_cons_of_mem _ hx)
    omega
theorem great_all {p : El T_api_Prog} (h : v_book_Great p = false) : smallAll p = true := by
  have hp := great_prog h
  unfold v_book_Great at h
  simp only [Bool.or_eq_false_iff, decide_eq_false_iff_not, List.any_eq_false, Bool.not_eq_true] at h
  have ht := total_le (l := p.2) (n := 12) fun t hm => by
    have := h.2.2.2 t hm
    unfold v_book_GreatThread at this
    simp only [Bool.or_eq_false_iff, decide_eq_false_iff_not] at this
    omega
  unfold smallAll
  simp only [Bool.and_eq_true, decide_eq_true_eq]
  exact ⟨hp, by omega, by omega⟩
end Go.Ev
end

section
set_option linter.unusedSectionVars false
set_option linter.unusedVariables false
set_option linter.unusedSimpArgs false
set_option maxRecDepth 100000
set_option linter.unusedVariables false
open Go Go.Ev
namespace Go.Ev
/-! ### paling/palinglaw22.TouchTells -/
def sg_law22_TouchTells : Sig := [(true, T_api_Prog), (false, (.int .i64))]
noncomputable def t_law22_TouchTells : Tbl := [(11, e_book_Great), (12, e_law22_alive), (14, e_touch_Of), (15, e_ref3_Accesses), (13, e_book_SameAccesses), (17, e_touch_Stores), (18, e_ref3_Stores), (16, e_book_SameInts), (19, e_touch_Loads), (20, e_ref3_Loads)]
theorem tk_law22_TouchTells : ∀ p ∈ t_law22_TouchTells, EntOK Go.Proofs.Tryd.prog p.1 p.2 := tbl_cons ok_book_Great (tbl_cons ok_law22_alive (tbl_cons ok_touch_Of (tbl_cons ok_ref3_Accesses (tbl_cons ok_book_SameAccesses (tbl_cons ok_touch_Stores (tbl_cons ok_ref3_Stores (tbl_cons ok_book_SameInts (tbl_cons ok_touch_Loads (tbl_cons ok_ref3_Loads (tbl_nil))))))))))
noncomputable def c_law22_TouchTells : Code := Go.Proofs.Tryd.f3.body.getD .skip
def tb_law22_TouchTells : Tb := []
def T_law22_TouchTells (p : El T_api_Prog) (t : Int) : Empty → JT Empty (Bool) := fun j => nomatch j
def T0_law22_TouchTells (p : El T_api_Prog) (t : Int) : JT Empty (Bool) :=
  .br (v_book_Great p)
    (.br k_law22_alive
      (.leaf v_law22_alive)
    (.no))
  (.br (k_touch_Of p)
    (.br (k_ref3_Accesses p)
      (.br (k_book_SameAccesses (v_touch_Of p) (v_ref3_Accesses p))
        (.br (v_book_SameAccesses (v_touch_Of p) (v_ref3_Accesses p))
          (.br (k_touch_Stores p t)
            (.br (k_ref3_Stores p t)
              (.br (k_book_SameInts (v_touch_Stores p t) (v_ref3_Stores p t))
                (.br (v_book_SameInts (v_touch_Stores p t) (v_ref3_Stores p t))
                  (.br (k_touch_Loads p t)
                    (.br (k_ref3_Loads p t)
                      (.br (k_book_SameInts (v_touch_Loads p t) (v_ref3_Loads p t))
                        (.br (v_book_SameInts (v_touch_Loads p t) (v_ref3_Loads p t))
                          (.br k_law22_alive
                            (.leaf v_law22_alive)
                          (.no))
                        (.leaf false))
                      (.no))
                    (.no))
                  (.no))
                (.leaf false))
              (.no))
            (.no))
          (.no))
        (.leaf false))
      (.no))
    (.no))
  (.no))
def v_law22_TouchTells (p : El T_api_Prog) (t : Int) : Bool :=
  bif (v_book_Great p) then
    bif k_law22_alive then
      v_law22_alive
    else false
  else bif (k_touch_Of p) then
    bif (k_ref3_Accesses p) then
      bif (k_book_SameAccesses (v_touch_Of p) (v_ref3_Accesses p)) then
        bif (v_book_SameAccesses (v_touch_Of p) (v_ref3_Accesses p)) then
          bif (k_touch_Stores p t) then
            bif (k_ref3_Stores p t) then
              bif (k_book_SameInts (v_touch_Stores p t) (v_ref3_Stores p t)) then
                bif (v_book_SameInts (v_touch_Stores p t) (v_ref3_Stores p t)) then
                  bif (k_touch_Loads p t) then
                    bif (k_ref3_Loads p t) then
                      bif (k_book_SameInts (v_touch_Loads p t) (v_ref3_Loads p t)) then
                        bif (v_book_SameInts (v_touch_Loads p t) (v_ref3_Loads p t)) then
                          bif k_law22_alive then
                            v_law22_alive
                          else false
                        else false
                      else false
                    else false
                  else false
                else false
              else false
            else false
          else false
        else false
      else false
    else false
  else false
def k_law22_TouchTells (p : El T_api_Prog) (t : Int) : Bool :=
  bif (v_book_Great p) then
    bif k_law22_alive then
      true
    else false
  else bif (k_touch_Of p) then
    bif (k_ref3_Accesses p) then
      bif (k_book_SameAccesses (v_touch_Of p) (v_ref3_Accesses p)) then
        bif (v_book_SameAccesses (v_touch_Of p) (v_ref3_Accesses p)) then
          bif (k_touch_Stores p t) then
            bif (k_ref3_Stores p t) then
              bif (k_book_SameInts (v_touch_Stores p t) (v_ref3_Stores p t)) then
                bif (v_book_SameInts (v_touch_Stores p t) (v_ref3_Stores p t)) then
                  bif (k_touch_Loads p t) then
                    bif (k_ref3_Loads p t) then
                      bif (k_book_SameInts (v_touch_Loads p t) (v_ref3_Loads p t)) then
                        bif (v_book_SameInts (v_touch_Loads p t) (v_ref3_Loads p t)) then
                          bif k_law22_alive then
                            true
                          else false
                        else true
                      else false
                    else false
                  else false
                else true
              else false
            else false
          else false
        else true
      else false
    else false
  else false
theorem g_law22_TouchTells (p : El T_api_Prog) (t : Int) (hk : k_law22_TouchTells p t = true) : Goes (T_law22_TouchTells p t) (T0_law22_TouchTells p t) (v_law22_TouchTells p t) :=
  Goes.brk hk (fun hk =>
    Goes.brk hk (fun hk =>
      Goes.leaf) (fun hk =>
      Goes.nok hk)) (fun hk =>
    Goes.brk hk (fun hk =>
      Goes.brk hk (fun hk =>
        Goes.brk hk (fun hk =>
          Goes.brk hk (fun hk =>
            Goes.brk hk (fun hk =>
              Goes.brk hk (fun hk =>
                Goes.brk hk (fun hk =>
                  Goes.brk hk (fun hk =>
                    Goes.brk hk (fun hk =>
                      Goes.brk hk (fun hk =>
                        Goes.brk hk (fun hk =>
                          Goes.brk hk (fun hk =>
                            Goes.brk hk (fun hk =>
                              Goes.leaf) (fun hk =>
                              Goes.nok hk)) (fun hk =>
                            Goes.leaf)) (fun hk =>
                          Goes.nok hk)) (fun hk =>
                        Goes.nok hk)) (fun hk =>
                      Goes.nok hk)) (fun hk =>
                    Goes.leaf)) (fun hk =>
                  Goes.nok hk)) (fun hk =>
                Goes.nok hk)) (fun hk =>
              Goes.nok hk)) (fun hk =>
            Goes.leaf)) (fun hk =>
          Goes.nok hk)) (fun hk =>
        Goes.nok hk)) (fun hk =>
      Goes.nok hk))
def R_law22_TouchTells : Bool → AV := fun (r : Bool) => .d .bool r
def S_law22_TouchTells (p : El T_api_Prog) (t : Int) : Empty → Nat × St := fun j => nomatch j
theorem en_law22_TouchTells (p : El T_api_Prog) (t : Int) (L : Lt) : entryA Go.Proofs.Tryd.prog (clOf t_law22_TouchTells) tb_law22_TouchTells Go.Proofs.Tryd.f3 c_law22_TouchTells L (toForms sg_law22_TouchTells (p, t, ())) = (T0_law22_TouchTells p t).run (fun v => some (R_law22_TouchTells v, tps (toForms sg_law22_TouchTells (p, t, ())))) fun j => L (S_law22_TouchTells p t j).1 (S_law22_TouchTells p t j).2 := by kernel_rfl
theorem lp_law22_TouchTells (p : El T_api_Prog) (t : Int) : ∀ (L : Lt) (j : Empty), procOf (procsF Go.Proofs.Tryd.prog (clOf t_law22_TouchTells) tb_law22_TouchTells Go.Proofs.Tryd.f3 c_law22_TouchTells (toForms sg_law22_TouchTells (p, t, ()))) (S_law22_TouchTells p t j).1 L (S_law22_TouchTells p t j).2 = (T_law22_TouchTells p t j).run (fun v => some (R_law22_TouchTells v, tps (toForms sg_law22_TouchTells (p, t, ())))) fun j => L (S_law22_TouchTells p t j).1 (S_law22_TouchTells p t j).2 := fun L j => nomatch j
noncomputable def e_law22_TouchTells : Run := entG sg_law22_TouchTells R_law22_TouchTells (fun a => k_law22_TouchTells a.1 a.2.1) (fun a => v_law22_TouchTells a.1 a.2.1)
theorem ok_law22_TouchTells : EntOK Go.Proofs.Tryd.prog 3 e_law22_TouchTells := entG_ok (tb := tb_law22_TouchTells) (c := c_law22_TouchTells) tk_law22_TouchTells (by kernel_rfl) (by kernel_rfl) (by kernel_rfl) (fun a => by kernel_rfl) fun ⟨p, t, _⟩ hk => evF_goes (c := c_law22_TouchTells) (K := fun v => (R_law22_TouchTells v, tps (toForms sg_law22_TouchTells (p, t, ())))) (S := S_law22_TouchTells p t) (by kernel_rfl) (en_law22_TouchTells p t) (lp_law22_TouchTells p t) (g_law22_TouchTells p t hk)
theorem co_law22_TouchTells (p : El T_api_Prog) (t : Int) (hk : k_law22_TouchTells p t = true) : CallOK Go.Proofs.Tryd.prog 3 (toForms sg_law22_TouchTells (p, t, ())) (R_law22_TouchTells (v_law22_TouchTells p t), tps (toForms sg_law22_TouchTells (p, t, ()))) := by
  obtain ⟨h1, h2⟩ := clOf_ok tk_law22_TouchTells
  obtain ⟨n, hn⟩ := evF_goes (c := c_law22_TouchTells) (K := fun v => (R_law22_TouchTells v, tps (toForms sg_law22_TouchTells (p, t, ())))) (S := S_law22_TouchTells p t) (by kernel_rfl) (en_law22_TouchTells p t) (lp_law22_TouchTells p t) (g_law22_TouchTells p t hk)
  exact evF_sound (f := 3) (c := c_law22_TouchTells) h1 h2 (by kernel_rfl) (by kernel_rfl) (by kernel_rfl) hn
end Go.Ev
end

section
set_option linter.unusedSectionVars false
set_option linter.unusedVariables false
set_option linter.unusedSimpArgs false
set_option maxRecDepth 100000
set_option linter.unusedVariables false
namespace Go.Ev
open Go
theorem true_law22_TouchTells (p : El T_api_Prog) (t : Int) : k_law22_TouchTells p t = true ∧ v_law22_TouchTells p t = true := by
  unfold k_law22_TouchTells v_law22_TouchTells
  simp only [k_alive22, v_alive22, cond_true]
  cases hx : v_book_Great p with
  | true => simp only [cond_true, and_self]
  | false =>
    have h := touchAll (great_all hx) t
    simp only [h.ko, h.ka, h.ks, h.vs, h.kS, h.kS', h.kSs, h.vSs, h.kL, h.kL', h.kLs, h.vLs, cond_true, cond_false, and_self]
theorem call_law22_TouchTells (a : Args sg_law22_TouchTells) (ha : smallArgs sg_law22_TouchTells a) : CallOK Go.Proofs.Tryd.prog 3 (toForms sg_law22_TouchTells a) (.d .bool true, tps (toForms sg_law22_TouchTells a)) := by
  obtain ⟨p, t, _⟩ := a
  obtain ⟨hk, hv⟩ := true_law22_TouchTells p t
  have := co_law22_TouchTells p t hk
  rw [hv] at this
  exact this
end Go.Ev
end

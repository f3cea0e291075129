/- Part of the proof of: For every made program fences that were laid in, taken out again, leave the program as it was, and one that may be with them may be: the law answers true for every input. -/
import Derived.Test.YtijcpdnlofpccaaDoorCon1
section
set_option linter.unusedSectionVars false
set_option linter.unusedVariables false
set_option linter.unusedSimpArgs false
set_option maxRecDepth 100000
set_option linter.unusedVariables false
open Go Go.Ev
namespace Go.Ev
/-! ### paling/weave.Out -/
def sg_weave_Out : Sig := [(true, T_api_Prog), (false, (.sl (.sl (.int .i64))))]
noncomputable def t_weave_Out : Tbl := [(39, e_valid_Check), (40, e_weave_order), (41, e_valid_Copy), (42, e_weave_of)]
theorem tk_weave_Out : ∀ p ∈ t_weave_Out, EntOK Go.Proofs.Tryd.prog p.1 p.2 := tbl_cons ok_valid_Check (tbl_cons ok_weave_order (tbl_cons ok_valid_Copy (tbl_cons ok_weave_of (tbl_nil))))
noncomputable def c_weave_Out : Code := Go.Proofs.Tryd.f33.body.getD .skip
def tb_weave_Out : Tb := [(6, ⟨[1, 2, 4, 29, 30, 31], []⟩), (15, ⟨[1, 2, 4, 6, 29, 30, 31, 40, 41, 42], []⟩), (25, ⟨[1, 4, 10, 75, 76], []⟩), (35, ⟨[1, 4, 10, 11, 12, 13, 14, 75, 76, 87, 88, 89], [(15, 122), (14, 112)]⟩), (hintK, ⟨[], [(1049601, 48), (1049602, 50)]⟩)]
inductive J_weave_Out where
  | l6 (h : Int)
  | l15 (h : List Int) (h1 : Int) (h2 : Int) (t : Int) (h3 : Int)
  | l25 (h : Int) (q : List (List (El T_api_Ins)))
  | l35 (h : List (El T_api_Ins)) (h1 : Int) (l : List Int) (h2 : Int) (labels : List ByteArray) (out : List (El T_api_Ins)) (t : Int) (h3 : Int) (q : List (List (El T_api_Ins)))
def T_weave_Out (p : El T_api_Prog) (fences : List (List Int)) : J_weave_Out → JT J_weave_Out ((El T_api_Prog) × Bool)
  | .l6 h =>
    .br (decide (h < (Int.ofNat (List.length fences))))
      (.br ((decide ((0 : Int) ≤ h)) && (decide (h < (Int.ofNat (List.length fences)))))
        (.br (k_weave_order (List.getD fences (Int.toNat h) (dflt (.sl (.int .i64)))))
          (.br (! (v_weave_order (List.getD fences (Int.toNat h) (dflt (.sl (.int .i64))))))
            (.leaf (([], []), false))
          (.jmp (.l15 (List.getD fences (Int.toNat h) (dflt (.sl (.int .i64)))) (Int.ofNat (List.length (List.getD fences (Int.toNat h) (dflt (.sl (.int .i64)))))) (0 : Int) h h)))
        (.no))
      (.no))
    (.br (k_valid_Copy p)
      (.jmp (.l25 (0 : Int) (v_valid_Copy p).2))
    (.no))
  | .l15 h h1 h2 t h3 =>
    .br (decide (h2 < h1))
      (.br ((decide ((0 : Int) ≤ h2)) && (decide (h2 < (Int.ofNat (List.length h)))))
        (.br ((decide ((0 : Int) ≤ t)) && (decide (t < (Int.ofNat (List.length p.2)))))
          (.br (decide ((List.getD h (Int.toNat h2) (dflt (.int .i64))) ≥ (Int.ofNat (List.length (List.getD p.2 (Int.toNat t) (dflt (.sl T_api_Ins)))))))
            (.leaf (([], []), false))
          (.br ((decide ((0 : Int) ≤ t)) && (decide (t < (Int.ofNat (List.length p.2)))))
            (.br ((decide ((0 : Int) ≤ (List.getD h (Int.toNat h2) (dflt (.int .i64))))) && (decide ((List.getD h (Int.toNat h2) (dflt (.int .i64))) < (Int.ofNat (List.length (List.getD p.2 (Int.toNat t) (dflt (.sl T_api_Ins))))))))
              (.br ((List.getD (List.getD p.2 (Int.toNat t) (dflt (.sl T_api_Ins))) (Int.toNat (List.getD h (Int.toNat h2) (dflt (.int .i64)))) (dflt T_api_Ins)).1 != (12 : Int))
                (.leaf (([], []), false))
              (.jmp (.l15 h h1 (IntKind.i64.wrap (h2 + (1 : Int))) t h3)))
            (.no))
          (.no)))
        (.no))
      (.no))
    (.jmp (.l6 (IntKind.i64.wrap (h3 + (1 : Int)))))
  | .l25 h q =>
    .br (decide (h < (Int.ofNat (List.length (v_valid_Copy p).2))))
      (.br (k_weave_of fences h)
        (.br ((decide ((0 : Int) ≤ h)) && (decide (h < (Int.ofNat (List.length q)))))
          (.jmp (.l35 (List.getD q (Int.toNat h) (dflt (.sl T_api_Ins))) (Int.ofNat (List.length (List.getD q (Int.toNat h) (dflt (.sl T_api_Ins))))) (v_weave_of fences h) (0 : Int) [] [] h h q))
        (.no))
      (.no))
    (.leaf (((v_valid_Copy p).1, q), true))
  | .l35 h h1 l h2 labels out t h3 q =>
    .br (decide (h2 < h1))
      (.br ((decide ((0 : Int) ≤ h2)) && (decide (h2 < (Int.ofNat (List.length h)))))
        (.br (decide ((Int.ofNat (List.length l)) > (0 : Int)))
          (.br (decide ((0 : Int) < (Int.ofNat (List.length l))))
            (.br ((List.getD l 0 (dflt (.int .i64))) == h2)
              (.br ((((decide ((0 : Int) ≤ (Int.ofNat (List.length l)))) && (decide ((Int.ofNat (List.length l)) ≤ (Int.ofNat (List.length l))))) && true) && (decide ((1 : Int) ≤ (Int.ofNat (List.length l)))))
                (.br (Nat.ble (((List.length labels) + (List.length (List.getD h (Int.toNat h2) (dflt T_api_Ins)).2.2.2.2.2.2)) * 16) limit)
                  (.jmp (.l35 h h1 (List.drop 1 (List.take (List.length l) l)) (IntKind.i64.wrap (h2 + (1 : Int))) (labels ++ (List.getD h (Int.toNat h2) (dflt T_api_Ins)).2.2.2.2.2.2) out t h3 q))
                (.no))
              (.no))
            (.br (Nat.ble (((List.length labels) + (List.length (List.getD h (Int.toNat h2) (dflt T_api_Ins)).2.2.2.2.2.2)) * 16) limit)
              (.br (Nat.ble (((List.length out) + 1) * 128) limit)
                (.jmp (.l35 h h1 l (IntKind.i64.wrap (h2 + (1 : Int))) [] (out ++ [((List.getD h (Int.toNat h2) (dflt T_api_Ins)).1, ((List.getD h (Int.toNat h2) (dflt T_api_Ins)).2.1, ((List.getD h (Int.toNat h2) (dflt T_api_Ins)).2.2.1, ((List.getD h (Int.toNat h2) (dflt T_api_Ins)).2.2.2.1, ((List.getD h (Int.toNat h2) (dflt T_api_Ins)).2.2.2.2.1, ((List.getD h (Int.toNat h2) (dflt T_api_Ins)).2.2.2.2.2.1, (labels ++ (List.getD h (Int.toNat h2) (dflt T_api_Ins)).2.2.2.2.2.2)))))))]) t h3 q))
              (.no))
            (.no)))
          (.no))
        (.br (Nat.ble (((List.length labels) + (List.length (List.getD h (Int.toNat h2) (dflt T_api_Ins)).2.2.2.2.2.2)) * 16) limit)
          (.br (Nat.ble (((List.length out) + 1) * 128) limit)
            (.jmp (.l35 h h1 l (IntKind.i64.wrap (h2 + (1 : Int))) [] (out ++ [((List.getD h (Int.toNat h2) (dflt T_api_Ins)).1, ((List.getD h (Int.toNat h2) (dflt T_api_Ins)).2.1, ((List.getD h (Int.toNat h2) (dflt T_api_Ins)).2.2.1, ((List.getD h (Int.toNat h2) (dflt T_api_Ins)).2.2.2.1, ((List.getD h (Int.toNat h2) (dflt T_api_Ins)).2.2.2.2.1, ((List.getD h (Int.toNat h2) (dflt T_api_Ins)).2.2.2.2.2.1, (labels ++ (List.getD h (Int.toNat h2) (dflt T_api_Ins)).2.2.2.2.2.2)))))))]) t h3 q))
          (.no))
        (.no)))
      (.no))
    (.br ((decide ((0 : Int) ≤ t)) && (decide (t < (Int.ofNat (List.length q)))))
      (.jmp (.l25 (IntKind.i64.wrap (h3 + (1 : Int))) (List.set q (Int.toNat t) out)))
    (.no))
def T0_weave_Out (p : El T_api_Prog) (fences : List (List Int)) : JT J_weave_Out ((El T_api_Prog) × Bool) :=
  .br (k_valid_Check p)
    (.br ((v_valid_Check p) != (0 : Int))
      (.leaf (([], []), false))
    (.br (decide ((Int.ofNat (List.length fences)) > (Int.ofNat (List.length p.2))))
      (.leaf (([], []), false))
    (.jmp (.l6 (0 : Int)))))
  (.no)
def R_weave_Out : (El T_api_Prog) × Bool → AV := fun (r : (El T_api_Prog) × Bool) => .tu [.ag [.rw 70 T_api_Sym r.1.1, .rw 58 (.sl T_api_Ins) r.1.2], .d .bool r.2]
def S_weave_Out (p : El T_api_Prog) (fences : List (List Int)) : J_weave_Out → Nat × St
  | .l6 h => (6, ⟨mkTm 128 [(1, .d (.sl (.sl (.int .i64))) fences), (2, .pt 3 0 0), (4, .pt 5 0 0), (29, .d (.sl (.sl (.int .i64))) fences), (30, .d (.int .i64) (Int.ofNat (List.length fences))), (31, .d (.int .i64) h)], [(3, 0, .box 27 [.d (.sl T_api_Sym) p.1, .d (.sl (.sl T_api_Ins)) p.2] none), (5, 0, .box 27 [.nil, .nil] none)]⟩)
  | .l15 h h1 h2 t h3 => (15, ⟨mkTm 128 [(1, .d (.sl (.sl (.int .i64))) fences), (2, .pt 3 0 0), (4, .pt 5 0 0), (6, .d (.int .i64) t), (29, .d (.sl (.sl (.int .i64))) fences), (30, .d (.int .i64) (Int.ofNat (List.length fences))), (31, .d (.int .i64) h3), (40, .d (.sl (.int .i64)) h), (41, .d (.int .i64) h1), (42, .d (.int .i64) h2)], [(3, 0, .box 27 [.d (.sl T_api_Sym) p.1, .d (.sl (.sl T_api_Ins)) p.2] none), (5, 0, .box 27 [.nil, .nil] none)]⟩)
  | .l25 h q => (25, ⟨mkTm 128 [(1, .d (.sl (.sl (.int .i64))) fences), (4, .pt 5 0 0), (10, .pt 11 0 0), (75, .d (.int .i64) (Int.ofNat (List.length (v_valid_Copy p).2))), (76, .d (.int .i64) h)], [(5, 0, .box 27 [.nil, .nil] none), (11, 0, .box 27 [.own 11265 0 none, .own 11266 0 none] none), (11265, 0, .row 70 T_api_Sym (v_valid_Copy p).1 false), (11266, 0, .row 58 (.sl T_api_Ins) q false)]⟩)
  | .l35 h h1 l h2 labels out t h3 q => (35, ⟨mkTm 128 [(1, .d (.sl (.sl (.int .i64))) fences), (4, .pt 5 0 0), (10, .pt 11 0 0), (11, .d (.int .i64) t), (12, .d (.sl (.int .i64)) l), (13, .own 14 0 none), (14, .own 15 0 none), (75, .d (.int .i64) (Int.ofNat (List.length (v_valid_Copy p).2))), (76, .d (.int .i64) h3), (87, .d (.sl T_api_Ins) h), (88, .d (.int .i64) h1), (89, .d (.int .i64) h2)], [(5, 0, .box 27 [.nil, .nil] none), (11, 0, .box 27 [.own 11265 0 none, .own 11266 0 none] none), (14, 0, .row 63 T_api_Ins out false), (15, 0, .row 9 .str labels false), (11265, 0, .row 70 T_api_Sym (v_valid_Copy p).1 false), (11266, 0, .row 58 (.sl T_api_Ins) q false)]⟩)
theorem en_weave_Out (p : El T_api_Prog) (fences : List (List Int)) (L : Lt) : entryA Go.Proofs.Tryd.prog (clOf t_weave_Out) tb_weave_Out Go.Proofs.Tryd.f33 c_weave_Out L (toForms sg_weave_Out (p, fences, ())) = (T0_weave_Out p fences).run (fun v => some (R_weave_Out v, tps (toForms sg_weave_Out (p, fences, ())))) fun j => L (S_weave_Out p fences j).1 (S_weave_Out p fences j).2 := by kernel_rfl
theorem lp_weave_Out (p : El T_api_Prog) (fences : List (List Int)) : ∀ (L : Lt) (j : J_weave_Out), procOf (procsF Go.Proofs.Tryd.prog (clOf t_weave_Out) tb_weave_Out Go.Proofs.Tryd.f33 c_weave_Out (toForms sg_weave_Out (p, fences, ()))) (S_weave_Out p fences j).1 L (S_weave_Out p fences j).2 = (T_weave_Out p fences j).run (fun v => some (R_weave_Out v, tps (toForms sg_weave_Out (p, fences, ())))) fun j => L (S_weave_Out p fences j).1 (S_weave_Out p fences j).2
  | L, .l6 h => by kernel_rfl
  | L, .l15 h h1 h2 t h3 => by kernel_rfl
  | L, .l25 h q => by kernel_rfl
  | L, .l35 h h1 l h2 labels out t h3 q => by kernel_rfl
end Go.Ev
end

section
set_option linter.unusedSectionVars false
set_option linter.unusedVariables false
set_option linter.unusedSimpArgs false
/- Fences taken out of programs: over lists. -/
set_option linter.unusedVariables false
set_option linter.unusedSimpArgs false
namespace Go.Ev
open Go
def outT (l : List Int) : Nat → List ByteArray → List (El T_api_Ins) → List (El T_api_Ins)
  | _, _, [] => []
  | k, ls, i :: r => if l.contains (k : Int) then outT l (k + 1) (ls ++ labsOf i) r else withLs i (ls ++ labsOf i) :: outT l (k + 1) [] r
theorem outT_len (l : List Int) : ∀ (x : List (El T_api_Ins)) (k : Nat) (ls : List ByteArray), (outT l k ls x).length ≤ x.length
  | [], _, _ => Nat.zero_le _
  | i :: r, k, ls => by
    unfold outT
    split
    · have := outT_len l r (k + 1) (ls ++ labsOf i)
      rw [List.length_cons]; omega
    · have := outT_len l r (k + 1) []
      rw [List.length_cons, List.length_cons]; omega
theorem outT_nil : ∀ (x : List (El T_api_Ins)) (k : Nat), outT [] k [] x = x
  | [], _ => rfl
  | i :: r, k => by
    unfold outT
    rw [outT_nil r (k + 1), if_neg (by simp)]
    rfl
def outP : List (List Int) → List (List (El T_api_Ins)) → List (List (El T_api_Ins))
  | _, [] => []
  | [], x :: xs => x :: xs
  | l :: ls, x :: xs => outT l 0 [] x :: outP ls xs
theorem outP_len : ∀ (ls : List (List Int)) (xs : List (List (El T_api_Ins))), (outP ls xs).length = xs.length
  | _, [] => by cases ‹List (List Int)› <;> rfl
  | [], x :: xs => rfl
  | l :: ls, x :: xs => by unfold outP; rw [List.length_cons, List.length_cons, outP_len ls xs]
theorem outP_get : ∀ (ls : List (List Int)) (xs : List (List (El T_api_Ins))) (t : Nat) (h : t < xs.length), (outP ls xs)[t]? = some (outT (ls.getD t []) 0 [] xs[t])
  | [], x :: xs, t, h => by
    unfold outP
    rw [List.getElem?_eq_getElem h]
    have : List.getD ([] : List (List Int)) t [] = [] := by simp
    rw [this, outT_nil]
  | l :: ls, x :: xs, 0, h => rfl
  | l :: ls, x :: xs, t + 1, h => by
    unfold outP
    rw [List.getElem?_cons_succ, outP_get ls xs t (by simpa using h)]
    simp
/-- Do places tell fences of a thread? -/
def fenceAt (x : List (El T_api_Ins)) (n : Int) : Bool := decide (n < (x.length : Int)) && ((show Int from (List.getD x n.toNat (dflt T_api_Ins)).1) == 12)
def okOut (l : List Int) (x : List (El T_api_Ins)) : Bool := rising l && l.all (fenceAt x)
def okOuts : List (List Int) → List (List (El T_api_Ins)) → Bool
  | [], _ => true
  | l :: ls, x :: xs => okOut l x && okOuts ls xs
  | _ :: _, [] => false
theorem okOuts_drop {ls : List (List Int)} {xs : List (List (El T_api_Ins))} {k : Nat} (h : k < ls.length) (h' : k < xs.length) : okOuts (ls.drop k) (xs.drop k) = (okOut ls[k] xs[k] && okOuts (ls.drop (k + 1)) (xs.drop (k + 1))) := by
  rw [drop_cons h, drop_cons h']; rfl
def outC (p : El T_api_Prog) (fences : List (List Int)) : El T_api_Prog × Bool :=
  if checkC p ≠ 0 ∨ p.2.length < fences.length ∨ okOuts fences p.2 = false then (noProg, false) else ((p.1, outP fences p.2), true)
theorem labels_cons (i : El T_api_Ins) (r : List (El T_api_Ins)) : (labels (i :: r)).length = (labsOf i).length + (labels r).length := by
  unfold labels labsOf
  rw [List.flatMap_cons, List.length_append]
end Go.Ev
end

section
set_option linter.unusedSectionVars false
set_option linter.unusedVariables false
set_option linter.unusedSimpArgs false
set_option linter.unusedVariables false
set_option linter.unusedSimpArgs false
open Go
namespace Go.Ev
def v_weave_Out (p : El T_api_Prog) (fences : List (List Int)) : (El T_api_Prog) × Bool := outC p fences
def k_weave_Out (p : El T_api_Prog) (fences : List (List Int)) : Bool := smallProg p && (copyB p && fences.all fun l => decide (List.length l < 1099511627776))
theorem g_weave_Out (p : El T_api_Prog) (points : List (List Int)) (hk : k_weave_Out p points = true) : Goes (T_weave_Out p points) (T0_weave_Out p points) (v_weave_Out p points) := by
  unfold k_weave_Out at hk
  simp only [Bool.and_eq_true, List.all_eq_true, decide_eq_true_eq] at hk
  obtain ⟨hsm, hcp, hpl⟩ := hk
  have hC := copyOK hcp
  have hkc : k_valid_Check p = true := hsm
  have hkC : k_valid_Copy p = true := hcp
  have hvC : v_valid_Copy p = p := rfl
  have hth := hC.thr
  have hsmall : ∀ x ∈ p.2, smallThread x = true := by
    unfold smallProg at hsm
    simp only [Bool.and_eq_true, List.all_eq_true] at hsm
    exact hsm.2
  obtain ⟨R, hR⟩ : ∃ R, outP points p.2 = R := ⟨_, rfl⟩
  have hRl : R.length = p.2.length := by rw [← hR]; exact outP_len points p.2
  have hRg : ∀ t (h : t < p.2.length), R[t]'(by omega) = outT (points.getD t []) 0 [] p.2[t] := fun t h => by
    have := outP_get points p.2 t h
    rw [hR, List.getElem?_eq_getElem (by omega)] at this
    exact Option.some.inj this
  have main : points.length ≤ p.2.length → (∀ t, t < points.length → rising (points.getD t []) = true) → Goes (T_weave_Out p points) (.jmp (.l25 0 p.2)) ((p.1, R), true) := by
    intro hpt hris
    have hris' : ∀ t, rising (points.getD t []) = true := fun t => by
      by_cases h : t < points.length
      · exact hris t h
      · rw [List.getD_eq_getElem?_getD, List.getElem?_eq_none (by omega)]; rfl
    have loop : ∀ t, t ≤ p.2.length → Goes (T_weave_Out p points) (.jmp (.l25 (t : Int) (R.take t ++ p.2.drop t))) ((p.1, R), true) := by
      refine down ?_ fun t ht ih => ?_
      · rw [goes_jmp]
        simp only [T_weave_Out, goes_br, hvC, lt_len_not (Nat.lt_irrefl _), if_false, Bool.false_eq_true, List.drop_length, List.append_nil]
        rw [show List.take (List.length p.2) R = R by rw [← hRl, List.take_length]]
        exact .leaf
      · obtain ⟨o1, o2⟩ := of_is (points := points) t
        have hql := mix_len (k := t) hRl (by omega)
        have hqt : t < (R.take t ++ p.2.drop t).length := by omega
        have hqg : (R.take t ++ p.2.drop t)[t] = p.2[t] := by
          have := mix_get (k := t) hRl ht
          rw [List.getElem?_eq_getElem hqt] at this
          exact Option.some.inj this
        obtain ⟨x, hx⟩ : ∃ x, p.2[t] = x := ⟨_, rfl⟩
        obtain ⟨pts, hpts⟩ : ∃ pts, points.getD t [] = pts := ⟨_, rfl⟩
        have hxm : x ∈ p.2 := by rw [← hx]; exact List.getElem_mem ht
        have hxl := hC.len x hxm
        have hxs := (smallT (hsmall x hxm)).labs
        have hset := mix_set hRl ht
        rw [hRg t ht, hpts, hx] at hset
        have inner : ∀ k, k ≤ List.length x → ∀ (l : List Int) (ls : List ByteArray) (out : List (El T_api_Ins)), Suf pts k l → ls.length + (labels (List.drop k x)).length ≤ (labels x).length → out.length ≤ k → out ++ outT pts k ls (List.drop k x) = outT pts 0 [] x →
            Goes (T_weave_Out p points) (.jmp (.l35 x (Int.ofNat (List.length x)) l (k : Int) ls out (t : Int) (t : Int) (R.take t ++ p.2.drop t))) ((p.1, R), true) := by
          refine down ?_ fun k hk ihk => ?_
          · intro l ls out hs hls ho he
            rw [goes_jmp]
            simp only [T_weave_Out, goes_br, lt_len_not (Nat.lt_irrefl _), if_false, Bool.false_eq_true, lt_len hqt, nng, Bool.and_self, if_true, Int.toNat_natCast, wrap_succ (k := t) (by omega)]
            rw [List.drop_length, show outT pts (List.length x) ls [] = [] from rfl, List.append_nil] at he
            rw [he, hset]
            exact ih
          · intro l ls out hs hls ho he
            rw [drop_cons hk] at he hls
            rw [labels_cons] at hls
            have b1 : Nat.ble ((out.length + 1) * 128) limit = true := bleN (by unfold limit; omega)
            have hlab : ls.length + List.length (x[k]).2.2.2.2.2.2 < 1099511627776 := by
              have e : (labsOf x[k]).length = List.length (x[k]).2.2.2.2.2.2 := rfl
              omega
            have b2 : Nat.ble ((ls.length + List.length (x[k]).2.2.2.2.2.2) * 16) limit = true := bleN (by unfold limit; omega)
            have hl1 : (ls ++ labsOf x[k]).length + (labels (List.drop (k + 1) x)).length ≤ (labels x).length := by rw [List.length_append]; omega
            have hl2 : ([] : List ByteArray).length + (labels (List.drop (k + 1) x)).length ≤ (labels x).length := by simp; omega
            rw [outT] at he
            rw [goes_jmp]
            cases l with
            | nil =>
              obtain ⟨m1, m2⟩ := hs.miss (fun n r e => by cases e)
              rw [if_neg (by rw [m1]; decide)] at he
              have e0 : decide (Int.ofNat (List.length ([] : List Int)) > (0 : Int)) = false := by decide
              simp only [T_weave_Out, goes_br, lt_len hk, nng, Bool.and_self, if_true, Int.toNat_natCast, getD_lt hk, e0, b1, b2, if_false, Bool.false_eq_true, wrap_succ (k := k) (by omega)]
              exact ihk [] [] _ m2 hl2 (by rw [List.length_append, List.length_singleton]; omega) (by rw [List.append_assoc]; exact he)
            | cons n r =>
              have e0 : decide (Int.ofNat (List.length (n :: r)) > (0 : Int)) = true := by simp
              have e1 : decide ((0 : Int) < Int.ofNat (List.length (n :: r))) = true := by simp
              have e2 : List.getD (n :: r) 0 (dflt (.int .i64)) = n := rfl
              have e3 : ((((decide ((0 : Int) ≤ (Int.ofNat (List.length (n :: r))))) && (decide ((Int.ofNat (List.length (n :: r))) ≤ (Int.ofNat (List.length (n :: r)))))) && true) && (decide ((1 : Int) ≤ (Int.ofNat (List.length (n :: r)))))) = true := by simp; omega
              have e4 : List.drop 1 (List.take (List.length (n :: r)) (n :: r)) = r := by rw [List.take_length]; rfl
              by_cases hn : n = (k : Int)
              · obtain ⟨m1, m2⟩ := hs.hit hn
                rw [if_pos m1] at he
                have e5 : (n == (k : Int)) = true := by simpa using hn
                simp only [T_weave_Out, goes_br, lt_len hk, nng, Bool.and_self, if_true, Int.toNat_natCast, getD_lt hk, e0, e1, e2, e3, e4, e5, b1, b2, wrap_succ (k := k) (by omega)]
                exact ihk r _ _ m2 hl1 (by omega) he
              · obtain ⟨m1, m2⟩ := hs.miss (fun n' r' e => by cases e; exact hn)
                rw [if_neg (by rw [m1]; decide)] at he
                have e5 : (n == (k : Int)) = false := by simpa using hn
                simp only [T_weave_Out, goes_br, lt_len hk, nng, Bool.and_self, if_true, Int.toNat_natCast, getD_lt hk, e0, e1, e2, e5, b1, b2, if_false, Bool.false_eq_true, wrap_succ (k := k) (by omega)]
                exact ihk _ [] _ m2 hl2 (by rw [List.length_append, List.length_singleton]; omega) (by rw [List.append_assoc]; exact he)
        rw [goes_jmp]
        simp only [T_weave_Out, goes_br, hvC, lt_len ht, lt_len hqt, nng, Bool.and_self, if_true, Int.toNat_natCast, getD_lt hqt, hqg, o1, o2, hpts, hx]
        exact inner 0 (Nat.zero_le _) pts [] [] (Suf.start (hpts ▸ hris' t)) (by simp) (by simp) rfl
    have := loop 0 (Nat.zero_le _)
    simpa using this
  have check : points.length ≤ p.2.length → ∀ t, t ≤ points.length → (∀ s, s < t → rising (points.getD s []) = true) → Goes (T_weave_Out p points) (.jmp (.l6 (t : Int))) (if okOuts (points.drop t) (p.2.drop t) then ((p.1, R), true) else (noProg, false)) := by
    intro hpt
    refine down ?_ fun t ht ih => ?_
    · intro hris
      rw [goes_jmp]
      simp only [T_weave_Out, goes_br, lt_len_not (Nat.lt_irrefl _), if_false, Bool.false_eq_true, hkC, if_true, hvC, List.drop_length]
      rw [if_pos (by rfl)]
      exact main hpt hris
    · intro hris
      have htp : t < p.2.length := by omega
      have hL := hpl _ (List.getElem_mem ht)
      obtain ⟨l, hl⟩ : ∃ l, points[t] = l := ⟨_, rfl⟩
      obtain ⟨x, hx⟩ : ∃ x, p.2[t] = x := ⟨_, rfl⟩
      rw [hl] at hL
      have hko : k_weave_order l = true := decide_eq_true (by omega)
      have hvo : v_weave_order l = rising l := rfl
      rw [okOuts_drop ht htp, hl, hx, goes_jmp]
      by_cases hr : rising l = true
      · have hnext : ∀ s, s < t + 1 → rising (points.getD s []) = true := fun s hs => by
          by_cases he : s = t
          · subst he; rw [getD_lt ht, hl]; exact hr
          · exact hris s (by omega)
        have hge := (rising_spec.1 hr).1
        have scan : ∀ j, j ≤ List.length l → Goes (T_weave_Out p points) (.jmp (.l15 l (Int.ofNat (List.length l)) (j : Int) (t : Int) (t : Int))) (if ((List.drop j l).all (fenceAt x) && okOuts (points.drop (t + 1)) (p.2.drop (t + 1))) then ((p.1, R), true) else (noProg, false)) := by
          refine down ?_ fun j hj ihj => ?_
          · rw [goes_jmp]
            simp only [T_weave_Out, goes_br, lt_len_not (Nat.lt_irrefl _), if_false, Bool.false_eq_true, wrap_succ (k := t) (by omega), List.drop_length, List.all_nil, Bool.true_and]
            exact ih hnext
          · have hg := hge _ (List.getElem_mem hj)
            obtain ⟨n, hn⟩ := Int.eq_ofNat_of_zero_le hg.1
            rw [drop_cons hj, List.all_cons, hn, goes_jmp]
            by_cases hlt : n < List.length x
            · have d1 : decide ((n : Int) ≥ Int.ofNat (List.length x)) = false := decide_eq_false (by simp; omega)
              have hf : fenceAt x (n : Int) = ((show Int from (x[n]).1) == 12) := by
                unfold fenceAt
                rw [decide_eq_true (by omega), Int.toNat_natCast, getD_lt hlt]; rfl
              simp only [T_weave_Out, goes_br, lt_len hj, nng, Bool.and_self, if_true, Int.toNat_natCast, getD_lt hj, hn, lt_len htp, getD_lt htp, hx, d1, lt_len hlt, getD_lt hlt, if_false, Bool.false_eq_true, wrap_succ (k := j) (by omega), hf]
              unfold bne
              cases h12 : ((x[n]).1 == (12 : Int)) with
              | true =>
                rw [if_neg (by decide), Bool.true_and]
                exact ihj
              | false =>
                rw [if_pos (by decide), Bool.false_and, Bool.false_and, if_neg (by decide)]
                exact .leaf
            · have d1 : decide ((n : Int) ≥ Int.ofNat (List.length x)) = true := decide_eq_true (by simp; omega)
              have hf : fenceAt x (n : Int) = false := by
                unfold fenceAt
                rw [decide_eq_false (by omega), Bool.false_and]
              simp only [T_weave_Out, goes_br, lt_len hj, nng, Bool.and_self, if_true, Int.toNat_natCast, getD_lt hj, hn, lt_len htp, getD_lt htp, hx, d1, hf, Bool.false_and, if_false, Bool.false_eq_true]
              exact .leaf
        simp only [T_weave_Out, goes_br, lt_len ht, nng, Bool.and_self, if_true, Int.toNat_natCast, getD_lt ht, hl, hko, hvo, hr, Bool.not_true, if_false, Bool.false_eq_true, okOut, Bool.true_and]
        exact scan 0 (Nat.zero_le _)
      · have hr' : rising l = false := by simpa using hr
        simp only [T_weave_Out, goes_br, lt_len ht, nng, Bool.and_self, if_true, Int.toNat_natCast, getD_lt ht, hl, hko, hvo, hr', Bool.not_false, okOut, Bool.false_and, if_false, Bool.false_eq_true]
        exact .leaf
  unfold T0_weave_Out v_weave_Out outC
  simp only [goes_br, hkc, if_true, v_valid_Check]
  by_cases hc : checkC p = 0
  · rw [if_neg (by simp [hc])]
    by_cases hp : p.2.length < points.length
    · rw [if_pos (by simp; omega), if_pos (.inr (.inl hp))]
      exact .leaf
    · rw [if_neg (by simp; omega)]
      have := check (by omega) 0 (Nat.zero_le _) (fun s hs => by omega)
      rw [List.drop_zero, List.drop_zero] at this
      cases hok : okOuts points p.2 with
      | true =>
        rw [hok, if_pos rfl] at this
        rw [if_neg (by simp [hc]; omega), hR]
        exact this
      | false =>
        rw [hok, if_neg (by decide)] at this
        rw [if_pos (.inr (.inr rfl))]
        exact this
  · rw [if_pos (by simpa using hc), if_pos (.inl hc)]
    exact .leaf
end Go.Ev
end

section
set_option linter.unusedSectionVars false
set_option linter.unusedVariables false
set_option linter.unusedSimpArgs false
set_option maxRecDepth 100000
set_option linter.unusedVariables false
open Go Go.Ev
namespace Go.Ev
noncomputable def e_weave_Out : Run := entG sg_weave_Out R_weave_Out (fun a => k_weave_Out a.1 a.2.1) (fun a => v_weave_Out a.1 a.2.1)
theorem ok_weave_Out : EntOK Go.Proofs.Tryd.prog 33 e_weave_Out := entG_ok (tb := tb_weave_Out) (c := c_weave_Out) tk_weave_Out (by kernel_rfl) (by kernel_rfl) (by kernel_rfl) (fun a => by kernel_rfl) fun ⟨p, fences, _⟩ hk => evF_goes (c := c_weave_Out) (K := fun v => (R_weave_Out v, tps (toForms sg_weave_Out (p, fences, ())))) (S := S_weave_Out p fences) (by kernel_rfl) (en_weave_Out p fences) (lp_weave_Out p fences) (g_weave_Out p fences hk)
end Go.Ev
end

section
set_option linter.unusedSectionVars false
set_option linter.unusedVariables false
set_option linter.unusedSimpArgs false
set_option maxRecDepth 100000
set_option linter.unusedVariables false
open Go Go.Ev
namespace Go.Ev
/-! ### paling/palingref1.sameInit -/
def sg_ref1_sameInit : Sig := [(false, (.sl (.int .i64))), (false, (.sl (.int .i64)))]
noncomputable def t_ref1_sameInit : Tbl := []
theorem tk_ref1_sameInit : ∀ p ∈ t_ref1_sameInit, EntOK Go.Proofs.Tryd.prog p.1 p.2 := tbl_nil
noncomputable def c_ref1_sameInit : Code := Go.Proofs.Tryd.f46.body.getD .skip
def tb_ref1_sameInit : Tb := [(6, ⟨[0, 1, 5], []⟩)]
inductive J_ref1_sameInit where
  | l6 (i : Int)
def T_ref1_sameInit (a : List Int) (b : List Int) : J_ref1_sameInit → JT J_ref1_sameInit (Bool)
  | .l6 i =>
    .br (decide (i < (Int.ofNat (List.length a))))
      (.br ((decide ((0 : Int) ≤ i)) && (decide (i < (Int.ofNat (List.length a)))))
        (.br ((decide ((0 : Int) ≤ i)) && (decide (i < (Int.ofNat (List.length b)))))
          (.br ((List.getD a (Int.toNat i) (dflt (.int .i64))) != (List.getD b (Int.toNat i) (dflt (.int .i64))))
            (.leaf false)
          (.jmp (.l6 (IntKind.i64.wrap (i + (1 : Int))))))
        (.no))
      (.no))
    (.leaf true)
def T0_ref1_sameInit (a : List Int) (b : List Int) : JT J_ref1_sameInit (Bool) :=
  .br ((Int.ofNat (List.length a)) != (Int.ofNat (List.length b)))
    (.leaf false)
  (.jmp (.l6 (0 : Int)))
def R_ref1_sameInit : Bool → AV := fun (r : Bool) => .d .bool r
def S_ref1_sameInit (a : List Int) (b : List Int) : J_ref1_sameInit → Nat × St
  | .l6 i => (6, ⟨mkTm 26 [(0, .d (.sl (.int .i64)) a), (1, .d (.sl (.int .i64)) b), (5, .d (.int .i64) i)], []⟩)
theorem en_ref1_sameInit (a : List Int) (b : List Int) (L : Lt) : entryA Go.Proofs.Tryd.prog (clOf t_ref1_sameInit) tb_ref1_sameInit Go.Proofs.Tryd.f46 c_ref1_sameInit L (toForms sg_ref1_sameInit (a, b, ())) = (T0_ref1_sameInit a b).run (fun v => some (R_ref1_sameInit v, tps (toForms sg_ref1_sameInit (a, b, ())))) fun j => L (S_ref1_sameInit a b j).1 (S_ref1_sameInit a b j).2 := by kernel_rfl
theorem lp_ref1_sameInit (a : List Int) (b : List Int) : ∀ (L : Lt) (j : J_ref1_sameInit), procOf (procsF Go.Proofs.Tryd.prog (clOf t_ref1_sameInit) tb_ref1_sameInit Go.Proofs.Tryd.f46 c_ref1_sameInit (toForms sg_ref1_sameInit (a, b, ()))) (S_ref1_sameInit a b j).1 L (S_ref1_sameInit a b j).2 = (T_ref1_sameInit a b j).run (fun v => some (R_ref1_sameInit v, tps (toForms sg_ref1_sameInit (a, b, ())))) fun j => L (S_ref1_sameInit a b j).1 (S_ref1_sameInit a b j).2
  | L, .l6 i => by kernel_rfl
end Go.Ev
end

section
set_option linter.unusedSectionVars false
set_option linter.unusedVariables false
set_option linter.unusedSimpArgs false
set_option linter.unusedVariables false
set_option linter.unusedSimpArgs false
open Go
namespace Go.Ev
/-- Asked of what is the same alone. -/
def v_ref1_sameInit (a b : List Int) : Bool := true
def k_ref1_sameInit (a b : List Int) : Bool := decide (a = b) && decide (a.length < 4611686018427387904)
theorem g_ref1_sameInit (a b : List Int) (hk : k_ref1_sameInit a b = true) : Goes (T_ref1_sameInit a b) (T0_ref1_sameInit a b) (v_ref1_sameInit a b) := by
  unfold k_ref1_sameInit at hk
  simp only [Bool.and_eq_true, decide_eq_true_eq] at hk
  obtain ⟨rfl, hn⟩ := hk
  have loop : ∀ k, k ≤ a.length → Goes (T_ref1_sameInit a a) (.jmp (.l6 (k : Int))) true := by
    refine down ?_ fun k hk ih => ?_
    · rw [goes_jmp]
      simp only [T_ref1_sameInit, goes_br, lt_len_not (Nat.lt_irrefl _), if_false, Bool.false_eq_true]
      exact .leaf
    · rw [goes_jmp]
      simp only [T_ref1_sameInit, goes_br, lt_len hk, nng, Bool.and_self, if_true, Int.toNat_natCast, getD_lt hk, wrap_succ (k := k) (by omega), beq_self_eq_true, bne_self_eq_false, Bool.not_true, if_false, Bool.false_eq_true]
      exact ih
  unfold T0_ref1_sameInit v_ref1_sameInit
  rw [goes_br, if_neg (by simp)]
  exact loop 0 (Nat.zero_le _)
end Go.Ev
end

section
set_option linter.unusedSectionVars false
set_option linter.unusedVariables false
set_option linter.unusedSimpArgs false
set_option maxRecDepth 100000
set_option linter.unusedVariables false
open Go Go.Ev
namespace Go.Ev
noncomputable def e_ref1_sameInit : Run := entG sg_ref1_sameInit R_ref1_sameInit (fun a => k_ref1_sameInit a.1 a.2.1) (fun a => v_ref1_sameInit a.1 a.2.1)
theorem ok_ref1_sameInit : EntOK Go.Proofs.Tryd.prog 46 e_ref1_sameInit := entG_ok (tb := tb_ref1_sameInit) (c := c_ref1_sameInit) tk_ref1_sameInit (by kernel_rfl) (by kernel_rfl) (by kernel_rfl) (fun a => by kernel_rfl) fun ⟨a, b, _⟩ hk => evF_goes (c := c_ref1_sameInit) (K := fun v => (R_ref1_sameInit v, tps (toForms sg_ref1_sameInit (a, b, ())))) (S := S_ref1_sameInit a b) (by kernel_rfl) (en_ref1_sameInit a b) (lp_ref1_sameInit a b) (g_ref1_sameInit a b hk)
end Go.Ev
end

section
set_option linter.unusedSectionVars false
set_option linter.unusedVariables false
set_option linter.unusedSimpArgs false
set_option maxRecDepth 100000
set_option linter.unusedVariables false
open Go Go.Ev
namespace Go.Ev
/-! ### paling/palingref1.SameTexts -/
def sg_ref1_SameTexts : Sig := [(false, (.sl .str)), (false, (.sl .str))]
noncomputable def t_ref1_SameTexts : Tbl := []
theorem tk_ref1_SameTexts : ∀ p ∈ t_ref1_SameTexts, EntOK Go.Proofs.Tryd.prog p.1 p.2 := tbl_nil
noncomputable def c_ref1_SameTexts : Code := Go.Proofs.Tryd.f60.body.getD .skip
def tb_ref1_SameTexts : Tb := [(6, ⟨[0, 1, 5], []⟩)]
inductive J_ref1_SameTexts where
  | l6 (i : Int)
def T_ref1_SameTexts (a : List ByteArray) (b : List ByteArray) : J_ref1_SameTexts → JT J_ref1_SameTexts (Bool)
  | .l6 i =>
    .br (decide (i < (Int.ofNat (List.length a))))
      (.br ((decide ((0 : Int) ≤ i)) && (decide (i < (Int.ofNat (List.length a)))))
        (.br ((decide ((0 : Int) ≤ i)) && (decide (i < (Int.ofNat (List.length b)))))
          (.br (! (eqB (List.getD a (Int.toNat i) (dflt .str)) (List.getD b (Int.toNat i) (dflt .str))))
            (.leaf false)
          (.jmp (.l6 (IntKind.i64.wrap (i + (1 : Int))))))
        (.no))
      (.no))
    (.leaf true)
def T0_ref1_SameTexts (a : List ByteArray) (b : List ByteArray) : JT J_ref1_SameTexts (Bool) :=
  .br ((Int.ofNat (List.length a)) != (Int.ofNat (List.length b)))
    (.leaf false)
  (.jmp (.l6 (0 : Int)))
def R_ref1_SameTexts : Bool → AV := fun (r : Bool) => .d .bool r
def S_ref1_SameTexts (a : List ByteArray) (b : List ByteArray) : J_ref1_SameTexts → Nat × St
  | .l6 i => (6, ⟨mkTm 26 [(0, .d (.sl .str) a), (1, .d (.sl .str) b), (5, .d (.int .i64) i)], []⟩)
theorem en_ref1_SameTexts (a : List ByteArray) (b : List ByteArray) (L : Lt) : entryA Go.Proofs.Tryd.prog (clOf t_ref1_SameTexts) tb_ref1_SameTexts Go.Proofs.Tryd.f60 c_ref1_SameTexts L (toForms sg_ref1_SameTexts (a, b, ())) = (T0_ref1_SameTexts a b).run (fun v => some (R_ref1_SameTexts v, tps (toForms sg_ref1_SameTexts (a, b, ())))) fun j => L (S_ref1_SameTexts a b j).1 (S_ref1_SameTexts a b j).2 := by kernel_rfl
theorem lp_ref1_SameTexts (a : List ByteArray) (b : List ByteArray) : ∀ (L : Lt) (j : J_ref1_SameTexts), procOf (procsF Go.Proofs.Tryd.prog (clOf t_ref1_SameTexts) tb_ref1_SameTexts Go.Proofs.Tryd.f60 c_ref1_SameTexts (toForms sg_ref1_SameTexts (a, b, ()))) (S_ref1_SameTexts a b j).1 L (S_ref1_SameTexts a b j).2 = (T_ref1_SameTexts a b j).run (fun v => some (R_ref1_SameTexts v, tps (toForms sg_ref1_SameTexts (a, b, ())))) fun j => L (S_ref1_SameTexts a b j).1 (S_ref1_SameTexts a b j).2
  | L, .l6 i => by kernel_rfl
end Go.Ev
end

section
set_option linter.unusedSectionVars false
set_option linter.unusedVariables false
set_option linter.unusedSimpArgs false
set_option linter.unusedVariables false
set_option linter.unusedSimpArgs false
open Go
namespace Go.Ev

def v_ref1_SameTexts (a b : List ByteArray) : Bool := decide (a = b)
def k_ref1_SameTexts (a b : List ByteArray) : Bool := decide (a.length < 4611686018427387904)
theorem g_ref1_SameTexts (a b : List ByteArray) (hk : k_ref1_SameTexts a b = true) : Goes (T_ref1_SameTexts a b) (T0_ref1_SameTexts a b) (v_ref1_SameTexts a b) := by
  have hn : a.length < 4611686018427387904 := of_decide_eq_true hk
  have loop : a.length = b.length → ∀ k, k ≤ a.length → Goes (T_ref1_SameTexts a b) (.jmp (.l6 (k : Int))) (decide (a.drop k = b.drop k)) := by
    intro he
    refine down ?_ fun k hk ih => ?_
    · rw [goes_jmp]
      simp [T_ref1_SameTexts, goes_br, goes_leaf, he]
    · rw [goes_jmp]
      have hkb : k < b.length := he ▸ hk
      simp only [T_ref1_SameTexts, goes_br, lt_len hk, lt_len hkb, nng, Bool.and_self, if_true, Int.toNat_natCast, getD_lt hk, getD_lt hkb, wrap_succ (k := k) (by omega), eqB_eq]
      rw [drop_cons hk, drop_cons hkb]
      by_cases h : a[k] = b[k]
      · simp only [h, decide_true, Bool.not_true, List.cons.injEq, true_and]
        simpa using ih
      · simp only [h, decide_false, Bool.not_false, List.cons.injEq, false_and, if_true]
        exact .leaf
  unfold T0_ref1_SameTexts v_ref1_SameTexts
  rw [goes_br]
  by_cases h : a.length = b.length
  · have := loop h 0 (Nat.zero_le _)
    simpa [h] using this
  · have : a ≠ b := fun e => h (congrArg _ e)
    rw [if_pos (by simp; omega), decide_eq_false this]
    exact .leaf

end Go.Ev
end

section
set_option linter.unusedSectionVars false
set_option linter.unusedVariables false
set_option linter.unusedSimpArgs false
set_option maxRecDepth 100000
set_option linter.unusedVariables false
open Go Go.Ev
namespace Go.Ev
noncomputable def e_ref1_SameTexts : Run := entG sg_ref1_SameTexts R_ref1_SameTexts (fun a => k_ref1_SameTexts a.1 a.2.1) (fun a => v_ref1_SameTexts a.1 a.2.1)
theorem ok_ref1_SameTexts : EntOK Go.Proofs.Tryd.prog 60 e_ref1_SameTexts := entG_ok (tb := tb_ref1_SameTexts) (c := c_ref1_SameTexts) tk_ref1_SameTexts (by kernel_rfl) (by kernel_rfl) (by kernel_rfl) (fun a => by kernel_rfl) fun ⟨a, b, _⟩ hk => evF_goes (c := c_ref1_SameTexts) (K := fun v => (R_ref1_SameTexts v, tps (toForms sg_ref1_SameTexts (a, b, ())))) (S := S_ref1_SameTexts a b) (by kernel_rfl) (en_ref1_SameTexts a b) (lp_ref1_SameTexts a b) (g_ref1_SameTexts a b hk)
end Go.Ev
end

section
set_option linter.unusedSectionVars false
set_option linter.unusedVariables false
set_option linter.unusedSimpArgs false
set_option maxRecDepth 100000
set_option linter.unusedVariables false
open Go Go.Ev
namespace Go.Ev
/-! ### paling/palingref1.SameIns -/
def sg_ref1_SameIns : Sig := [(true, T_api_Ins), (true, T_api_Ins)]
noncomputable def t_ref1_SameIns : Tbl := [(60, e_ref1_SameTexts)]
theorem tk_ref1_SameIns : ∀ p ∈ t_ref1_SameIns, EntOK Go.Proofs.Tryd.prog p.1 p.2 := tbl_cons ok_ref1_SameTexts (tbl_nil)
noncomputable def c_ref1_SameIns : Code := Go.Proofs.Tryd.f47.body.getD .skip
def tb_ref1_SameIns : Tb := []
def T_ref1_SameIns (a : El T_api_Ins) (b : El T_api_Ins) : Empty → JT Empty (Bool) := fun j => nomatch j
def T0_ref1_SameIns (a : El T_api_Ins) (b : El T_api_Ins) : JT Empty (Bool) :=
  .br (a.1 == b.1)
    (.br (a.2.1 == b.2.1)
      (.br (a.2.2.1 == b.2.2.1)
        (.br ((a.2.2.2.1.1 == b.2.2.2.1.1) && ((a.2.2.2.1.2.1 == b.2.2.2.1.2.1) && ((a.2.2.2.1.2.2.1 == b.2.2.2.1.2.2.1) && (a.2.2.2.1.2.2.2 == b.2.2.2.1.2.2.2))))
          (.br ((a.2.2.2.2.1.1 == b.2.2.2.2.1.1) && ((a.2.2.2.2.1.2.1 == b.2.2.2.2.1.2.1) && ((a.2.2.2.2.1.2.2.1 == b.2.2.2.2.1.2.2.1) && (a.2.2.2.2.1.2.2.2 == b.2.2.2.2.1.2.2.2))))
            (.br (eqB a.2.2.2.2.2.1 b.2.2.2.2.2.1)
              (.br (k_ref1_SameTexts a.2.2.2.2.2.2 b.2.2.2.2.2.2)
                (.leaf (v_ref1_SameTexts a.2.2.2.2.2.2 b.2.2.2.2.2.2))
              (.no))
            (.leaf false))
          (.leaf false))
        (.leaf false))
      (.leaf false))
    (.leaf false))
  (.leaf false)
def u_ref1_SameIns (a : El T_api_Ins) (b : El T_api_Ins) : Bool :=
  bif (a.1 == b.1) then
    bif (a.2.1 == b.2.1) then
      bif (a.2.2.1 == b.2.2.1) then
        bif ((a.2.2.2.1.1 == b.2.2.2.1.1) && ((a.2.2.2.1.2.1 == b.2.2.2.1.2.1) && ((a.2.2.2.1.2.2.1 == b.2.2.2.1.2.2.1) && (a.2.2.2.1.2.2.2 == b.2.2.2.1.2.2.2)))) then
          bif ((a.2.2.2.2.1.1 == b.2.2.2.2.1.1) && ((a.2.2.2.2.1.2.1 == b.2.2.2.2.1.2.1) && ((a.2.2.2.2.1.2.2.1 == b.2.2.2.2.1.2.2.1) && (a.2.2.2.2.1.2.2.2 == b.2.2.2.2.1.2.2.2)))) then
            bif (eqB a.2.2.2.2.2.1 b.2.2.2.2.2.1) then
              bif (k_ref1_SameTexts a.2.2.2.2.2.2 b.2.2.2.2.2.2) then
                (v_ref1_SameTexts a.2.2.2.2.2.2 b.2.2.2.2.2.2)
              else false
            else false
          else false
        else false
      else false
    else false
  else false
def ku_ref1_SameIns (a : El T_api_Ins) (b : El T_api_Ins) : Bool :=
  bif (a.1 == b.1) then
    bif (a.2.1 == b.2.1) then
      bif (a.2.2.1 == b.2.2.1) then
        bif ((a.2.2.2.1.1 == b.2.2.2.1.1) && ((a.2.2.2.1.2.1 == b.2.2.2.1.2.1) && ((a.2.2.2.1.2.2.1 == b.2.2.2.1.2.2.1) && (a.2.2.2.1.2.2.2 == b.2.2.2.1.2.2.2)))) then
          bif ((a.2.2.2.2.1.1 == b.2.2.2.2.1.1) && ((a.2.2.2.2.1.2.1 == b.2.2.2.2.1.2.1) && ((a.2.2.2.2.1.2.2.1 == b.2.2.2.2.1.2.2.1) && (a.2.2.2.2.1.2.2.2 == b.2.2.2.2.1.2.2.2)))) then
            bif (eqB a.2.2.2.2.2.1 b.2.2.2.2.2.1) then
              bif (k_ref1_SameTexts a.2.2.2.2.2.2 b.2.2.2.2.2.2) then
                true
              else false
            else true
          else true
        else true
      else true
    else true
  else true
theorem gu_ref1_SameIns (a : El T_api_Ins) (b : El T_api_Ins) (hk : ku_ref1_SameIns a b = true) : Goes (T_ref1_SameIns a b) (T0_ref1_SameIns a b) (u_ref1_SameIns a b) :=
  Goes.brk hk (fun hk =>
    Goes.brk hk (fun hk =>
      Goes.brk hk (fun hk =>
        Goes.brk hk (fun hk =>
          Goes.brk hk (fun hk =>
            Goes.brk hk (fun hk =>
              Goes.brk hk (fun hk =>
                Goes.leaf) (fun hk =>
                Goes.nok hk)) (fun hk =>
              Goes.leaf)) (fun hk =>
            Goes.leaf)) (fun hk =>
          Goes.leaf)) (fun hk =>
        Goes.leaf)) (fun hk =>
      Goes.leaf)) (fun hk =>
    Goes.leaf)
def R_ref1_SameIns : Bool → AV := fun (r : Bool) => .d .bool r
def S_ref1_SameIns (a : El T_api_Ins) (b : El T_api_Ins) : Empty → Nat × St := fun j => nomatch j
theorem en_ref1_SameIns (a : El T_api_Ins) (b : El T_api_Ins) (L : Lt) : entryA Go.Proofs.Tryd.prog (clOf t_ref1_SameIns) tb_ref1_SameIns Go.Proofs.Tryd.f47 c_ref1_SameIns L (toForms sg_ref1_SameIns (a, b, ())) = (T0_ref1_SameIns a b).run (fun v => some (R_ref1_SameIns v, tps (toForms sg_ref1_SameIns (a, b, ())))) fun j => L (S_ref1_SameIns a b j).1 (S_ref1_SameIns a b j).2 := by kernel_rfl
theorem lp_ref1_SameIns (a : El T_api_Ins) (b : El T_api_Ins) : ∀ (L : Lt) (j : Empty), procOf (procsF Go.Proofs.Tryd.prog (clOf t_ref1_SameIns) tb_ref1_SameIns Go.Proofs.Tryd.f47 c_ref1_SameIns (toForms sg_ref1_SameIns (a, b, ()))) (S_ref1_SameIns a b j).1 L (S_ref1_SameIns a b j).2 = (T_ref1_SameIns a b j).run (fun v => some (R_ref1_SameIns v, tps (toForms sg_ref1_SameIns (a, b, ())))) fun j => L (S_ref1_SameIns a b j).1 (S_ref1_SameIns a b j).2 := fun L j => nomatch j
end Go.Ev
end

section
set_option linter.unusedSectionVars false
set_option linter.unusedVariables false
set_option linter.unusedSimpArgs false
set_option linter.unusedVariables false
set_option linter.unusedSimpArgs false
open Go
namespace Go.Ev

def v_ref1_SameIns (a b : El T_api_Ins) : Bool := same T_api_Ins a b
def k_ref1_SameIns (a b : El T_api_Ins) : Bool := decide (a.2.2.2.2.2.2.length < 4611686018427387904)
theorem g_ref1_SameIns (a b : El T_api_Ins) (hk : k_ref1_SameIns a b = true) : Goes (T_ref1_SameIns a b) (T0_ref1_SameIns a b) (v_ref1_SameIns a b) := by
  obtain ⟨a1, a2, a3, ⟨a4, a5, a6, a7⟩, ⟨a8, a9, a10, a11⟩, a12, a13⟩ := a
  obtain ⟨b1, b2, b3, ⟨b4, b5, b6, b7⟩, ⟨b8, b9, b10, b11⟩, b12, b13⟩ := b
  have hs : same T_api_Ins (a1, a2, a3, (a4, a5, a6, a7), (a8, a9, a10, a11), a12, a13) (b1, b2, b3, (b4, b5, b6, b7), (b8, b9, b10, b11), b12, b13) = (decide (a1 = b1) && (decide (a2 = b2) && (decide (a3 = b3) && (decide (a4 = b4 ∧ a5 = b5 ∧ a6 = b6 ∧ a7 = b7) && (decide (a8 = b8 ∧ a9 = b9 ∧ a10 = b10 ∧ a11 = b11) && (decide (a12 = b12) && decide (a13 = b13))))))) := by
    rw [Bool.eq_iff_iff, same_iff]
    simp only [Prod.mk.injEq, Bool.and_eq_true, decide_eq_true_eq]
  have e4 : (a4 == b4 && (a5 == b5 && (a6 == b6 && a7 == b7))) = decide (a4 = b4 ∧ a5 = b5 ∧ a6 = b6 ∧ a7 = b7) := by
    rw [Bool.eq_iff_iff]; simp
  have e8 : (a8 == b8 && (a9 == b9 && (a10 == b10 && a11 == b11))) = decide (a8 = b8 ∧ a9 = b9 ∧ a10 = b10 ∧ a11 = b11) := by
    rw [Bool.eq_iff_iff]; simp
  have hkt : k_ref1_SameTexts a13 b13 = true := hk
  unfold T0_ref1_SameIns v_ref1_SameIns
  rw [hs]
  simp only [goes_br, goes_leaf, eqB_eq, e4, e8, hkt, if_true, v_ref1_SameTexts]
  generalize decide (a4 = b4 ∧ a5 = b5 ∧ a6 = b6 ∧ a7 = b7) = p4
  generalize decide (a8 = b8 ∧ a9 = b9 ∧ a10 = b10 ∧ a11 = b11) = p8
  by_cases h1 : a1 = b1 <;> by_cases h2 : a2 = b2 <;> by_cases h3 : a3 = b3 <;> cases p4 <;> cases p8 <;> by_cases h6 : a12 = b12 <;> simp [h1, h2, h3, h6]

end Go.Ev
end

section
set_option linter.unusedSectionVars false
set_option linter.unusedVariables false
set_option linter.unusedSimpArgs false
set_option maxRecDepth 100000
set_option linter.unusedVariables false
open Go Go.Ev
namespace Go.Ev
noncomputable def e_ref1_SameIns : Run := entG sg_ref1_SameIns R_ref1_SameIns (fun a => k_ref1_SameIns a.1 a.2.1) (fun a => v_ref1_SameIns a.1 a.2.1)
theorem ok_ref1_SameIns : EntOK Go.Proofs.Tryd.prog 47 e_ref1_SameIns := entG_ok (tb := tb_ref1_SameIns) (c := c_ref1_SameIns) tk_ref1_SameIns (by kernel_rfl) (by kernel_rfl) (by kernel_rfl) (fun a => by kernel_rfl) fun ⟨a, b, _⟩ hk => evF_goes (c := c_ref1_SameIns) (K := fun v => (R_ref1_SameIns v, tps (toForms sg_ref1_SameIns (a, b, ())))) (S := S_ref1_SameIns a b) (by kernel_rfl) (en_ref1_SameIns a b) (lp_ref1_SameIns a b) (g_ref1_SameIns a b hk)
end Go.Ev
end

section
set_option linter.unusedSectionVars false
set_option linter.unusedVariables false
set_option linter.unusedSimpArgs false
set_option maxRecDepth 100000
set_option linter.unusedVariables false
open Go Go.Ev
namespace Go.Ev
/-! ### paling/palingref1.SameProg -/
def sg_ref1_SameProg : Sig := [(true, T_api_Prog), (true, T_api_Prog)]
noncomputable def t_ref1_SameProg : Tbl := [(46, e_ref1_sameInit), (47, e_ref1_SameIns)]
theorem tk_ref1_SameProg : ∀ p ∈ t_ref1_SameProg, EntOK Go.Proofs.Tryd.prog p.1 p.2 := tbl_cons ok_ref1_sameInit (tbl_cons ok_ref1_SameIns (tbl_nil))
noncomputable def c_ref1_SameProg : Code := Go.Proofs.Tryd.f16.body.getD .skip
def tb_ref1_SameProg : Tb := [(6, ⟨[2, 3, 5], []⟩), (14, ⟨[2, 3, 6], []⟩), (23, ⟨[2, 3, 6, 7, 8, 9], []⟩)]
inductive J_ref1_SameProg where
  | l6 (i : Int)
  | l14 (i : Int)
  | l23 (a : List (El T_api_Ins)) (b : List (El T_api_Ins)) (k : Int) (i : Int)
def T_ref1_SameProg (p : El T_api_Prog) (q : El T_api_Prog) : J_ref1_SameProg → JT J_ref1_SameProg (Bool)
  | .l6 i =>
    .br (decide (i < (Int.ofNat (List.length p.1))))
      (.br ((decide ((0 : Int) ≤ i)) && (decide (i < (Int.ofNat (List.length p.1)))))
        (.br ((decide ((0 : Int) ≤ i)) && (decide (i < (Int.ofNat (List.length q.1)))))
          (.br (! (eqB (List.getD p.1 (Int.toNat i) (dflt T_api_Sym)).1 (List.getD q.1 (Int.toNat i) (dflt T_api_Sym)).1))
            (.leaf false)
          (.br ((decide ((0 : Int) ≤ i)) && (decide (i < (Int.ofNat (List.length p.1)))))
            (.br ((decide ((0 : Int) ≤ i)) && (decide (i < (Int.ofNat (List.length q.1)))))
              (.br ((List.getD p.1 (Int.toNat i) (dflt T_api_Sym)).2.1 != (List.getD q.1 (Int.toNat i) (dflt T_api_Sym)).2.1)
                (.leaf false)
              (.br ((decide ((0 : Int) ≤ i)) && (decide (i < (Int.ofNat (List.length p.1)))))
                (.br ((decide ((0 : Int) ≤ i)) && (decide (i < (Int.ofNat (List.length q.1)))))
                  (.br (k_ref1_sameInit (List.getD p.1 (Int.toNat i) (dflt T_api_Sym)).2.2 (List.getD q.1 (Int.toNat i) (dflt T_api_Sym)).2.2)
                    (.br (! (v_ref1_sameInit (List.getD p.1 (Int.toNat i) (dflt T_api_Sym)).2.2 (List.getD q.1 (Int.toNat i) (dflt T_api_Sym)).2.2))
                      (.leaf false)
                    (.jmp (.l6 (IntKind.i64.wrap (i + (1 : Int))))))
                  (.no))
                (.no))
              (.no)))
            (.no))
          (.no)))
        (.no))
      (.no))
    (.jmp (.l14 (0 : Int)))
  | .l14 i =>
    .br (decide (i < (Int.ofNat (List.length p.2))))
      (.br ((decide ((0 : Int) ≤ i)) && (decide (i < (Int.ofNat (List.length p.2)))))
        (.br ((decide ((0 : Int) ≤ i)) && (decide (i < (Int.ofNat (List.length q.2)))))
          (.br ((Int.ofNat (List.length (List.getD p.2 (Int.toNat i) (dflt (.sl T_api_Ins))))) != (Int.ofNat (List.length (List.getD q.2 (Int.toNat i) (dflt (.sl T_api_Ins))))))
            (.leaf false)
          (.jmp (.l23 (List.getD p.2 (Int.toNat i) (dflt (.sl T_api_Ins))) (List.getD q.2 (Int.toNat i) (dflt (.sl T_api_Ins))) (0 : Int) i)))
        (.no))
      (.no))
    (.leaf true)
  | .l23 a b k i =>
    .br (decide (k < (Int.ofNat (List.length a))))
      (.br ((decide ((0 : Int) ≤ k)) && (decide (k < (Int.ofNat (List.length a)))))
        (.br ((decide ((0 : Int) ≤ k)) && (decide (k < (Int.ofNat (List.length b)))))
          (.br (k_ref1_SameIns (List.getD a (Int.toNat k) (dflt T_api_Ins)) (List.getD b (Int.toNat k) (dflt T_api_Ins)))
            (.br (! (v_ref1_SameIns (List.getD a (Int.toNat k) (dflt T_api_Ins)) (List.getD b (Int.toNat k) (dflt T_api_Ins))))
              (.leaf false)
            (.jmp (.l23 a b (IntKind.i64.wrap (k + (1 : Int))) i)))
          (.no))
        (.no))
      (.no))
    (.jmp (.l14 (IntKind.i64.wrap (i + (1 : Int)))))
def T0_ref1_SameProg (p : El T_api_Prog) (q : El T_api_Prog) : JT J_ref1_SameProg (Bool) :=
  .br ((Int.ofNat (List.length p.1)) != (Int.ofNat (List.length q.1)))
    (.leaf false)
  (.br ((Int.ofNat (List.length p.2)) != (Int.ofNat (List.length q.2)))
    (.leaf false)
  (.jmp (.l6 (0 : Int))))
def R_ref1_SameProg : Bool → AV := fun (r : Bool) => .d .bool r
def S_ref1_SameProg (p : El T_api_Prog) (q : El T_api_Prog) : J_ref1_SameProg → Nat × St
  | .l6 i => (6, ⟨mkTm 117 [(2, .pt 3 0 0), (3, .pt 4 0 0), (5, .d (.int .i64) i)], [(3, 0, .box 27 [.d (.sl T_api_Sym) p.1, .d (.sl (.sl T_api_Ins)) p.2] none), (4, 0, .box 27 [.d (.sl T_api_Sym) q.1, .d (.sl (.sl T_api_Ins)) q.2] none)]⟩)
  | .l14 i => (14, ⟨mkTm 117 [(2, .pt 3 0 0), (3, .pt 4 0 0), (6, .d (.int .i64) i)], [(3, 0, .box 27 [.d (.sl T_api_Sym) p.1, .d (.sl (.sl T_api_Ins)) p.2] none), (4, 0, .box 27 [.d (.sl T_api_Sym) q.1, .d (.sl (.sl T_api_Ins)) q.2] none)]⟩)
  | .l23 a b k i => (23, ⟨mkTm 117 [(2, .pt 3 0 0), (3, .pt 4 0 0), (6, .d (.int .i64) i), (7, .d (.sl T_api_Ins) a), (8, .d (.sl T_api_Ins) b), (9, .d (.int .i64) k)], [(3, 0, .box 27 [.d (.sl T_api_Sym) p.1, .d (.sl (.sl T_api_Ins)) p.2] none), (4, 0, .box 27 [.d (.sl T_api_Sym) q.1, .d (.sl (.sl T_api_Ins)) q.2] none)]⟩)
theorem en_ref1_SameProg (p : El T_api_Prog) (q : El T_api_Prog) (L : Lt) : entryA Go.Proofs.Tryd.prog (clOf t_ref1_SameProg) tb_ref1_SameProg Go.Proofs.Tryd.f16 c_ref1_SameProg L (toForms sg_ref1_SameProg (p, q, ())) = (T0_ref1_SameProg p q).run (fun v => some (R_ref1_SameProg v, tps (toForms sg_ref1_SameProg (p, q, ())))) fun j => L (S_ref1_SameProg p q j).1 (S_ref1_SameProg p q j).2 := by kernel_rfl
theorem lp_ref1_SameProg (p : El T_api_Prog) (q : El T_api_Prog) : ∀ (L : Lt) (j : J_ref1_SameProg), procOf (procsF Go.Proofs.Tryd.prog (clOf t_ref1_SameProg) tb_ref1_SameProg Go.Proofs.Tryd.f16 c_ref1_SameProg (toForms sg_ref1_SameProg (p, q, ()))) (S_ref1_SameProg p q j).1 L (S_ref1_SameProg p q j).2 = (T_ref1_SameProg p q j).run (fun v => some (R_ref1_SameProg v, tps (toForms sg_ref1_SameProg (p, q, ())))) fun j => L (S_ref1_SameProg p q j).1 (S_ref1_SameProg p q j).2
  | L, .l6 i => by kernel_rfl
  | L, .l14 i => by kernel_rfl
  | L, .l23 a b k i => by kernel_rfl
end Go.Ev
end

section
set_option linter.unusedSectionVars false
set_option linter.unusedVariables false
set_option linter.unusedSimpArgs false
set_option linter.unusedVariables false
set_option linter.unusedSimpArgs false
open Go
namespace Go.Ev
/-- Asked of what is the same alone. -/
def v_ref1_SameProg (p q : El T_api_Prog) : Bool := true
def k_ref1_SameProg (p q : El T_api_Prog) : Bool := same T_api_Prog p q && copyB p
theorem g_ref1_SameProg (p q : El T_api_Prog) (hk : k_ref1_SameProg p q = true) : Goes (T_ref1_SameProg p q) (T0_ref1_SameProg p q) (v_ref1_SameProg p q) := by
  unfold k_ref1_SameProg at hk
  rw [Bool.and_eq_true, same_iff] at hk
  obtain ⟨rfl, hcp⟩ := hk
  have hC := copyOK hcp
  have hth := hC.thr
  have hsy := hC.syms
  have l14 : ∀ k, k ≤ p.2.length → Goes (T_ref1_SameProg p p) (.jmp (.l14 (k : Int))) true := by
    refine down ?_ fun k hk ih => ?_
    · rw [goes_jmp]
      simp only [T_ref1_SameProg, goes_br, lt_len_not (Nat.lt_irrefl _), if_false, Bool.false_eq_true]
      exact .leaf
    · obtain ⟨x, hx⟩ : ∃ x, p.2[k] = x := ⟨_, rfl⟩
      have hm : x ∈ p.2 := by rw [← hx]; exact List.getElem_mem hk
      have hl := hC.len x hm
      have l23 : ∀ j, j ≤ List.length x → Goes (T_ref1_SameProg p p) (.jmp (.l23 x x (j : Int) (k : Int))) true := by
        refine down ?_ fun j hj ihj => ?_
        · rw [goes_jmp]
          simp only [T_ref1_SameProg, goes_br, lt_len_not (Nat.lt_irrefl _), if_false, Bool.false_eq_true, wrap_succ (k := k) (by omega)]
          exact ih
        · have hb := hC.lab x hm _ (List.getElem_mem hj)
          have k1 : k_ref1_SameIns x[j] x[j] = true := decide_eq_true (by omega)
          have v1 : v_ref1_SameIns x[j] x[j] = true := same_iff.2 rfl
          rw [goes_jmp]
          simp only [T_ref1_SameProg, goes_br, lt_len hj, nng, Bool.and_self, if_true, Int.toNat_natCast, getD_lt hj, k1, v1, Bool.not_true, if_false, Bool.false_eq_true, wrap_succ (k := j) (by omega)]
          exact ihj
      rw [goes_jmp]
      simp only [T_ref1_SameProg, goes_br, lt_len hk, nng, Bool.and_self, if_true, Int.toNat_natCast, getD_lt hk, hx, bne_self_eq_false, if_false, Bool.false_eq_true]
      exact l23 0 (Nat.zero_le _)
  have l6 : ∀ k, k ≤ p.1.length → Goes (T_ref1_SameProg p p) (.jmp (.l6 (k : Int))) true := by
    refine down ?_ fun k hk ih => ?_
    · rw [goes_jmp]
      simp only [T_ref1_SameProg, goes_br, lt_len_not (Nat.lt_irrefl _), if_false, Bool.false_eq_true]
      exact l14 0 (Nat.zero_le _)
    · have hi := hC.init _ (List.getElem_mem hk)
      have e1 : eqB (p.1[k]).1 (p.1[k]).1 = true := eqB_iff.2 rfl
      have k1 : k_ref1_sameInit (p.1[k]).2.2 (p.1[k]).2.2 = true := by unfold k_ref1_sameInit; rw [decide_eq_true rfl, decide_eq_true (by omega)]; rfl
      have v1 : v_ref1_sameInit (p.1[k]).2.2 (p.1[k]).2.2 = true := rfl
      rw [goes_jmp]
      simp only [T_ref1_SameProg, goes_br, lt_len hk, nng, Bool.and_self, if_true, Int.toNat_natCast, getD_lt hk, e1, k1, v1, bne_self_eq_false, Bool.not_true, if_false, Bool.false_eq_true, wrap_succ (k := k) (by omega)]
      exact ih
  unfold T0_ref1_SameProg v_ref1_SameProg
  rw [goes_br, if_neg (by simp), goes_br, if_neg (by simp)]
  exact l6 0 (Nat.zero_le _)
end Go.Ev
end

section
set_option linter.unusedSectionVars false
set_option linter.unusedVariables false
set_option linter.unusedSimpArgs false
set_option maxRecDepth 100000
set_option linter.unusedVariables false
open Go Go.Ev
namespace Go.Ev
noncomputable def e_ref1_SameProg : Run := entG sg_ref1_SameProg R_ref1_SameProg (fun a => k_ref1_SameProg a.1 a.2.1) (fun a => v_ref1_SameProg a.1 a.2.1)
theorem ok_ref1_SameProg : EntOK Go.Proofs.Tryd.prog 16 e_ref1_SameProg := entG_ok (tb := tb_ref1_SameProg) (c := c_ref1_SameProg) tk_ref1_SameProg (by kernel_rfl) (by kernel_rfl) (by kernel_rfl) (fun a => by kernel_rfl) fun ⟨p, q, _⟩ hk => evF_goes (c := c_ref1_SameProg) (K := fun v => (R_ref1_SameProg v, tps (toForms sg_ref1_SameProg (p, q, ())))) (S := S_ref1_SameProg p q) (by kernel_rfl) (en_ref1_SameProg p q) (lp_ref1_SameProg p q) (g_ref1_SameProg p q hk)
end Go.Ev
end

section
set_option linter.unusedSectionVars false
set_option linter.unusedVariables false
set_option linter.unusedSimpArgs false
set_option maxRecDepth 100000
set_option linter.unusedVariables false
open Go Go.Ev
namespace Go.Ev
/-! ### paling/palinglaw26.WeaveRound -/
def sg_law26_WeaveRound : Sig := [(false, (.sl (.sl T_book_Act))), (false, (.sl (.sl (.int .i64))))]
noncomputable def t_law26_WeaveRound : Tbl := [(10, e_book_Prog), (11, e_book_GreatLists), (12, e_law26_alive), (13, e_book_Points), (14, e_weave_In), (35, e_ref1_Check), (21, e_weave_Fences), (33, e_weave_Out), (16, e_ref1_SameProg)]
theorem tk_law26_WeaveRound : ∀ p ∈ t_law26_WeaveRound, EntOK Go.Proofs.Tryd.prog p.1 p.2 := tbl_cons ok_book_Prog (tbl_cons ok_book_GreatLists (tbl_cons ok_law26_alive (tbl_cons ok_book_Points (tbl_cons ok_weave_In (tbl_cons ok_ref1_Check (tbl_cons ok_weave_Fences (tbl_cons ok_weave_Out (tbl_cons ok_ref1_SameProg (tbl_nil)))))))))
noncomputable def c_law26_WeaveRound : Code := Go.Proofs.Tryd.f8.body.getD .skip
def tb_law26_WeaveRound : Tb := [(13, ⟨[1, 5, 6, 8, 9], [(9, 46)]⟩)]
inductive J_law26_WeaveRound where
  | l13 (t : Int) (at_ : List (List Int))
def T_law26_WeaveRound (l : List (List (El T_book_Act))) (points : List (List Int)) : J_law26_WeaveRound → JT J_law26_WeaveRound (Bool)
  | .l13 t at_ =>
    .br (decide (t < (Int.ofNat (List.length (v_book_Points (v_book_Prog l (3 : Int) (6 : Int)) points false)))))
      (.br ((decide ((0 : Int) ≤ t)) && (decide (t < (Int.ofNat (List.length (v_book_Points (v_book_Prog l (3 : Int) (6 : Int)) points false))))))
        (.br (k_weave_Fences (List.getD (v_book_Points (v_book_Prog l (3 : Int) (6 : Int)) points false) (Int.toNat t) (dflt (.sl (.int .i64)))))
          (.br (Nat.ble (((List.length at_) + 1) * 24) limit)
            (.jmp (.l13 (IntKind.i64.wrap (t + (1 : Int))) (at_ ++ [(v_weave_Fences (List.getD (v_book_Points (v_book_Prog l (3 : Int) (6 : Int)) points false) (Int.toNat t) (dflt (.sl (.int .i64)))))])))
          (.no))
        (.no))
      (.no))
    (.br (k_weave_Out (v_weave_In (v_book_Prog l (3 : Int) (6 : Int)) (v_book_Points (v_book_Prog l (3 : Int) (6 : Int)) points false)).1 at_)
      (.br (v_weave_Out (v_weave_In (v_book_Prog l (3 : Int) (6 : Int)) (v_book_Points (v_book_Prog l (3 : Int) (6 : Int)) points false)).1 at_).2
        (.br (k_ref1_SameProg (v_weave_Out (v_weave_In (v_book_Prog l (3 : Int) (6 : Int)) (v_book_Points (v_book_Prog l (3 : Int) (6 : Int)) points false)).1 at_).1 (v_book_Prog l (3 : Int) (6 : Int)))
          (.br (v_ref1_SameProg (v_weave_Out (v_weave_In (v_book_Prog l (3 : Int) (6 : Int)) (v_book_Points (v_book_Prog l (3 : Int) (6 : Int)) points false)).1 at_).1 (v_book_Prog l (3 : Int) (6 : Int)))
            (.br k_law26_alive
              (.leaf v_law26_alive)
            (.no))
          (.leaf false))
        (.no))
      (.leaf false))
    (.no))
def T0_law26_WeaveRound (l : List (List (El T_book_Act))) (points : List (List Int)) : JT J_law26_WeaveRound (Bool) :=
  .br (k_book_Prog l (3 : Int) (6 : Int))
    (.br (k_book_GreatLists points)
      (.br (v_book_GreatLists points)
        (.br k_law26_alive
          (.leaf v_law26_alive)
        (.no))
      (.br (k_book_Points (v_book_Prog l (3 : Int) (6 : Int)) points false)
        (.br (k_weave_In (v_book_Prog l (3 : Int) (6 : Int)) (v_book_Points (v_book_Prog l (3 : Int) (6 : Int)) points false))
          (.br (! (v_weave_In (v_book_Prog l (3 : Int) (6 : Int)) (v_book_Points (v_book_Prog l (3 : Int) (6 : Int)) points false)).2)
            (.leaf false)
          (.br (k_ref1_Check (v_weave_In (v_book_Prog l (3 : Int) (6 : Int)) (v_book_Points (v_book_Prog l (3 : Int) (6 : Int)) points false)).1)
            (.br ((v_ref1_Check (v_weave_In (v_book_Prog l (3 : Int) (6 : Int)) (v_book_Points (v_book_Prog l (3 : Int) (6 : Int)) points false)).1) != (0 : Int))
              (.leaf false)
            (.jmp (.l13 (0 : Int) [])))
          (.no)))
        (.no))
      (.no)))
    (.no))
  (.no)
def R_law26_WeaveRound : Bool → AV := fun (r : Bool) => .d .bool r
def S_law26_WeaveRound (l : List (List (El T_book_Act))) (points : List (List Int)) : J_law26_WeaveRound → Nat × St
  | .l13 t at_ => (13, ⟨mkTm 62 [(1, .d (.sl (.sl (.int .i64))) (v_book_Points (v_book_Prog l (3 : Int) (6 : Int)) points false)), (5, .pt 6 0 0), (6, .pt 7 0 0), (8, .own 9 0 none), (9, .d (.int .i64) t)], [(6, 0, .box 27 [.own 6145 0 none, .own 6146 0 none] none), (7, 0, .box 27 [.own 7169 0 none, .own 7170 0 none] none), (9, 0, .row 36 (.sl (.int .i64)) at_ false), (6145, 0, .row 70 T_api_Sym (v_book_Prog l (3 : Int) (6 : Int)).1 true), (6146, 0, .row 58 (.sl T_api_Ins) (v_book_Prog l (3 : Int) (6 : Int)).2 true), (7169, 0, .row 70 T_api_Sym (v_weave_In (v_book_Prog l (3 : Int) (6 : Int)) (v_book_Points (v_book_Prog l (3 : Int) (6 : Int)) points false)).1.1 false), (7170, 0, .row 58 (.sl T_api_Ins) (v_weave_In (v_book_Prog l (3 : Int) (6 : Int)) (v_book_Points (v_book_Prog l (3 : Int) (6 : Int)) points false)).1.2 false)]⟩)
theorem en_law26_WeaveRound (l : List (List (El T_book_Act))) (points : List (List Int)) (L : Lt) : entryA Go.Proofs.Tryd.prog (clOf t_law26_WeaveRound) tb_law26_WeaveRound Go.Proofs.Tryd.f8 c_law26_WeaveRound L (toForms sg_law26_WeaveRound (l, points, ())) = (T0_law26_WeaveRound l points).run (fun v => some (R_law26_WeaveRound v, tps (toForms sg_law26_WeaveRound (l, points, ())))) fun j => L (S_law26_WeaveRound l points j).1 (S_law26_WeaveRound l points j).2 := by kernel_rfl
theorem lp_law26_WeaveRound (l : List (List (El T_book_Act))) (points : List (List Int)) : ∀ (L : Lt) (j : J_law26_WeaveRound), procOf (procsF Go.Proofs.Tryd.prog (clOf t_law26_WeaveRound) tb_law26_WeaveRound Go.Proofs.Tryd.f8 c_law26_WeaveRound (toForms sg_law26_WeaveRound (l, points, ()))) (S_law26_WeaveRound l points j).1 L (S_law26_WeaveRound l points j).2 = (T_law26_WeaveRound l points j).run (fun v => some (R_law26_WeaveRound v, tps (toForms sg_law26_WeaveRound (l, points, ())))) fun j => L (S_law26_WeaveRound l points j).1 (S_law26_WeaveRound l points j).2
  | L, .l13 t at_ => by kernel_rfl
end Go.Ev
end

section
set_option linter.unusedSectionVars false
set_option linter.unusedVariables false
set_option linter.unusedSimpArgs false
/- The way back from the places of what was laid in: over lists. -/
set_option linter.unusedVariables false
set_option linter.unusedSimpArgs false
namespace Go.Ev
open Go
/-- Each place, those with a fence twice. -/
def expand : Nat → List Bool → List Int
  | _, [] => []
  | k, b :: r => if b then (k : Int) :: (k : Int) :: expand (k + 1) r else (k : Int) :: expand (k + 1) r
theorem expand_len : ∀ (l : List Bool) (k : Nat), (expand k l).length = l.length + (listFrom k l).length
  | [], _ => rfl
  | b :: r, k => by
    have := expand_len r (k + 1)
    unfold expand listFrom
    split <;> simp only [List.length_cons] <;> omega
theorem listFrom_gt {l : List Bool} {k : Nat} {x : Int} (h : x ∈ listFrom k l) : (k : Int) ≤ x ∧ x < k + l.length := by
  obtain ⟨i, h1, h2⟩ := mem_listFrom.1 h
  have := (List.getElem?_eq_some_iff.1 h1).1
  omega
theorem fences_gt {l : List Int} {j : Nat} {y x : Int} (hl : ∀ n ∈ l, y < n) (h : x ∈ fencesFrom j l) : y + j < x := by
  obtain ⟨i, n, h1, h2⟩ := mem_fencesFrom.1 h
  have := hl n (List.mem_of_getElem? h1)
  omega
theorem below_zero {l : List Int} {x : Int} (h : ∀ f ∈ l, x ≤ f) : below l x = 0 := by
  unfold below
  rw [List.countP_eq_zero]
  intro f hf
  have := h f hf
  simp; omega
theorem below_cons {n : Int} {l : List Int} {x : Int} : below (n :: l) x = (if n < x then 1 else 0) + below l x := by
  unfold below
  rw [List.countP_cons, Nat.add_comm]
  congr 1
  by_cases h : n < x <;> simp [h]
theorem upTo_cons {n : Int} {l : List Int} {x : Int} : upTo (n :: l) x = (if n ≤ x then 1 else 0) + upTo l x := by
  unfold upTo
  rw [List.countP_cons, Nat.add_comm]
  congr 1
  by_cases h : n ≤ x <;> simp [h]
theorem listFrom_rising : ∀ (l : List Bool) (k : Nat), (listFrom k l).Pairwise (· < ·)
  | [], _ => List.Pairwise.nil
  | b :: r, k => by
    have ih := listFrom_rising r (k + 1)
    unfold listFrom
    split
    · exact List.pairwise_cons.2 ⟨fun x hx => by have := (listFrom_gt hx).1; omega, ih⟩
    · exact ih
theorem listFrom_isRising {l : List Bool} (h : l.length ≤ 2147483647) : rising (listFrom 0 l) = true :=
  rising_spec.2 ⟨fun x hx => by have := listFrom_gt hx; omega, listFrom_rising l 0⟩
theorem back_expand : ∀ (l : List Bool) (k j m : Nat) (x : Int), (expand k l)[m]? = some x → (x : Int) = (k + j + m : Nat) - ((j + below (fencesFrom j (listFrom k l)) ((k + j + m : Nat) : Int) : Nat) : Int)
  | [], k, j, m, x, h => by simp [expand] at h
  | b :: r, k, j, m, x, h => by
    have gt : ∀ f ∈ fencesFrom j (listFrom (k + 1) r), (k : Int) + j < f := fun f hf => fences_gt (fun n hn => by have := (listFrom_gt hn).1; omega) hf
    have gt2 : ∀ f ∈ fencesFrom (j + 1) (listFrom (k + 1) r), (k : Int) + j + 1 < f := fun f hf => by
      have := fences_gt (y := (k : Int)) (fun n hn => by have := (listFrom_gt hn).1; omega) hf
      omega
    unfold expand at h
    unfold listFrom
    cases b with
    | true =>
      rw [if_pos rfl] at h ⊢
      unfold fencesFrom
      rw [below_cons]
      match m, h with
      | 0, h =>
        have hx : x = (k : Int) := by simpa using h.symm
        rw [if_neg (by omega), below_zero (fun f hf => by have := gt2 f hf; omega)]
        omega
      | 1, h =>
        have hx : x = (k : Int) := by simpa using h.symm
        rw [if_pos (by omega), below_zero (fun f hf => by have := gt2 f hf; omega)]
        omega
      | m + 2, h =>
        have ih := back_expand r (k + 1) (j + 1) m x (by simpa using h)
        rw [if_pos (by omega)]
        rw [show k + j + (m + 2) = k + 1 + (j + 1) + m by omega]
        omega
    | false =>
      rw [if_neg (by decide)] at h ⊢
      match m, h with
      | 0, h =>
        have hx : x = (k : Int) := by simpa using h.symm
        rw [below_zero (fun f hf => by have := gt f hf; omega)]
        omega
      | m + 1, h =>
        have ih := back_expand r (k + 1) j m x (by simpa using h)
        rw [show k + j + (m + 1) = k + 1 + j + m by omega]
        exact ih
theorem there_back : ∀ (l : List Int) (j : Nat) (i : Int), l.Pairwise (· < ·) → below (fencesFrom j l) (i + (j + upTo l i : Nat)) = upTo l i ∧ (i + (j + upTo l i : Nat)) ∉ fencesFrom j l
  | [], j, i, _ => ⟨rfl, by simp [fencesFrom]⟩
  | n :: r, j, i, h => by
    obtain ⟨h1, h2⟩ := List.pairwise_cons.1 h
    obtain ⟨ih1, ih2⟩ := there_back r (j + 1) i h2
    rw [upTo_cons]
    unfold fencesFrom
    by_cases hn : n ≤ i
    · rw [if_pos hn, show j + (1 + upTo r i) = j + 1 + upTo r i by omega, below_cons, if_pos (by omega), ih1]
      refine ⟨rfl, fun hm => ?_⟩
      rcases List.mem_cons.1 hm with hm | hm
      · omega
      · exact ih2 hm
    · have h0 : upTo r i = 0 := by
        unfold upTo
        rw [List.countP_eq_zero]
        intro f hf
        have := h1 f hf
        simp; omega
      have gt : ∀ f ∈ fencesFrom (j + 1) r, i + j < f := fun f hf => by
        have := fences_gt (y := i) (fun n hn => by have := h1 n hn; omega) hf
        omega
      rw [if_neg hn, h0, below_cons, if_neg (by omega), below_zero (fun f hf => by have := gt f hf; omega)]
      refine ⟨rfl, fun hm => ?_⟩
      rcases List.mem_cons.1 hm with hm | hm
      · omega
      · have := gt _ hm; omega
theorem fence_back : ∀ (l : List Int) (j k : Nat) (n : Int), l.Pairwise (· < ·) → l[k]? = some n → below (fencesFrom j l) (n + (j + k : Nat)) = k
  | [], j, k, n, _, h => by simp at h
  | m :: r, j, k, n, h, hk => by
    obtain ⟨h1, h2⟩ := List.pairwise_cons.1 h
    unfold fencesFrom
    rw [below_cons]
    cases k with
    | zero =>
      have : m = n := by simpa using hk
      subst this
      rw [if_neg (by omega), below_zero fun f hf => by
        have := fences_gt (y := m) h1 hf
        omega]
    | succ k =>
      have hk' : r[k]? = some n := by simpa using hk
      have ih := fence_back r (j + 1) k n h2 hk'
      have := h1 n (List.mem_of_getElem? hk')
      rw [if_pos (by omega), show j + (k + 1) = j + 1 + k by omega, ih]
      omega
theorem fencesFrom_get : ∀ (l : List Int) (j k : Nat) (n : Int), l[k]? = some n → (fencesFrom j l)[k]? = some (n + (j + k : Nat))
  | [], j, k, n, h => by simp at h
  | m :: r, j, k, n, h => by
    unfold fencesFrom
    cases k with
    | zero => have : m = n := by simpa using h
              subst this; simp
    | succ k =>
      have := fencesFrom_get r (j + 1) k n (by simpa using h)
      rw [List.getElem?_cons_succ, this]
      congr 1
      omega
theorem expand_ge {l : List Bool} : ∀ {k : Nat} {x : Int}, x ∈ expand k l → (k : Int) ≤ x ∧ x < k + l.length := by
  induction l with
  | nil => intro k x h; simp [expand] at h
  | cons b r ih =>
    intro k x h
    have key : x = (k : Int) ∨ x ∈ expand (k + 1) r := by
      unfold expand at h
      split at h <;> simp only [List.mem_cons] at h <;> rcases h with h | h <;> first | exact .inl h | exact .inr h | (rcases h with h | h <;> first | exact .inl h | exact .inr h)
    rcases key with rfl | h
    · rw [List.length_cons]; omega
    · have := ih h; rw [List.length_cons]; omega
theorem expand_sorted : ∀ (l : List Bool) (k : Nat), (expand k l).Pairwise (· ≤ ·)
  | [], _ => List.Pairwise.nil
  | b :: r, k => by
    have ih := expand_sorted r (k + 1)
    have hge : ∀ x ∈ expand (k + 1) r, (k : Int) ≤ x := fun x hx => by have := (expand_ge hx).1; omega
    unfold expand
    split
    · refine List.pairwise_cons.2 ⟨fun x hx => ?_, List.pairwise_cons.2 ⟨hge, ih⟩⟩
      rcases List.mem_cons.1 hx with rfl | hx
      · exact Int.le_refl _
      · exact hge x hx
    · exact List.pairwise_cons.2 ⟨hge, ih⟩
theorem expand_count : ∀ (l : List Bool) (k i : Nat) (b : Bool), l[i]? = some b → (expand k l).count ((k + i : Nat) : Int) = if b then 2 else 1
  | [], k, i, b, h => by simp at h
  | c :: r, k, i, b, h => by
    have hz : (expand (k + 1) r).count (k : Int) = 0 := by
      rw [List.count_eq_zero]
      intro hm
      have := (expand_ge hm).1
      omega
    cases i with
    | zero =>
      have : c = b := by simpa using h
      subst this
      unfold expand
      cases c <;> simp [hz]
    | succ i =>
      have ih := expand_count r (k + 1) i b (by simpa using h)
      have hne : ((k : Int) == ((k + (i + 1) : Nat) : Int)) = false := by simp; omega
      rw [show k + 1 + i = k + (i + 1) by omega] at ih
      unfold expand
      split
      · rw [List.count_cons, List.count_cons, hne, ih]; simp
      · rw [List.count_cons, hne, ih]; simp
/-- How often each place was come to. -/
def cameC (n : Nat) (l : List Int) : List Int := (List.range n).map fun (i : Nat) => (l.count (i : Int) : Int)
theorem cameC_get {n : Nat} {l : List Int} {i : Nat} (h : i < n) : (cameC n l)[i]? = some (l.count (i : Int) : Int) := by
  unfold cameC
  rw [List.getElem?_map, List.getElem?_range h]; rfl
theorem cameC_len {n : Nat} {l : List Int} : (cameC n l).length = n := by unfold cameC; simp
theorem cameC_snoc {n : Nat} {l : List Int} {b : Nat} (hb : b < n) : (cameC n l).set b ((l.count (b : Int) : Int) + 1) = cameC n (l ++ [(b : Int)]) := by
  apply List.ext_getElem?
  intro i
  rw [List.getElem?_set]
  by_cases hi : i < n
  · rw [cameC_get hi, cameC_get hi, cameC_len]
    by_cases he : b = i
    · subst he
      rw [if_pos rfl, if_pos hb, List.count_append]
      simp
    · rw [if_neg he, List.count_append]
      have : List.count (i : Int) [(b : Int)] = 0 := by rw [List.count_eq_zero]; simp; omega
      rw [this]; rfl
  · have h1 : (cameC n l)[i]? = none := List.getElem?_eq_none (by rw [cameC_len]; omega)
    have h2 : (cameC n (l ++ [(b : Int)]))[i]? = none := List.getElem?_eq_none (by rw [cameC_len]; omega)
    rw [h1, h2, if_neg (by omega)]
theorem cameC_nil {n : Nat} : List.replicate n (0 : Int) = cameC n [] := by
  unfold cameC
  simp only [List.count_nil, Int.natCast_zero, List.map_const', List.length_range]
end Go.Ev
end

section
set_option linter.unusedSectionVars false
set_option linter.unusedVariables false
set_option linter.unusedSimpArgs false
/- A program with fences laid in may be, if it may be without; fences taken out again leave it as it was. -/
set_option maxRecDepth 100000
set_option linter.unusedVariables false
set_option linter.unusedSimpArgs false
namespace Go.Ev
open Go
theorem mem_laidT {l : List Int} : ∀ {x : List (El T_api_Ins)} {k : Nat} {j : El T_api_Ins}, j ∈ laidT l k x → ∃ i ∈ x, j = i ∨ j = fenceI (labsOf i) ∨ j = withLs i []
  | [], _, _, h => by cases h
  | i :: r, k, j, h => by
    unfold laidT at h
    split at h
    · rcases List.mem_cons.1 h with rfl | h
      · exact ⟨i, by simp, .inr (.inl rfl)⟩
      · rcases List.mem_cons.1 h with rfl | h
        · exact ⟨i, by simp, .inr (.inr rfl)⟩
        · obtain ⟨a, b, c⟩ := mem_laidT h; exact ⟨a, by simp [b], c⟩
    · rcases List.mem_cons.1 h with rfl | h
      · exact ⟨j, by simp, .inl rfl⟩
      · obtain ⟨a, b, c⟩ := mem_laidT h; exact ⟨a, by simp [b], c⟩
theorem labels_laid (l : List Int) : ∀ (x : List (El T_api_Ins)) (k : Nat), labels (laidT l k x) = labels x
  | [], _ => rfl
  | i :: r, k => by
    have ih := labels_laid l r (k + 1)
    unfold labels at *
    unfold laidT
    split
    · rw [List.flatMap_cons, List.flatMap_cons, List.flatMap_cons, ih]
      rfl
    · rw [List.flatMap_cons, List.flatMap_cons, ih]
theorem small_laid {l : List Int} {x : List (El T_api_Ins)} (h : smallThread x = true) (hl : x.length < 1073741824) (k : Nat) : smallThread (laidT l k x) = true := by
  have hS := smallT h
  have h2 := laidT_len l x k
  unfold smallThread
  simp only [Bool.and_eq_true, decide_eq_true_eq, List.all_eq_true]
  refine ⟨by omega, by rw [labels_laid]; exact hS.labs, fun j hj => ?_⟩
  obtain ⟨i, hi, h | h | h⟩ := mem_laidT hj
  · subst h; exact ⟨hS.to _ hi, hS.lab _ hi⟩
  · subst h; exact ⟨show smallText (bs []) = true by decide +kernel, fun l hl => hS.lab i hi l hl⟩
  · subst h; exact ⟨hS.to i hi, fun l hl => by cases hl⟩
/-! the thread's rule -/
theorem countM_laid (l : List Int) : ∀ (x : List (El T_api_Ins)) (k : Nat), countM (laidT l k x) = countM x
  | [], _ => rfl
  | i :: r, k => by
    have ih := countM_laid l r (k + 1)
    unfold countM at *
    unfold laidT
    split
    · rw [List.filter_cons, List.filter_cons, List.filter_cons]
      have e1 : ((fenceI (labsOf i)).1 != (12 : Int)) = false := (show ((12 : Int) != 12) = false by decide)
      have e2 : ((withLs i []).1 != (12 : Int)) = (i.1 != (12 : Int)) := rfl
      rw [e1, e2]
      split
      · rename_i h; cases h
      · split
        · rw [List.length_cons, List.length_cons, ih]
        · exact ih
    · rw [List.filter_cons, List.filter_cons]
      split
      · rw [List.length_cons, List.length_cons, ih]
      · exact ih
theorem insC_fence {p : El T_api_Prog} (ls : List ByteArray) : insC p (fenceI ls) = 0 := by
  have h : v_ins_Right (fenceI ls) = 0 := by
    rw [show v_ins_Right (fenceI ls) = v_ins_Right (bare 12) from rfl]
    exact bare_right (.inl rfl)
  unfold insC
  rw [h]
  rfl
theorem insC_withLs {p : El T_api_Prog} (i : El T_api_Ins) (ls : List ByteArray) : insC p (withLs i ls) = insC p i := rfl
theorem scanL_congr {seen : List ByteArray} {K K' : List ByteArray → Int} (h : ∀ s, K s = K' s) : ∀ (ls : List ByteArray), scanL seen K ls = scanL seen K' ls := by
  intro ls
  induction ls generalizing seen with
  | nil => exact h seen
  | cons a r ih => unfold scanL; rw [ih]
theorem scanI_laid (l : List Int) {p : El T_api_Prog} {K : List ByteArray → Int} : ∀ (x : List (El T_api_Ins)) (k : Nat) (seen : List ByteArray), scanI p K seen (laidT l k x) = scanI p K seen x
  | [], _, _ => rfl
  | i :: r, k, seen => by
    rw [laidT]
    split
    · rw [scanI, scanI]
      refine scanL_congr (fun s => ?_) _
      rw [insC_fence, if_neg (by decide), scanI]
      show (if insC p (withLs i []) ≠ 0 then _ else _) = _
      rw [insC_withLs, scanI_laid l r (k + 1) s]
    · rw [scanI, scanI]
      refine scanL_congr (fun s => ?_) _
      rw [scanI_laid l r (k + 1) s]
theorem last_laid (l : List Int) : ∀ (x : List (El T_api_Ins)) (k : Nat), (laidT l k x).getLast?.map (fun i => (show Int from i.1)) = x.getLast?.map (fun i => (show Int from i.1))
  | [], _ => rfl
  | i :: r, k => by
    have ih := last_laid l r (k + 1)
    cases r with
    | nil =>
      rw [laidT]
      split <;> rfl
    | cons j r =>
      obtain ⟨b, bs, hb⟩ : ∃ b bs, laidT l (k + 1) (j :: r) = b :: bs := by
        rw [laidT]
        split <;> exact ⟨_, _, rfl⟩
      rw [laidT]
      rw [hb] at ih ⊢
      split
      · rw [List.getLast?_cons_cons, List.getLast?_cons_cons, ih, List.getLast?_cons_cons]
      · rw [List.getLast?_cons_cons, ih, List.getLast?_cons_cons]
theorem endC_map {t t' : List (El T_api_Ins)} {K : Int} (h : t.getLast?.map (fun i => (show Int from i.1)) = t'.getLast?.map (fun i => (show Int from i.1))) : endC t K = endC t' K := by
  unfold endC
  cases h1 : t.getLast? with
  | none =>
    cases h2 : t'.getLast? with
    | none => rfl
    | some b => rw [h1, h2] at h; cases h
  | some a =>
    cases h2 : t'.getLast? with
    | none => rw [h1, h2] at h; cases h
    | some b =>
      rw [h1, h2] at h
      have e : a.1 = b.1 := Option.some.inj h
      show (if _ then K else 9) = if _ then K else 9
      rw [e]
theorem jumpC_laid (l : List Int) {seen : List ByteArray} : ∀ (x : List (El T_api_Ins)) (k : Nat), jumpC seen (laidT l k x) = jumpC seen x
  | [], _ => rfl
  | i :: r, k => by
    have ih := jumpC_laid l (seen := seen) r (k + 1)
    rw [laidT]
    split
    · rw [jumpC, if_neg (by show ¬ (((12 : Int) == 10) || ((12 : Int) == 11)) = true; decide), jumpC, ih, jumpC]
      rfl
    · rw [jumpC, ih, jumpC]
theorem threadC_laid (l : List Int) {p : El T_api_Prog} (x : List (El T_api_Ins)) : threadC p (laidT l 0 x) = threadC p x := by
  unfold threadC
  rw [countM_laid]
  split
  · rfl
  · have e : (fun seen => endC (laidT l 0 x) (jumpC seen (laidT l 0 x))) = fun seen => endC x (jumpC seen x) := by
      funext seen
      rw [jumpC_laid, endC_map (last_laid l x 0)]
    rw [e, scanI_laid]
theorem scanI_syms {s : List (El T_api_Sym)} {a b : List (List (El T_api_Ins))} {K : List ByteArray → Int} : ∀ (x : List (El T_api_Ins)) (seen : List ByteArray), scanI (s, a) K seen x = scanI (s, b) K seen x
  | [], _ => rfl
  | i :: r, seen => by
    rw [scanI, scanI]
    refine scanL_congr (fun sn => ?_) _
    rw [scanI_syms r sn]
    rfl
theorem threadC_syms {s : List (El T_api_Sym)} {a b : List (List (El T_api_Ins))} (x : List (El T_api_Ins)) : threadC (s, a) x = threadC (s, b) x := by
  unfold threadC
  rw [scanI_syms (a := a) (b := b)]
theorem thsC_laid {s : List (El T_api_Sym)} {a b : List (List (El T_api_Ins))} : ∀ (ls : List (List Int)) (xs : List (List (El T_api_Ins))), thsC (s, a) (laidP ls xs) = thsC (s, b) xs
  | _, [] => by cases ‹List (List Int)› <;> rfl
  | [], x :: xs => by
    have ih := thsC_laid (s := s) (a := a) (b := b) [] xs
    rw [laidP, thsC, thsC, threadC_syms (a := a) (b := b)]
    rw [show laidP [] xs = xs by cases xs <;> rfl] at ih
    rw [ih]
  | l :: ls, x :: xs => by
    rw [laidP, thsC, thsC, threadC_laid, threadC_syms (a := a) (b := b), thsC_laid ls xs]
theorem check_laid {p : El T_api_Prog} (ls : List (List Int)) : checkC (p.1, laidP ls p.2) = checkC p := by
  unfold checkC
  show (if 64 < p.1.length ∨ 64 < (laidP ls p.2).length then 10 else symsC (thsC (p.1, laidP ls p.2) (laidP ls p.2)) [] p.1) = _
  rw [laidP_len, thsC_laid (b := p.2) ls p.2]
theorem mem_laidP : ∀ {ls : List (List Int)} {xs : List (List (El T_api_Ins))} {t : List (El T_api_Ins)}, t ∈ laidP ls xs → ∃ l, ∃ x ∈ xs, t = laidT l 0 x
  | _, [], _, h => by cases ‹List (List Int)› <;> cases h
  | [], x :: xs, t, h => ⟨[], t, h, (laidT_nil t 0).symm⟩
  | l :: ls, x :: xs, t, h => by
    rw [laidP] at h
    rcases List.mem_cons.1 h with rfl | h
    · exact ⟨l, x, by simp, rfl⟩
    · obtain ⟨a, b, c, d⟩ := mem_laidP h
      exact ⟨a, b, by simp [c], d⟩
/-- What may be laid into. -/
structure Few (p : El T_api_Prog) (n : Nat) : Prop where
  syms : p.1.length ≤ 1000
  init : ∀ s ∈ p.1, List.length s.2.2 ≤ 1000
  thr : p.2.length ≤ 1000
  len : ∀ t ∈ p.2, List.length t ≤ n
  lab : ∀ t ∈ p.2, (labels t).length ≤ n
theorem few_copy {p : El T_api_Prog} {n : Nat} (h : Few p n) (hn : n ≤ 1000000) : copyB p = true := by
  have hl : ∀ t ∈ p.2, ∀ i ∈ t, List.length i.2.2.2.2.2.2 ≤ n := fun t ht i hi => Nat.le_trans (labels_mem hi) (h.lab t ht)
  have h1 := h.syms
  have h2 := h.thr
  unfold copyB copyThread copyIns
  simp only [Bool.and_eq_true, decide_eq_true_eq, List.all_eq_true]
  exact ⟨by omega, fun s hs => by have := h.init s hs; omega, by omega, fun t ht => ⟨by have := h.len t ht; omega, fun i hi => by have := hl t ht i hi; omega⟩⟩
theorem few_laid {p : El T_api_Prog} {n : Nat} (h : Few p n) (ls : List (List Int)) : Few (p.1, laidP ls p.2) (2 * n) := by
  refine ⟨h.syms, h.init, by rw [laidP_len]; exact h.thr, fun t ht => ?_, fun t ht => ?_⟩ <;> obtain ⟨l, x, hx, rfl⟩ := mem_laidP ht
  · have := laidT_len l x 0
    have := h.len x hx
    omega
  · rw [labels_laid]
    have := h.lab x hx
    omega
theorem small_laidP {p : El T_api_Prog} (h : smallProg p = true) {n : Nat} (hf : Few p n) (hn : n ≤ 1000000) (ls : List (List Int)) : smallProg (p.1, laidP ls p.2) = true := by
  unfold smallProg at *
  simp only [Bool.and_eq_true, List.all_eq_true] at *
  refine ⟨h.1, fun t ht => ?_⟩
  obtain ⟨l, x, hx, rfl⟩ := mem_laidP ht
  exact small_laid (h.2 x hx) (by have := hf.len x hx; omega) 0
/-! taken out -/
theorem labels_out (l : List Int) : ∀ (x : List (El T_api_Ins)) (k : Nat) (ls : List ByteArray), (labels (outT l k ls x)).length ≤ ls.length + (labels x).length
  | [], _, _ => Nat.zero_le _
  | i :: r, k, ls => by
    rw [labels_cons, outT]
    split
    · have := labels_out l r (k + 1) (ls ++ labsOf i)
      rw [List.length_append] at this
      omega
    · have := labels_out l r (k + 1) []
      rw [labels_cons]
      have e : (labsOf (withLs i (ls ++ labsOf i))).length = ls.length + (labsOf i).length := by
        show (ls ++ labsOf i).length = _
        rw [List.length_append]
      rw [e]
      simp at this
      omega
theorem mem_outP : ∀ {ls : List (List Int)} {xs : List (List (El T_api_Ins))} {t : List (El T_api_Ins)}, t ∈ outP ls xs → ∃ l, ∃ x ∈ xs, t = outT l 0 [] x
  | _, [], _, h => by cases ‹List (List Int)› <;> cases h
  | [], x :: xs, t, h => ⟨[], t, h, (outT_nil t 0).symm⟩
  | l :: ls, x :: xs, t, h => by
    rw [outP] at h
    rcases List.mem_cons.1 h with rfl | h
    · exact ⟨l, x, by simp, rfl⟩
    · obtain ⟨a, b, c, d⟩ := mem_outP h
      exact ⟨a, b, by simp [c], d⟩
theorem few_out {p : El T_api_Prog} {n : Nat} (h : Few p n) (ls : List (List Int)) : Few (p.1, outP ls p.2) n := by
  refine ⟨h.syms, h.init, by rw [outP_len]; exact h.thr, fun t ht => ?_, fun t ht => ?_⟩ <;> obtain ⟨l, x, hx, rfl⟩ := mem_outP ht
  · exact Nat.le_trans (outT_len l x 0 []) (h.len x hx)
  · have := labels_out l x 0 []
    have := h.lab x hx
    simp at *
    omega
/-! there and back -/
theorem below_mono {l : List Int} {a b : Int} (h : a ≤ b) : below l a ≤ below l b := by
  unfold below
  exact List.countP_mono_left fun x _ hx => by
    have hx' : x < a := of_decide_eq_true hx
    exact decide_eq_true (Int.lt_of_lt_of_le hx' h)
theorem below_succ {l : List Int} (hp : l.Pairwise (· < ·)) (k : Int) : below l (k + 1) = below l k + if l.contains k then 1 else 0 := by
  induction l with
  | nil => rfl
  | cons n r ih =>
    obtain ⟨h1, h2⟩ := List.pairwise_cons.1 hp
    rw [below_cons, below_cons, ih h2, List.contains_cons]
    by_cases he : k = n
    · subst he
      have hz : r.contains k = false := by
        rw [← Bool.not_eq_true, List.contains_iff_mem]
        intro hm
        have := h1 k hm; omega
      rw [hz, if_pos (show k < k + 1 by omega), if_neg (show ¬ (k < k) by omega), beq_self_eq_true]
      simp
      omega
    · rw [beq_false_of_ne he, Bool.false_or]
      by_cases hlt : n < k
      · rw [if_pos (by omega), if_pos hlt]; omega
      · rw [if_neg (by omega), if_neg hlt]; omega
theorem below_index {l : List Int} (hp : l.Pairwise (· < ·)) {i : Nat} {n : Int} (h : l[i]? = some n) : below l n = i := by
  induction l generalizing i with
  | nil => simp at h
  | cons m r ih =>
    obtain ⟨h1, h2⟩ := List.pairwise_cons.1 hp
    rw [below_cons]
    cases i with
    | zero =>
      have : m = n := by simpa using h
      subst this
      rw [if_neg (by omega), below_zero fun f hf => by have := h1 f hf; omega]
    | succ i =>
      have h' : r[i]? = some n := by simpa using h
      have := h1 n (List.mem_of_getElem? h')
      rw [if_pos (by omega), ih h2 h']
      omega
theorem mem_fences_iff {l : List Int} (hp : l.Pairwise (· < ·)) {x : Int} : x ∈ fencesFrom 0 l ↔ ∃ n ∈ l, x = n + below l n := by
  rw [mem_fencesFrom]
  constructor
  · rintro ⟨i, n, h1, h2⟩
    exact ⟨n, List.mem_of_getElem? h1, by rw [below_index hp h1, h2]; omega⟩
  · rintro ⟨n, h1, h2⟩
    obtain ⟨i, hi, rfl⟩ := List.mem_iff_getElem.1 h1
    have h3 := List.getElem?_eq_getElem hi
    exact ⟨i, _, h3, by rw [h2, below_index hp h3]; omega⟩
theorem fence_here {l : List Int} (hp : l.Pairwise (· < ·)) (k : Int) : (fencesFrom 0 l).contains (k + below l k) = l.contains k := by
  rw [Bool.eq_iff_iff, List.contains_iff_mem, List.contains_iff_mem, mem_fences_iff hp]
  constructor
  · rintro ⟨n, hn, e⟩
    have hk : n = k := by
      rcases Int.lt_trichotomy n k with h | h | h
      · have := below_mono (l := l) (a := n) (b := k) (by omega); omega
      · exact h
      · have := below_mono (l := l) (a := k) (b := n) (by omega); omega
    exact hk ▸ hn
  · intro hk
    exact ⟨k, hk, rfl⟩
theorem fence_next {l : List Int} (hp : l.Pairwise (· < ·)) {k : Int} (hk : l.contains k = true) : (fencesFrom 0 l).contains (k + below l k + 1) = false := by
  rw [← Bool.not_eq_true, List.contains_iff_mem, mem_fences_iff hp]
  rintro ⟨n, hn, e⟩
  have hs := below_succ hp k
  rw [hk, if_pos rfl] at hs
  rcases Int.lt_or_le k n with h | h
  · have := below_mono (l := l) (a := k + 1) (b := n) (by omega); omega
  · have := below_mono (l := l) (a := n) (b := k) (by omega); omega
theorem out_laid {l : List Int} (hp : l.Pairwise (· < ·)) : ∀ (x : List (El T_api_Ins)) (k pos : Nat), pos = k + below l (k : Int) → outT (fencesFrom 0 l) pos [] (laidT l k x) = x
  | [], _, _, _ => rfl
  | i :: r, k, pos, e => by
    have hs := below_succ hp (k : Int)
    have hh := fence_here hp (k : Int)
    have hpos : ((pos : Nat) : Int) = (k : Int) + below l (k : Int) := by rw [e]; omega
    rw [← hpos] at hh
    rw [laidT]
    cases hc : l.contains (k : Int) with
    | true =>
      rw [hc] at hs hh
      have hn := fence_next hp hc
      rw [← hpos, show (pos : Int) + 1 = ((pos + 1 : Nat) : Int) by omega] at hn
      rw [if_pos rfl, outT, if_pos hh, outT, hn, if_neg (by decide)]
      have := out_laid hp r (k + 1) (pos + 1 + 1) (by rw [show ((k + 1 : Nat) : Int) = (k : Int) + 1 by omega, hs, if_pos rfl]; omega)
      rw [this, show ([] : List ByteArray) ++ labsOf (fenceI (labsOf i)) ++ labsOf (withLs i []) = labsOf i from (List.append_nil _)]
      rfl
    | false =>
      rw [hc] at hs hh
      rw [if_neg (by decide), outT, hh, if_neg (by decide)]
      have := out_laid hp r (k + 1) (pos + 1) (by rw [show ((k + 1 : Nat) : Int) = (k : Int) + 1 by omega, hs, if_neg (by decide)]; omega)
      rw [this]
      rfl
theorem laid_fence {l : List Int} (hp : l.Pairwise (· < ·)) {n : Nat} (hn : l.contains (n : Int) = true) : ∀ (x : List (El T_api_Ins)) (k m : Nat), k ≤ n → n < k + x.length → m + (k + below l (k : Int)) = n + below l (n : Int) → ∃ ls, (laidT l k x)[m]? = some (fenceI ls)
  | [], k, m, h1, h2, _ => by simp at h2; omega
  | i :: r, k, m, h1, h2, h3 => by
    have hs := below_succ hp (k : Int)
    rw [laidT]
    by_cases hk : k = n
    · subst hk
      have hm : m = 0 := by omega
      subst hm
      rw [if_pos hn]
      exact ⟨_, rfl⟩
    · have hmn := below_mono (l := l) (a := (k : Int) + 1) (b := n) (by omega)
      rw [List.length_cons] at h2
      cases hc : l.contains (k : Int) with
      | true =>
        rw [hc, if_pos rfl] at hs
        obtain ⟨ls, h⟩ := laid_fence hp hn r (k + 1) (m - 2) (by omega) (by omega) (by rw [show ((k + 1 : Nat) : Int) = (k : Int) + 1 by omega, hs]; omega)
        refine ⟨ls, ?_⟩
        obtain ⟨q, rfl⟩ : ∃ q, m = q + 2 := ⟨m - 2, by omega⟩
        rw [if_pos rfl]
        exact h
      | false =>
        rw [hc, if_neg (by decide)] at hs
        obtain ⟨ls, h⟩ := laid_fence hp hn r (k + 1) (m - 1) (by omega) (by omega) (by rw [show ((k + 1 : Nat) : Int) = (k : Int) + 1 by omega, hs]; omega)
        refine ⟨ls, ?_⟩
        obtain ⟨q, rfl⟩ : ∃ q, m = q + 1 := ⟨m - 1, by omega⟩
        rw [if_neg (by decide)]
        exact h
theorem fences_pw : ∀ (l : List Int) (j : Nat), l.Pairwise (· < ·) → (fencesFrom j l).Pairwise (· < ·)
  | [], _, _ => List.Pairwise.nil
  | n :: r, j, h => by
    obtain ⟨h1, h2⟩ := List.pairwise_cons.1 h
    unfold fencesFrom
    refine List.pairwise_cons.2 ⟨fun x hx => ?_, fences_pw r (j + 1) h2⟩
    have := fences_gt (y := n) h1 hx
    omega
theorem okOut_laid {l : List Int} {x : List (El T_api_Ins)} (h : okPts l x.length = true) (hx : x.length ≤ 1000000) : okOut (fencesC l) (laidT l 0 x) = true := by
  unfold okPts at h
  simp only [Bool.and_eq_true, List.all_eq_true, decide_eq_true_eq] at h
  obtain ⟨hr, hlt⟩ := h
  have hs := rising_spec.1 hr
  have hlen : l.length ≤ x.length := by
    rcases rising_len (p := -1) hr (by omega) with _ | h0
    · -- strictly rising below a bound
      have gen : ∀ (m : List Int) (p : Int), m.Pairwise (· < ·) → (∀ y ∈ m, p < y ∧ y < (x.length : Int)) → -1 ≤ p → (m.length : Int) ≤ x.length - (p + 1) ∨ m = [] := by
        intro m
        induction m with
        | nil => intro p _ _ _; exact .inr rfl
        | cons a m ih =>
          intro p hp hb h1
          obtain ⟨q1, q2⟩ := List.pairwise_cons.1 hp
          have ha := hb a (by simp)
          rcases ih a q2 (fun y hy => ⟨q1 y hy, (hb y (by simp [hy])).2⟩) (by omega) with h | h
          · left; rw [List.length_cons]; omega
          · subst h; left; simp; omega
      rcases gen l (-1) hs.2 (fun y hy => ⟨by have := (hs.1 y hy).1; omega, hlt y hy⟩) (by omega) with h | h
      · omega
      · subst h; simp
    · subst h0; simp
  have hF : fencesC l = fencesFrom 0 l := by unfold fencesC; rw [if_pos hr]
  rw [hF]
  unfold okOut
  simp only [Bool.and_eq_true, List.all_eq_true]
  refine ⟨rising_spec.2 ⟨fun y hy => ?_, fences_pw l 0 hs.2⟩, fun y hy => ?_⟩
  · obtain ⟨i, n, h1, h2⟩ := mem_fencesFrom.1 hy
    have hi := (List.getElem?_eq_some_iff.1 h1).1
    have hm := List.mem_of_getElem? h1
    have := hs.1 n hm
    have := hlt n hm
    omega
  · obtain ⟨n, h1, h2⟩ := (mem_fences_iff hs.2).1 hy
    have h0 := hs.1 n h1
    have hl := hlt n h1
    obtain ⟨m, rfl⟩ := Int.eq_ofNat_of_zero_le h0.1
    obtain ⟨ls, hg⟩ := laid_fence hs.2 (n := m) (List.contains_iff_mem.2 h1) x 0 (m + below l (m : Int)) (by omega) (by omega) (by
      have : below l ((0 : Nat) : Int) = 0 := below_zero fun f hf => by have := (hs.1 f hf).1; omega
      rw [this]; omega)
    have hlen2 := (List.getElem?_eq_some_iff.1 hg).1
    unfold fenceAt
    rw [h2, show (m : Int) + (below l (m : Int) : Int) = ((m + below l (m : Int) : Nat) : Int) by omega, decide_eq_true (by omega), Int.toNat_natCast, List.getD_eq_getElem?_getD, hg]
    rfl
theorem outs_laid : ∀ (ls : List (List Int)) (xs : List (List (El T_api_Ins))), okAll ls xs = true → (∀ x ∈ xs, List.length x ≤ 1000000) → okOuts (ls.map fencesC) (laidP ls xs) = true ∧ outP (ls.map fencesC) (laidP ls xs) = xs
  | [], [], _, _ => ⟨rfl, rfl⟩
  | [], x :: xs, _, _ => ⟨rfl, rfl⟩
  | l :: ls, [], h, _ => by cases h
  | l :: ls, x :: xs, h, hb => by
    rw [okAll, Bool.and_eq_true] at h
    obtain ⟨ih1, ih2⟩ := outs_laid ls xs h.2 fun y hy => hb y (by simp [hy])
    have hr : rising l = true := by
      have := h.1
      unfold okPts at this
      rw [Bool.and_eq_true] at this
      exact this.1
    have hs := rising_spec.1 hr
    rw [List.map_cons, laidP, okOuts, outP, okOut_laid h.1 (hb x (by simp)), ih1, ih2]
    refine ⟨rfl, ?_⟩
    have hF : fencesC l = fencesFrom 0 l := by unfold fencesC; rw [if_pos hr]
    rw [hF, out_laid hs.2 x 0 0 (by
      have : below l ((0 : Nat) : Int) = 0 := below_zero fun f hf => by have := (hs.1 f hf).1; omega
      rw [this])]
end Go.Ev
end

section
set_option linter.unusedSectionVars false
set_option linter.unusedVariables false
set_option linter.unusedSimpArgs false
/- The programs that the book makes may be. -/
set_option maxRecDepth 100000
set_option linter.unusedVariables false
set_option linter.unusedSimpArgs false
namespace Go.Ev
open Go
theorem setL_right (i : El T_api_Ins) (ls : List ByteArray) : v_ins_Right (setL i ls) = v_ins_Right i := rfl
theorem setL_to (i : El T_api_Ins) (ls : List ByteArray) : (setL i ls).2.2.2.2.2.1 = i.2.2.2.2.2.1 := rfl
theorem place_book {th : List (List (El T_api_Ins))} {k r s n : Int} (h : k = 3 ∨ k = 4 → placeOK k s n = true) : placeC (symsB, th) (k, (r, (s, n))) = 0 := by
  show placeN 3 _ k s n = 0
  unfold placeN
  by_cases hk : k = 3 ∨ k = 4
  · rw [if_pos hk]
    have := h hk
    unfold placeOK at this
    simp only [Bool.and_eq_true, decide_eq_true_eq, Bool.or_eq_true, beq_iff_eq] at this
    obtain ⟨h0, h3, hn⟩ := this
    rw [if_neg (by omega)]
    have hs : s = 0 ∨ s = 1 ∨ s = 2 := by omega
    rcases hs with rfl | rfl | rfl
    · rw [if_neg]
      rintro ⟨h1, h2⟩
      have h2 : (1 : Int) ≤ n := h2
      rcases hn with hn | hn
      · omega
      · have hn : n < (1 : Int) := hn
        omega
    · rw [if_neg]
      rintro ⟨h1, h2⟩
      have h2 : (2 : Int) ≤ n := h2
      rcases hn with hn | hn
      · omega
      · have hn : n < (2 : Int) := hn
        omega
    · rw [if_neg]
      rintro ⟨h1, h2⟩
      have h2 : (1 : Int) ≤ n := h2
      rcases hn with hn | hn
      · omega
      · have hn : n < (1 : Int) := hn
        omega
  · rw [if_neg hk]
theorem insC_book {th : List (List (El T_api_Ins))} {many : Int} {i : El T_api_Ins} (h : BookOK many i) (ls : List ByteArray) : insC (symsB, th) (setL i ls) = 0 := by
  have hA : placeC (symsB, th) i.2.2.2.1 = 0 := place_book (k := i.2.2.2.1.1) (r := i.2.2.2.1.2.1) (s := i.2.2.2.1.2.2.1) (n := i.2.2.2.1.2.2.2) h.placeA
  have hB : placeC (symsB, th) i.2.2.2.2.1 = 0 := place_book (k := i.2.2.2.2.1.1) (r := i.2.2.2.2.1.2.1) (s := i.2.2.2.2.1.2.2.1) (n := i.2.2.2.2.1.2.2.2) h.placeB
  unfold insC
  rw [setL_right, h.right]
  show (if (0 : Int) ≠ 0 then _ else if placeC (symsB, th) i.2.2.2.1 ≠ 0 then _ else placeC (symsB, th) i.2.2.2.2.1) = 0
  rw [hA, hB]
  rfl
theorem scanI_lab {p : El T_api_Prog} {K : List ByteArray → Int} : ∀ (x : List (El T_api_Ins)) (k : Nat) (seen : List ByteArray),
    (∀ (j : Nat) (i : El T_api_Ins), x[j]? = some i → (i.2.2.2.2.2.2 = [] ∨ i.2.2.2.2.2.2 = [v_book_label ((k + j : Nat) : Int)]) ∧ insC p i = 0) → (∀ l ∈ seen, ∃ k', k' < k ∧ l = v_book_label (k' : Int)) → k + x.length ≤ 100 → scanI p K seen x = K (seen ++ labels x)
  | [], k, seen, _, _, _ => by simp [scanI, labels]
  | i :: r, k, seen, h, hs, hk => by
    obtain ⟨hl, hi⟩ := h 0 i rfl
    rw [List.length_cons] at hk
    have hr := fun seen' hs' => scanI_lab (K := K) r (k + 1) seen' (fun j y hy => by
      have := h (j + 1) y (by simpa using hy)
      rwa [show k + (j + 1) = k + 1 + j by omega] at this) hs' (by omega)
    unfold scanI
    rcases hl with hl | hl
    · rw [hl]
      unfold scanL
      rw [hi]
      simp only [ne_eq, not_true_eq_false, if_false]
      rw [hr seen fun l hl => by obtain ⟨k', h1, h2⟩ := hs l hl; exact ⟨k', by omega, h2⟩]
      unfold labels
      rw [List.flatMap_cons, hl, List.nil_append]
    · rw [hl, Nat.add_zero]
      unfold scanL
      rw [if_neg (by rw [(label_right (k := (k : Int)) (by omega) (by omega)).1]; decide)]
      have hns : seen.contains (v_book_label (k : Int)) = false := by
        rw [Bool.eq_false_iff]
        intro hc
        rw [List.contains_iff_mem] at hc
        obtain ⟨k', h1, h2⟩ := hs _ hc
        have := label_inj (by omega) (by omega) h2
        omega
      rw [if_neg (by rw [hns]; decide)]
      unfold scanL
      rw [hi]
      simp only [ne_eq, not_true_eq_false, if_false]
      rw [hr _ fun l hl => by
        rcases List.mem_append.1 hl with hl | hl
        · obtain ⟨k', h1, h2⟩ := hs l hl; exact ⟨k', by omega, h2⟩
        · rw [List.mem_singleton] at hl; exact ⟨k, by omega, hl⟩]
      unfold labels
      rw [List.flatMap_cons, hl, Nat.add_zero, List.append_assoc]
theorem jumpC_lab {seen : List ByteArray} : ∀ {x : List (El T_api_Ins)}, (∀ i ∈ x, ((i.1 == (10 : Int)) || (i.1 == (11 : Int))) = true → seen.contains i.2.2.2.2.2.1 = true) → jumpC seen x = 0
  | [], _ => rfl
  | i :: r, h => by
    unfold jumpC
    have ih := jumpC_lab fun j hj => h j (List.mem_cons_of_mem _ hj)
    by_cases hj : ((i.1 == (10 : Int)) || (i.1 == (11 : Int))) = true
    · rw [if_pos hj, if_pos (h i (List.mem_cons_self ..) hj)]; exact ih
    · rw [if_neg hj]; exact ih
/-- What stands in a thread of the book. -/
theorem threadB_get {a : List (El T_book_Act)} {n : Nat} (hn : n ≤ 90) (ha : n ≤ a.length) {k : Nat} {i : El T_api_Ins} (h : (threadB a n)[k]? = some i) :
    (k < n ∧ ∃ x, (baseT a n)[k]? = some x ∧ BookOK ((n + 1 : Nat) : Int) x ∧ i = setL x (if sAt (baseT a n) n k then [v_book_label (k : Int)] else [])) ∨ (k = n ∧ i = setL (bare 14) (if sAt (baseT a n) n k then [v_book_label (k : Int)] else [])) := by
  have hl := baseT_len a n ha
  obtain ⟨hk, he⟩ := List.getElem?_eq_some_iff.1 h
  unfold threadB at hk he
  rw [withL_get hk] at he
  rw [withL_len, hl] at hk
  by_cases hkn : k < n
  · obtain ⟨x, h1, h2⟩ := baseT_book hn hkn ha
    obtain ⟨h3, h4⟩ := List.getElem?_eq_some_iff.1 h1
    rw [h4] at he
    exact .inl ⟨hkn, _, h1, h2, he.symm⟩
  · have hkn : k = n := by omega
    subst hkn
    have : (baseT a k)[k]'(by omega) = bare 14 := by
      unfold baseT
      rw [List.getElem_append_right (by simp; omega)]
      simp
    rw [this] at he
    exact .inr ⟨rfl, he.symm⟩
theorem bare14_book (many : Int) (ls : List ByteArray) {th : List (List (El T_api_Ins))} : insC (symsB, th) (setL (bare 14) ls) = 0 := by
  unfold insC
  rw [setL_right, bare_right (.inr (.inr rfl))]
  rfl
theorem labels_get {x : List (El T_api_Ins)} {k : Nat} {i : El T_api_Ins} {l : ByteArray} (h : x[k]? = some i) (hl : l ∈ i.2.2.2.2.2.2) : (labels x).contains l = true := by
  rw [List.contains_iff_mem]
  unfold labels
  exact List.mem_flatMap.2 ⟨i, List.mem_of_getElem? h, hl⟩
theorem threadC_book {a : List (El T_book_Act)} {n : Nat} (hn : n ≤ 90) (ha : n ≤ a.length) {th : List (List (El T_api_Ins))} : threadC (symsB, th) (threadB a n) = 0 := by
  have hlen : (threadB a n).length = n + 1 := by unfold threadB; rw [withL_len, baseT_len a n ha]
  unfold threadC
  have hc := countM_le (threadB a n)
  rw [if_neg (by omega), scanI_lab (threadB a n) 0 [] (fun j i h => by
    rw [Nat.zero_add]
    rcases threadB_get hn ha h with ⟨_, x, _, hx, rfl⟩ | ⟨_, rfl⟩
    · refine ⟨?_, insC_book hx _⟩
      show (if _ then [v_book_label (j : Int)] else []) = [] ∨ (if _ then [v_book_label (j : Int)] else []) = [v_book_label (j : Int)]
      split
      · exact .inr rfl
      · exact .inl rfl
    · refine ⟨?_, bare14_book 0 _⟩
      show (if _ then [v_book_label (j : Int)] else []) = [] ∨ (if _ then [v_book_label (j : Int)] else []) = [v_book_label (j : Int)]
      split
      · exact .inr rfl
      · exact .inl rfl) (fun l hl => by cases hl) (by omega)]
  rw [List.nil_append, endC_eq (by omega)]
  have hlast : (threadB a n)[(threadB a n).length - 1]? = some ((threadB a n)[(threadB a n).length - 1]'(by omega)) := List.getElem?_eq_getElem (by omega)
  have h14 : (((threadB a n)[(threadB a n).length - 1]'(by omega)).1 == (10 : Int) || ((threadB a n)[(threadB a n).length - 1]'(by omega)).1 == (14 : Int)) = true := by
    rcases threadB_get hn ha hlast with ⟨h1, _⟩ | ⟨_, h2⟩
    · omega
    · rw [h2]; rfl
  rw [if_pos h14]
  refine jumpC_lab fun i hi hj => ?_
  obtain ⟨k, hk⟩ := List.getElem?_of_mem hi
  rcases threadB_get hn ha hk with ⟨hkn, x, hx, hb, rfl⟩ | ⟨_, rfl⟩
  · rw [setL_to]
    rcases hb.to with ⟨h1, h2, _⟩ | ⟨_, m, m0, m1, e⟩
    · exfalso
      have hj : ((x.1 == (10 : Int)) || (x.1 == (11 : Int))) = true := hj
      simp only [Bool.or_eq_true, beq_iff_eq] at hj
      rcases hj with hj | hj
      · exact h1 hj
      · exact h2 hj
    · rw [e]
      obtain ⟨q, rfl⟩ : ∃ q : Nat, m = (q : Int) := ⟨m.toNat, by omega⟩
      have hqn : q < n + 1 := by omega
      have hq : (threadB a n)[q]? = some ((threadB a n)[q]'(by omega)) := List.getElem?_eq_getElem (by omega)
      have hs : sAt (baseT a n) n q = true := by
        unfold sAt
        rw [List.any_eq_true]
        exact ⟨x, List.mem_of_getElem? (i := k) (by rw [List.getElem?_take, if_pos hkn]; exact hx), decide_eq_true e⟩
      refine labels_get hq ?_
      rcases threadB_get hn ha hq with ⟨_, y, _, _, h2⟩ | ⟨_, h2⟩
      · rw [h2, hs]; exact List.mem_singleton.2 rfl
      · rw [h2, hs]; exact List.mem_singleton.2 rfl
  · cases hj
theorem small_book {a : List (El T_book_Act)} {n : Nat} (hn : n ≤ 90) (ha : n ≤ a.length) : smallThread (threadB a n) = true := by
  have hlen : (threadB a n).length = n + 1 := by unfold threadB; rw [withL_len, baseT_len a n ha]
  have hlab : ∀ i ∈ threadB a n, smallText i.2.2.2.2.2.1 = true ∧ i.2.2.2.2.2.2.length ≤ 1 ∧ ∀ l ∈ i.2.2.2.2.2.2, smallText l = true := fun i hi => by
    obtain ⟨k, hk⟩ := List.getElem?_of_mem hi
    have hkl := (List.getElem?_eq_some_iff.1 hk).1
    have hls : ∀ b : Bool, (if b = true then [v_book_label (k : Int)] else []).length ≤ 1 ∧ ∀ l ∈ (if b = true then [v_book_label (k : Int)] else []), smallText l = true := fun b => by
      cases b with
      | false => exact ⟨by simp, fun l hl => by simp at hl⟩
      | true => exact ⟨by simp, fun l hl => by
          rw [if_pos rfl, List.mem_singleton] at hl
          rw [hl]; exact (label_right (by omega) (by omega)).2⟩
    rcases threadB_get hn ha hk with ⟨hkn, x, hx, hb, rfl⟩ | ⟨_, rfl⟩
    · exact ⟨hb.small (by omega), hls _⟩
    · exact ⟨(by decide : smallText (bs []) = true), hls _⟩
  have := labels_le (t := threadB a n) (n := 1) fun i hi => (hlab i hi).2.1
  unfold smallThread
  simp only [Bool.and_eq_true, decide_eq_true_eq, List.all_eq_true]
  exact ⟨by omega, by omega, fun i hi => ⟨(hlab i hi).1, (hlab i hi).2.2⟩⟩
theorem symsC_book (K : Int) : symsC K [] symsB = K := by kernel_rfl
theorem thsC_zero {p : El T_api_Prog} : ∀ {th : List (List (El T_api_Ins))}, (∀ t ∈ th, threadC p t = 0) → thsC p th = 0
  | [], _ => rfl
  | t :: r, h => by
    unfold thsC
    rw [h t (List.mem_cons_self ..)]
    simp only [ne_eq, not_true_eq_false, if_false]
    exact thsC_zero fun x hx => h x (List.mem_cons_of_mem _ hx)
theorem book_valid (l : List (List (El T_book_Act))) {threads many : Int} (h0 : 0 ≤ threads) (h1 : threads ≤ 64) (m0 : 0 ≤ many) (m1 : many ≤ 90) : checkC (v_book_Prog l threads many) = 0 ∧ smallProg (v_book_Prog l threads many) = true ∧ k_book_Prog l threads many = true := by
  refine ⟨?_, ?_, ?_⟩
  · unfold checkC v_book_Prog
    show (if 64 < symsB.length ∨ 64 < ((l.take threads.toNat).map fun a => threadB a (min a.length many.toNat)).length then (10 : Int) else symsC (thsC _ ((l.take threads.toNat).map fun a => threadB a (min a.length many.toNat))) [] symsB) = 0
    rw [if_neg, symsC_book]
    · exact thsC_zero fun t ht => by
        obtain ⟨a, _, rfl⟩ := List.mem_map.1 ht
        exact threadC_book (by omega) (by omega)
    · rw [List.length_map, List.length_take]
      have : symsB.length = 3 := rfl
      omega
  · unfold smallProg v_book_Prog
    simp only [Bool.and_eq_true, List.all_eq_true]
    refine ⟨?_, fun t ht => ?_⟩
    · have : symsB.all (fun s => smallText s.1) = true := by decide +kernel
      rw [List.all_eq_true] at this
      exact this
    · obtain ⟨a, _, rfl⟩ := List.mem_map.1 ht
      exact small_book (by omega) (by omega)
  · unfold k_book_Prog
    simp only [Bool.and_eq_true, decide_eq_true_eq]
    omega
end Go.Ev
end

section
set_option linter.unusedSectionVars false
set_option linter.unusedVariables false
set_option linter.unusedSimpArgs false
set_option maxRecDepth 100000
set_option linter.unusedVariables false
open Go Go.Ev
namespace Go.Ev
/-! ### paling/palingref1.CopyIns -/
def sg_ref1_CopyIns : Sig := [(true, T_api_Ins)]
noncomputable def t_ref1_CopyIns : Tbl := []
theorem tk_ref1_CopyIns : ∀ p ∈ t_ref1_CopyIns, EntOK Go.Proofs.Tryd.prog p.1 p.2 := tbl_nil
noncomputable def c_ref1_CopyIns : Code := Go.Proofs.Tryd.f45.body.getD .skip
def tb_ref1_CopyIns : Tb := []
def T_ref1_CopyIns (x : El T_api_Ins) : Empty → JT Empty (El T_api_Ins) := fun j => nomatch j
def T0_ref1_CopyIns (x : El T_api_Ins) : JT Empty (El T_api_Ins) :=
  .br (Nat.ble ((List.length x.2.2.2.2.2.2) * 16) limit)
    (.leaf x)
  (.no)
def u_ref1_CopyIns (x : El T_api_Ins) : El T_api_Ins :=
  bif (Nat.ble ((List.length x.2.2.2.2.2.2) * 16) limit) then
    x
  else ((0 : Int), (false, ((0 : Int), (((0 : Int), ((0 : Int), ((0 : Int), (0 : Int)))), (((0 : Int), ((0 : Int), ((0 : Int), (0 : Int)))), ((bs []), []))))))
def ku_ref1_CopyIns (x : El T_api_Ins) : Bool :=
  bif (Nat.ble ((List.length x.2.2.2.2.2.2) * 16) limit) then
    true
  else false
theorem gu_ref1_CopyIns (x : El T_api_Ins) (hk : ku_ref1_CopyIns x = true) : Goes (T_ref1_CopyIns x) (T0_ref1_CopyIns x) (u_ref1_CopyIns x) :=
  Goes.brk hk (fun hk =>
    Goes.leaf) (fun hk =>
    Goes.nok hk)
def R_ref1_CopyIns : El T_api_Ins → AV := fun (r : El T_api_Ins) => .ag [.d (.int .i64) r.1, .d .bool r.2.1, .d (.int .i64) r.2.2.1, .d (.int .i64) r.2.2.2.1.1, .d (.int .i64) r.2.2.2.1.2.1, .d (.int .i64) r.2.2.2.1.2.2.1, .d (.int .i64) r.2.2.2.1.2.2.2, .d (.int .i64) r.2.2.2.2.1.1, .d (.int .i64) r.2.2.2.2.1.2.1, .d (.int .i64) r.2.2.2.2.1.2.2.1, .d (.int .i64) r.2.2.2.2.1.2.2.2, .d .str r.2.2.2.2.2.1, .rw 9 .str r.2.2.2.2.2.2]
def S_ref1_CopyIns (x : El T_api_Ins) : Empty → Nat × St := fun j => nomatch j
theorem en_ref1_CopyIns (x : El T_api_Ins) (L : Lt) : entryA Go.Proofs.Tryd.prog (clOf t_ref1_CopyIns) tb_ref1_CopyIns Go.Proofs.Tryd.f45 c_ref1_CopyIns L (toForms sg_ref1_CopyIns (x, ())) = (T0_ref1_CopyIns x).run (fun v => some (R_ref1_CopyIns v, tps (toForms sg_ref1_CopyIns (x, ())))) fun j => L (S_ref1_CopyIns x j).1 (S_ref1_CopyIns x j).2 := by kernel_rfl
theorem lp_ref1_CopyIns (x : El T_api_Ins) : ∀ (L : Lt) (j : Empty), procOf (procsF Go.Proofs.Tryd.prog (clOf t_ref1_CopyIns) tb_ref1_CopyIns Go.Proofs.Tryd.f45 c_ref1_CopyIns (toForms sg_ref1_CopyIns (x, ()))) (S_ref1_CopyIns x j).1 L (S_ref1_CopyIns x j).2 = (T_ref1_CopyIns x j).run (fun v => some (R_ref1_CopyIns v, tps (toForms sg_ref1_CopyIns (x, ())))) fun j => L (S_ref1_CopyIns x j).1 (S_ref1_CopyIns x j).2 := fun L j => nomatch j
end Go.Ev
end

section
set_option linter.unusedSectionVars false
set_option linter.unusedVariables false
set_option linter.unusedSimpArgs false
set_option linter.unusedVariables false
set_option linter.unusedSimpArgs false
open Go
namespace Go.Ev

def v_ref1_CopyIns (x : El T_api_Ins) : El T_api_Ins := x
def k_ref1_CopyIns (x : El T_api_Ins) : Bool := decide (x.2.2.2.2.2.2.length < 549755813888)
theorem g_ref1_CopyIns (x : El T_api_Ins) (hk : k_ref1_CopyIns x = true) : Goes (T_ref1_CopyIns x) (T0_ref1_CopyIns x) (v_ref1_CopyIns x) := by
  have hn : x.2.2.2.2.2.2.length < 549755813888 := of_decide_eq_true hk
  have h : Nat.ble (x.2.2.2.2.2.2.length * 16) limit = true := by
    apply Nat.ble_eq_true_of_le; unfold limit; omega
  have := gu_ref1_CopyIns x (by unfold ku_ref1_CopyIns; rw [h]; rfl)
  unfold u_ref1_CopyIns at this
  rw [h] at this
  exact this

end Go.Ev
end

section
set_option linter.unusedSectionVars false
set_option linter.unusedVariables false
set_option linter.unusedSimpArgs false
set_option maxRecDepth 100000
set_option linter.unusedVariables false
open Go Go.Ev
namespace Go.Ev
noncomputable def e_ref1_CopyIns : Run := entG sg_ref1_CopyIns R_ref1_CopyIns (fun a => k_ref1_CopyIns a.1) (fun a => v_ref1_CopyIns a.1)
theorem ok_ref1_CopyIns : EntOK Go.Proofs.Tryd.prog 45 e_ref1_CopyIns := entG_ok (tb := tb_ref1_CopyIns) (c := c_ref1_CopyIns) tk_ref1_CopyIns (by kernel_rfl) (by kernel_rfl) (by kernel_rfl) (fun a => by kernel_rfl) fun ⟨x, _⟩ hk => evF_goes (c := c_ref1_CopyIns) (K := fun v => (R_ref1_CopyIns v, tps (toForms sg_ref1_CopyIns (x, ())))) (S := S_ref1_CopyIns x) (by kernel_rfl) (en_ref1_CopyIns x) (lp_ref1_CopyIns x) (g_ref1_CopyIns x hk)
end Go.Ev
end

section
set_option linter.unusedSectionVars false
set_option linter.unusedVariables false
set_option linter.unusedSimpArgs false
set_option maxRecDepth 100000
set_option linter.unusedVariables false
open Go Go.Ev
namespace Go.Ev
/-! ### paling/palingref1.CopyProg -/
def sg_ref1_CopyProg : Sig := [(true, T_api_Prog)]
noncomputable def t_ref1_CopyProg : Tbl := [(45, e_ref1_CopyIns)]
theorem tk_ref1_CopyProg : ∀ p ∈ t_ref1_CopyProg, EntOK Go.Proofs.Tryd.prog p.1 p.2 := tbl_cons ok_ref1_CopyIns (tbl_nil)
noncomputable def c_ref1_CopyProg : Code := Go.Proofs.Tryd.f43.body.getD .skip
def tb_ref1_CopyProg : Tb := [(4, ⟨[1, 2, 3, 4], [(4097, 48)]⟩), (12, ⟨[1, 2, 3, 6], [(4098, 50)]⟩), (19, ⟨[1, 2, 3, 6, 7, 8], [(8193, 112)]⟩)]
inductive J_ref1_CopyProg where
  | l4 (i : Int) (q : List (El T_api_Sym))
  | l12 (q : List (El T_api_Sym)) (i : Int) (q1 : List (List (El T_api_Ins)))
  | l19 (q : List (El T_api_Sym)) (k : Int) (t : List (El T_api_Ins)) (i : Int) (q1 : List (List (El T_api_Ins)))
def T_ref1_CopyProg (p : El T_api_Prog) : J_ref1_CopyProg → JT J_ref1_CopyProg (El T_api_Prog)
  | .l4 i q =>
    .br (decide (i < (Int.ofNat (List.length p.1))))
      (.br ((decide ((0 : Int) ≤ i)) && (decide (i < (Int.ofNat (List.length p.1)))))
        (.br (Nat.ble ((List.length (List.getD p.1 (Int.toNat i) (dflt T_api_Sym)).2.2) * 8) limit)
          (.br (Nat.ble (((List.length q) + 1) * 48) limit)
            (.jmp (.l4 (IntKind.i64.wrap (i + (1 : Int))) (q ++ [(List.getD p.1 (Int.toNat i) (dflt T_api_Sym))])))
          (.no))
        (.no))
      (.no))
    (.jmp (.l12 q (0 : Int) []))
  | .l12 q i q1 =>
    .br (decide (i < (Int.ofNat (List.length p.2))))
      (.jmp (.l19 q (0 : Int) [] i q1))
    (.leaf (q, q1))
  | .l19 q k t i q1 =>
    .br ((decide ((0 : Int) ≤ i)) && (decide (i < (Int.ofNat (List.length p.2)))))
      (.br (decide (k < (Int.ofNat (List.length (List.getD p.2 (Int.toNat i) (dflt (.sl T_api_Ins)))))))
        (.br ((decide ((0 : Int) ≤ i)) && (decide (i < (Int.ofNat (List.length p.2)))))
          (.br ((decide ((0 : Int) ≤ k)) && (decide (k < (Int.ofNat (List.length (List.getD p.2 (Int.toNat i) (dflt (.sl T_api_Ins))))))))
            (.br (k_ref1_CopyIns (List.getD (List.getD p.2 (Int.toNat i) (dflt (.sl T_api_Ins))) (Int.toNat k) (dflt T_api_Ins)))
              (.br (Nat.ble (((List.length t) + 1) * 128) limit)
                (.jmp (.l19 q (IntKind.i64.wrap (k + (1 : Int))) (t ++ [(v_ref1_CopyIns (List.getD (List.getD p.2 (Int.toNat i) (dflt (.sl T_api_Ins))) (Int.toNat k) (dflt T_api_Ins)))]) i q1))
              (.no))
            (.no))
          (.no))
        (.no))
      (.br (Nat.ble (((List.length q1) + 1) * 24) limit)
        (.jmp (.l12 q (IntKind.i64.wrap (i + (1 : Int))) (q1 ++ [t])))
      (.no)))
    (.no)
def T0_ref1_CopyProg (p : El T_api_Prog) : JT J_ref1_CopyProg (El T_api_Prog) :=
  .jmp (.l4 (0 : Int) [])
def R_ref1_CopyProg : El T_api_Prog → AV := fun (r : El T_api_Prog) => .ag [.rw 70 T_api_Sym r.1, .rw 58 (.sl T_api_Ins) r.2]
def S_ref1_CopyProg (p : El T_api_Prog) : J_ref1_CopyProg → Nat × St
  | .l4 i q => (4, ⟨mkTm 71 [(1, .pt 2 0 0), (2, .pt 3 0 0), (3, .pt 4 0 0), (4, .d (.int .i64) i)], [(2, 0, .box 27 [.d (.sl T_api_Sym) p.1, .d (.sl (.sl T_api_Ins)) p.2] none), (3, 0, .box 27 [.nil, .nil] none), (4, 0, .box 27 [.own 4097 0 none, .nil] none), (4097, 0, .row 70 T_api_Sym q false)]⟩)
  | .l12 q i q1 => (12, ⟨mkTm 71 [(1, .pt 2 0 0), (2, .pt 3 0 0), (3, .pt 4 0 0), (6, .d (.int .i64) i)], [(2, 0, .box 27 [.d (.sl T_api_Sym) p.1, .d (.sl (.sl T_api_Ins)) p.2] none), (3, 0, .box 27 [.nil, .nil] none), (4, 0, .box 27 [.own 4097 0 none, .own 4098 0 none] none), (4097, 0, .row 70 T_api_Sym q false), (4098, 0, .row 58 (.sl T_api_Ins) q1 false)]⟩)
  | .l19 q k t i q1 => (19, ⟨mkTm 71 [(1, .pt 2 0 0), (2, .pt 3 0 0), (3, .pt 4 0 0), (6, .d (.int .i64) i), (7, .pt 8 0 0), (8, .d (.int .i64) k)], [(2, 0, .box 27 [.d (.sl T_api_Sym) p.1, .d (.sl (.sl T_api_Ins)) p.2] none), (3, 0, .box 27 [.nil, .nil] none), (4, 0, .box 27 [.own 4097 0 none, .own 4098 0 none] none), (8, 0, .box 58 [.own 8193 0 none] none), (4097, 0, .row 70 T_api_Sym q false), (4098, 0, .row 58 (.sl T_api_Ins) q1 false), (8193, 0, .row 63 T_api_Ins t false)]⟩)
theorem en_ref1_CopyProg (p : El T_api_Prog) (L : Lt) : entryA Go.Proofs.Tryd.prog (clOf t_ref1_CopyProg) tb_ref1_CopyProg Go.Proofs.Tryd.f43 c_ref1_CopyProg L (toForms sg_ref1_CopyProg (p, ())) = (T0_ref1_CopyProg p).run (fun v => some (R_ref1_CopyProg v, tps (toForms sg_ref1_CopyProg (p, ())))) fun j => L (S_ref1_CopyProg p j).1 (S_ref1_CopyProg p j).2 := by kernel_rfl
theorem lp_ref1_CopyProg (p : El T_api_Prog) : ∀ (L : Lt) (j : J_ref1_CopyProg), procOf (procsF Go.Proofs.Tryd.prog (clOf t_ref1_CopyProg) tb_ref1_CopyProg Go.Proofs.Tryd.f43 c_ref1_CopyProg (toForms sg_ref1_CopyProg (p, ()))) (S_ref1_CopyProg p j).1 L (S_ref1_CopyProg p j).2 = (T_ref1_CopyProg p j).run (fun v => some (R_ref1_CopyProg v, tps (toForms sg_ref1_CopyProg (p, ())))) fun j => L (S_ref1_CopyProg p j).1 (S_ref1_CopyProg p j).2
  | L, .l4 i q => by kernel_rfl
  | L, .l12 q i q1 => by kernel_rfl
  | L, .l19 q k t i q1 => by kernel_rfl
end Go.Ev
end

section
set_option linter.unusedSectionVars false
set_option linter.unusedVariables false
set_option linter.unusedSimpArgs false
set_option linter.unusedVariables false
set_option linter.unusedSimpArgs false
open Go
namespace Go.Ev
def v_ref1_CopyProg (p : El T_api_Prog) : El T_api_Prog := p
def k_ref1_CopyProg (p : El T_api_Prog) : Bool := copyB p
theorem g_ref1_CopyProg (p : El T_api_Prog) (hk : k_ref1_CopyProg p = true) : Goes (T_ref1_CopyProg p) (T0_ref1_CopyProg p) (v_ref1_CopyProg p) := by
  have hC := copyOK hk
  have h1 := hC.syms
  have h2 := hC.thr
  have l12 : ∀ k, k ≤ p.2.length → Goes (T_ref1_CopyProg p) (.jmp (.l12 p.1 (k : Int) (p.2.take k))) p := by
    refine down ?_ fun k hk ih => ?_
    · rw [goes_jmp]
      simp only [T_ref1_CopyProg, goes_br, lt_len_not (Nat.lt_irrefl _), List.take_length, if_false, Bool.false_eq_true]
      exact .leaf
    · obtain ⟨t, ht⟩ : ∃ t, p.2[k] = t := ⟨_, rfl⟩
      have hm : t ∈ p.2 := by rw [← ht]; exact List.getElem_mem hk
      have hl := hC.len t hm
      have l19 : ∀ j, j ≤ List.length t → Goes (T_ref1_CopyProg p) (.jmp (.l19 p.1 (j : Int) (List.take j t) (k : Int) (p.2.take k))) p := by
        refine down ?_ fun j hj ihj => ?_
        · have b : Nat.ble (((p.2.take k).length + 1) * 24) limit = true := bleN (by rw [List.length_take]; unfold limit; omega)
          rw [goes_jmp]
          simp only [T_ref1_CopyProg, goes_br, lt_len hk, nng, Bool.and_self, Int.toNat_natCast, getD_lt hk, ht, lt_len_not (Nat.lt_irrefl _), b, if_true, if_false, Bool.false_eq_true, wrap_succ (k := k) (by omega), List.take_length]
          rw [← ht, ← List.take_succ_eq_append_getElem hk]
          exact ih
        · have hb := hC.lab t hm _ (List.getElem_mem hj)
          have kI : k_ref1_CopyIns t[j] = true := decide_eq_true (by omega)
          have vI : v_ref1_CopyIns t[j] = t[j] := rfl
          have b2 : Nat.ble (((List.take j t).length + 1) * 128) limit = true := bleN (by rw [List.length_take]; unfold limit; omega)
          rw [goes_jmp]
          simp only [T_ref1_CopyProg, goes_br, lt_len hk, getD_lt hk, ht, lt_len hj, nng, Bool.and_self, if_true, Int.toNat_natCast, getD_lt hj, kI, vI, b2, wrap_succ (k := j) (by omega)]
          rw [← List.take_succ_eq_append_getElem hj]
          exact ihj
      rw [goes_jmp]
      simp only [T_ref1_CopyProg, goes_br, lt_len hk, if_true]
      exact l19 0 (Nat.zero_le _)
  have l4 : ∀ k, k ≤ p.1.length → Goes (T_ref1_CopyProg p) (.jmp (.l4 (k : Int) (p.1.take k))) p := by
    refine down ?_ fun k hk ih => ?_
    · rw [goes_jmp]
      simp only [T_ref1_CopyProg, goes_br, lt_len_not (Nat.lt_irrefl _), List.take_length, if_false, Bool.false_eq_true]
      exact l12 0 (Nat.zero_le _)
    · have hi := hC.init _ (List.getElem_mem hk)
      have b1 : Nat.ble (List.length (p.1[k]).2.2 * 8) limit = true := bleN (by unfold limit; omega)
      have b2 : Nat.ble (((p.1.take k).length + 1) * 48) limit = true := bleN (by rw [List.length_take]; unfold limit; omega)
      rw [goes_jmp]
      simp only [T_ref1_CopyProg, goes_br, lt_len hk, nng, Bool.and_self, if_true, Int.toNat_natCast, getD_lt hk, b1, b2, wrap_succ (k := k) (by omega)]
      rw [← List.take_succ_eq_append_getElem hk]
      exact ih
  unfold T0_ref1_CopyProg v_ref1_CopyProg
  exact l4 0 (Nat.zero_le _)
end Go.Ev
end

section
set_option linter.unusedSectionVars false
set_option linter.unusedVariables false
set_option linter.unusedSimpArgs false
set_option maxRecDepth 100000
set_option linter.unusedVariables false
open Go Go.Ev
namespace Go.Ev
noncomputable def e_ref1_CopyProg : Run := entG sg_ref1_CopyProg R_ref1_CopyProg (fun a => k_ref1_CopyProg a.1) (fun a => v_ref1_CopyProg a.1)
theorem ok_ref1_CopyProg : EntOK Go.Proofs.Tryd.prog 43 e_ref1_CopyProg := entG_ok (tb := tb_ref1_CopyProg) (c := c_ref1_CopyProg) tk_ref1_CopyProg (by kernel_rfl) (by kernel_rfl) (by kernel_rfl) (fun a => by kernel_rfl) fun ⟨p, _⟩ hk => evF_goes (c := c_ref1_CopyProg) (K := fun v => (R_ref1_CopyProg v, tps (toForms sg_ref1_CopyProg (p, ())))) (S := S_ref1_CopyProg p) (by kernel_rfl) (en_ref1_CopyProg p) (lp_ref1_CopyProg p) (g_ref1_CopyProg p hk)
end Go.Ev
end

section
set_option linter.unusedSectionVars false
set_option linter.unusedVariables false
set_option linter.unusedSimpArgs false
set_option maxRecDepth 100000
set_option linter.unusedVariables false
open Go Go.Ev
namespace Go.Ev
/-! ### paling/palingref3.Rising -/
def sg_ref3_Rising : Sig := [(false, (.sl (.int .i64)))]
noncomputable def t_ref3_Rising : Tbl := []
theorem tk_ref3_Rising : ∀ p ∈ t_ref3_Rising, EntOK Go.Proofs.Tryd.prog p.1 p.2 := tbl_nil
noncomputable def c_ref3_Rising : Code := Go.Proofs.Tryd.f44.body.getD .skip
def tb_ref3_Rising : Tb := [(3, ⟨[0, 3], []⟩)]
inductive J_ref3_Rising where
  | l3 (i : Int)
def T_ref3_Rising (l : List Int) : J_ref3_Rising → JT J_ref3_Rising (Bool)
  | .l3 i =>
    .br (decide (i < (Int.ofNat (List.length l))))
      (.br ((decide ((0 : Int) ≤ i)) && (decide (i < (Int.ofNat (List.length l)))))
        (.br (decide ((List.getD l (Int.toNat i) (dflt (.int .i64))) < (0 : Int)))
          (.leaf false)
        (.br ((decide ((0 : Int) ≤ i)) && (decide (i < (Int.ofNat (List.length l)))))
          (.br (decide ((List.getD l (Int.toNat i) (dflt (.int .i64))) ≥ (2147483648 : Int)))
            (.leaf false)
          (.br (decide (i > (0 : Int)))
            (.br ((decide ((0 : Int) ≤ (IntKind.i64.wrap (i - (1 : Int))))) && (decide ((IntKind.i64.wrap (i - (1 : Int))) < (Int.ofNat (List.length l)))))
              (.br ((decide ((0 : Int) ≤ i)) && (decide (i < (Int.ofNat (List.length l)))))
                (.br (decide ((List.getD l (Int.toNat (IntKind.i64.wrap (i - (1 : Int)))) (dflt (.int .i64))) ≥ (List.getD l (Int.toNat i) (dflt (.int .i64)))))
                  (.leaf false)
                (.jmp (.l3 (IntKind.i64.wrap (i + (1 : Int))))))
              (.no))
            (.no))
          (.jmp (.l3 (IntKind.i64.wrap (i + (1 : Int)))))))
        (.no)))
      (.no))
    (.leaf true)
def T0_ref3_Rising (l : List Int) : JT J_ref3_Rising (Bool) :=
  .jmp (.l3 (0 : Int))
def R_ref3_Rising : Bool → AV := fun (r : Bool) => .d .bool r
def S_ref3_Rising (l : List Int) : J_ref3_Rising → Nat × St
  | .l3 i => (3, ⟨mkTm 38 [(0, .d (.sl (.int .i64)) l), (3, .d (.int .i64) i)], []⟩)
theorem en_ref3_Rising (l : List Int) (L : Lt) : entryA Go.Proofs.Tryd.prog (clOf t_ref3_Rising) tb_ref3_Rising Go.Proofs.Tryd.f44 c_ref3_Rising L (toForms sg_ref3_Rising (l, ())) = (T0_ref3_Rising l).run (fun v => some (R_ref3_Rising v, tps (toForms sg_ref3_Rising (l, ())))) fun j => L (S_ref3_Rising l j).1 (S_ref3_Rising l j).2 := by kernel_rfl
theorem lp_ref3_Rising (l : List Int) : ∀ (L : Lt) (j : J_ref3_Rising), procOf (procsF Go.Proofs.Tryd.prog (clOf t_ref3_Rising) tb_ref3_Rising Go.Proofs.Tryd.f44 c_ref3_Rising (toForms sg_ref3_Rising (l, ()))) (S_ref3_Rising l j).1 L (S_ref3_Rising l j).2 = (T_ref3_Rising l j).run (fun v => some (R_ref3_Rising v, tps (toForms sg_ref3_Rising (l, ())))) fun j => L (S_ref3_Rising l j).1 (S_ref3_Rising l j).2
  | L, .l3 i => by kernel_rfl
end Go.Ev
end

section
set_option linter.unusedSectionVars false
set_option linter.unusedVariables false
set_option linter.unusedSimpArgs false
set_option linter.unusedVariables false
set_option linter.unusedSimpArgs false
open Go
namespace Go.Ev
def v_ref3_Rising (l : List Int) : Bool := rising l
def k_ref3_Rising (l : List Int) : Bool := decide (l.length < 4611686018427387904)
theorem g_ref3_Rising (l : List Int) (hk : k_ref3_Rising l = true) : Goes (T_ref3_Rising l) (T0_ref3_Rising l) (v_ref3_Rising l) := by
  have hn : l.length < 4611686018427387904 := of_decide_eq_true hk
  have loop : ∀ k, k ≤ l.length → ∀ p : Int, (0 < k → l[k - 1]? = some p) → (k = 0 → p = -1) → Goes (T_ref3_Rising l) (.jmp (.l3 (k : Int))) (risingFrom p (l.drop k)) := by
    refine down ?_ fun k hk ih => ?_
    · intro p hp hp0
      rw [goes_jmp]
      simp only [T_ref3_Rising, goes_br, lt_len_not (Nat.lt_irrefl _), List.drop_length]
      exact .leaf
    · intro p hp hp0
      rw [goes_jmp, drop_cons hk]
      have nx : Goes (T_ref3_Rising l) (.jmp (.l3 ((k + 1 : Nat) : Int))) (risingFrom l[k] (l.drop (k + 1))) := ih l[k] (fun _ => by simp) (fun h => by omega)
      obtain ⟨n, hn'⟩ : ∃ n : Int, l[k] = n := ⟨_, rfl⟩
      rw [hn'] at nx ⊢
      unfold risingFrom
      by_cases h0 : k = 0
      · subst h0
        have e0 : decide (((0 : Nat) : Int) > 0) = false := by decide
        have hp1 := hp0 rfl
        simp only [T_ref3_Rising, goes_br, lt_len hk, nng, Bool.and_self, if_true, Int.toNat_natCast, getD_lt hk, hn', wrap_succ (k := 0) (by omega), e0]
        by_cases h1 : n < 0
        · rw [if_pos (decide_eq_true h1), if_pos (by omega)]; exact .leaf
        · rw [if_neg (by simpa using h1)]
          by_cases h2 : 2147483647 < n
          · rw [if_pos (decide_eq_true (by omega)), if_pos (by omega)]; exact .leaf
          · rw [if_neg (by simp; omega), if_neg (by decide), if_neg (by omega)]; simpa using nx
      · have e0 : decide ((k : Int) > 0) = true := decide_eq_true (by omega)
        have hk1 : k - 1 < l.length := by omega
        have hpv : l[k - 1] = p := by
          have := hp (by omega)
          rw [List.getElem?_eq_getElem hk1] at this
          exact Option.some.inj this
        simp only [T_ref3_Rising, goes_br, lt_len hk, nng, Bool.and_self, if_true, Int.toNat_natCast, getD_lt hk, hn', wrap_succ (k := k) (by omega), wrap_pred (k := k) (by omega) (by omega), lt_len hk1, getD_lt hk1, hpv, e0]
        by_cases h1 : n < 0
        · rw [if_pos (decide_eq_true h1), if_pos (by omega)]; exact .leaf
        · rw [if_neg (by simpa using h1)]
          by_cases h2 : 2147483647 < n
          · rw [if_pos (decide_eq_true (by omega)), if_pos (by omega)]; exact .leaf
          · rw [if_neg (by simp; omega)]
            by_cases h3 : n ≤ p
            · rw [if_pos (decide_eq_true (by omega)), if_pos (by omega)]; exact .leaf
            · rw [if_neg (by simp; omega), if_neg (by omega)]; exact nx
  have := loop 0 (Nat.zero_le _) (-1) (fun h => by omega) (fun _ => rfl)
  unfold T0_ref3_Rising v_ref3_Rising rising
  simpa using this
end Go.Ev
end

section
set_option linter.unusedSectionVars false
set_option linter.unusedVariables false
set_option linter.unusedSimpArgs false
set_option maxRecDepth 100000
set_option linter.unusedVariables false
open Go Go.Ev
namespace Go.Ev
noncomputable def e_ref3_Rising : Run := entG sg_ref3_Rising R_ref3_Rising (fun a => k_ref3_Rising a.1) (fun a => v_ref3_Rising a.1)
theorem ok_ref3_Rising : EntOK Go.Proofs.Tryd.prog 44 e_ref3_Rising := entG_ok (tb := tb_ref3_Rising) (c := c_ref3_Rising) tk_ref3_Rising (by kernel_rfl) (by kernel_rfl) (by kernel_rfl) (fun a => by kernel_rfl) fun ⟨l, _⟩ hk => evF_goes (c := c_ref3_Rising) (K := fun v => (R_ref3_Rising v, tps (toForms sg_ref3_Rising (l, ())))) (S := S_ref3_Rising l) (by kernel_rfl) (en_ref3_Rising l) (lp_ref3_Rising l) (g_ref3_Rising l hk)
end Go.Ev
end

section
set_option linter.unusedSectionVars false
set_option linter.unusedVariables false
set_option linter.unusedSimpArgs false
set_option maxRecDepth 100000
set_option linter.unusedVariables false
open Go Go.Ev
namespace Go.Ev
/-! ### paling/palingref3.In -/
def sg_ref3_In : Sig := [(false, (.sl (.int .i64))), (false, (.int .i64))]
noncomputable def t_ref3_In : Tbl := []
theorem tk_ref3_In : ∀ p ∈ t_ref3_In, EntOK Go.Proofs.Tryd.prog p.1 p.2 := tbl_nil
noncomputable def c_ref3_In : Code := Go.Proofs.Tryd.f27.body.getD .skip
def tb_ref3_In : Tb := [(3, ⟨[0, 1, 5], []⟩)]
inductive J_ref3_In where
  | l3 (i : Int)
def T_ref3_In (l : List Int) (n : Int) : J_ref3_In → JT J_ref3_In (Bool)
  | .l3 i =>
    .br (decide (i < (Int.ofNat (List.length l))))
      (.br ((decide ((0 : Int) ≤ i)) && (decide (i < (Int.ofNat (List.length l)))))
        (.br ((List.getD l (Int.toNat i) (dflt (.int .i64))) == n)
          (.leaf true)
        (.jmp (.l3 (IntKind.i64.wrap (i + (1 : Int))))))
      (.no))
    (.leaf false)
def T0_ref3_In (l : List Int) (n : Int) : JT J_ref3_In (Bool) :=
  .jmp (.l3 (0 : Int))
def R_ref3_In : Bool → AV := fun (r : Bool) => .d .bool r
def S_ref3_In (l : List Int) (n : Int) : J_ref3_In → Nat × St
  | .l3 i => (3, ⟨mkTm 18 [(0, .d (.sl (.int .i64)) l), (1, .d (.int .i64) n), (5, .d (.int .i64) i)], []⟩)
theorem en_ref3_In (l : List Int) (n : Int) (L : Lt) : entryA Go.Proofs.Tryd.prog (clOf t_ref3_In) tb_ref3_In Go.Proofs.Tryd.f27 c_ref3_In L (toForms sg_ref3_In (l, n, ())) = (T0_ref3_In l n).run (fun v => some (R_ref3_In v, tps (toForms sg_ref3_In (l, n, ())))) fun j => L (S_ref3_In l n j).1 (S_ref3_In l n j).2 := by kernel_rfl
theorem lp_ref3_In (l : List Int) (n : Int) : ∀ (L : Lt) (j : J_ref3_In), procOf (procsF Go.Proofs.Tryd.prog (clOf t_ref3_In) tb_ref3_In Go.Proofs.Tryd.f27 c_ref3_In (toForms sg_ref3_In (l, n, ()))) (S_ref3_In l n j).1 L (S_ref3_In l n j).2 = (T_ref3_In l n j).run (fun v => some (R_ref3_In v, tps (toForms sg_ref3_In (l, n, ())))) fun j => L (S_ref3_In l n j).1 (S_ref3_In l n j).2
  | L, .l3 i => by kernel_rfl
end Go.Ev
end

section
set_option linter.unusedSectionVars false
set_option linter.unusedVariables false
set_option linter.unusedSimpArgs false
set_option linter.unusedVariables false
set_option linter.unusedSimpArgs false
open Go
namespace Go.Ev
def v_ref3_In (l : List Int) (n : Int) : Bool := l.contains n
def k_ref3_In (l : List Int) (n : Int) : Bool := decide (l.length < 4611686018427387904)
theorem g_ref3_In (l : List Int) (n : Int) (hk : k_ref3_In l n = true) : Goes (T_ref3_In l n) (T0_ref3_In l n) (v_ref3_In l n) := by
  have hn : l.length < 4611686018427387904 := of_decide_eq_true hk
  have loop : ∀ k, k ≤ l.length → Goes (T_ref3_In l n) (.jmp (.l3 (k : Int))) ((l.drop k).contains n) := by
    refine down ?_ fun k hk ih => ?_
    · rw [goes_jmp]
      simp only [T_ref3_In, goes_br, lt_len_not (Nat.lt_irrefl _), goes_leaf, List.drop_length]
      simp
    · rw [goes_jmp]
      simp only [T_ref3_In, goes_br, lt_len hk, nng, Bool.and_self, if_true, Int.toNat_natCast, getD_lt hk, wrap_succ (k := k) (by omega)]
      rw [drop_cons hk, List.contains_cons]
      cases h : (l[k] == n) with
      | true =>
        have : (n == l[k]) = true := by simp at h ⊢; exact h.symm
        rw [this]; simp [goes_leaf]
      | false =>
        have : (n == l[k]) = false := by simp at h ⊢; exact fun e => h e.symm
        rw [this]; simpa using ih
  unfold T0_ref3_In v_ref3_In
  simpa using loop 0 (Nat.zero_le _)
end Go.Ev
end

section
set_option linter.unusedSectionVars false
set_option linter.unusedVariables false
set_option linter.unusedSimpArgs false
set_option maxRecDepth 100000
set_option linter.unusedVariables false
open Go Go.Ev
namespace Go.Ev
noncomputable def e_ref3_In : Run := entG sg_ref3_In R_ref3_In (fun a => k_ref3_In a.1 a.2.1) (fun a => v_ref3_In a.1 a.2.1)
theorem ok_ref3_In : EntOK Go.Proofs.Tryd.prog 27 e_ref3_In := entG_ok (tb := tb_ref3_In) (c := c_ref3_In) tk_ref3_In (by kernel_rfl) (by kernel_rfl) (by kernel_rfl) (fun a => by kernel_rfl) fun ⟨l, n, _⟩ hk => evF_goes (c := c_ref3_In) (K := fun v => (R_ref3_In v, tps (toForms sg_ref3_In (l, n, ())))) (S := S_ref3_In l n) (by kernel_rfl) (en_ref3_In l n) (lp_ref3_In l n) (g_ref3_In l n hk)
end Go.Ev
end

section
set_option linter.unusedSectionVars false
set_option linter.unusedVariables false
set_option linter.unusedSimpArgs false
set_option maxRecDepth 100000
set_option linter.unusedVariables false
open Go Go.Ev
namespace Go.Ev
/-! ### paling/palingref3.Unweave -/
def sg_ref3_Unweave : Sig := [(true, T_api_Prog), (false, (.sl (.sl (.int .i64))))]
noncomputable def t_ref3_Unweave : Tbl := [(35, e_ref1_Check), (43, e_ref1_CopyProg), (44, e_ref3_Rising), (27, e_ref3_In)]
theorem tk_ref3_Unweave : ∀ p ∈ t_ref3_Unweave, EntOK Go.Proofs.Tryd.prog p.1 p.2 := tbl_cons ok_ref1_Check (tbl_cons ok_ref1_CopyProg (tbl_cons ok_ref3_Rising (tbl_cons ok_ref3_In (tbl_nil))))
noncomputable def c_ref3_Unweave : Code := Go.Proofs.Tryd.f34.body.getD .skip
def tb_ref3_Unweave : Tb := [(7, ⟨[1, 2, 4, 6, 7], []⟩), (17, ⟨[1, 2, 4, 6, 7, 8, 9], []⟩), (27, ⟨[1, 2, 4, 6, 7, 8, 10, 11, 12], [(12, 122), (11, 112)]⟩), (hintK, ⟨[], [(1049601, 48), (1049602, 50)]⟩)]
inductive J_ref3_Unweave where
  | l7 (t : Int) (q : List (List (El T_api_Ins)))
  | l17 (l : List (El T_api_Ins)) (k : Int) (t : Int) (q : List (List (El T_api_Ins)))
  | l27 (l : List (El T_api_Ins)) (i : Int) (labels : List ByteArray) (out : List (El T_api_Ins)) (t : Int) (q : List (List (El T_api_Ins)))
def T_ref3_Unweave (p : El T_api_Prog) (fences : List (List Int)) : J_ref3_Unweave → JT J_ref3_Unweave ((El T_api_Prog) × Bool)
  | .l7 t q =>
    .br (decide (t < (Int.ofNat (List.length fences))))
      (.br ((decide ((0 : Int) ≤ t)) && (decide (t < (Int.ofNat (List.length p.2)))))
        (.br ((decide ((0 : Int) ≤ t)) && (decide (t < (Int.ofNat (List.length fences)))))
          (.br (k_ref3_Rising (List.getD fences (Int.toNat t) (dflt (.sl (.int .i64)))))
            (.br (! (v_ref3_Rising (List.getD fences (Int.toNat t) (dflt (.sl (.int .i64))))))
              (.leaf (([], []), false))
            (.jmp (.l17 (List.getD p.2 (Int.toNat t) (dflt (.sl T_api_Ins))) (0 : Int) t q)))
          (.no))
        (.no))
      (.no))
    (.leaf (((v_ref1_CopyProg p).1, q), true))
  | .l17 l k t q =>
    .br ((decide ((0 : Int) ≤ t)) && (decide (t < (Int.ofNat (List.length fences)))))
      (.br (decide (k < (Int.ofNat (List.length (List.getD fences (Int.toNat t) (dflt (.sl (.int .i64))))))))
        (.br ((decide ((0 : Int) ≤ t)) && (decide (t < (Int.ofNat (List.length fences)))))
          (.br ((decide ((0 : Int) ≤ k)) && (decide (k < (Int.ofNat (List.length (List.getD fences (Int.toNat t) (dflt (.sl (.int .i64)))))))))
            (.br (decide ((List.getD (List.getD fences (Int.toNat t) (dflt (.sl (.int .i64)))) (Int.toNat k) (dflt (.int .i64))) ≥ (Int.ofNat (List.length l))))
              (.leaf (([], []), false))
            (.br ((decide ((0 : Int) ≤ t)) && (decide (t < (Int.ofNat (List.length fences)))))
              (.br ((decide ((0 : Int) ≤ k)) && (decide (k < (Int.ofNat (List.length (List.getD fences (Int.toNat t) (dflt (.sl (.int .i64)))))))))
                (.br ((decide ((0 : Int) ≤ (List.getD (List.getD fences (Int.toNat t) (dflt (.sl (.int .i64)))) (Int.toNat k) (dflt (.int .i64))))) && (decide ((List.getD (List.getD fences (Int.toNat t) (dflt (.sl (.int .i64)))) (Int.toNat k) (dflt (.int .i64))) < (Int.ofNat (List.length l)))))
                  (.br ((List.getD l (Int.toNat (List.getD (List.getD fences (Int.toNat t) (dflt (.sl (.int .i64)))) (Int.toNat k) (dflt (.int .i64)))) (dflt T_api_Ins)).1 != (12 : Int))
                    (.leaf (([], []), false))
                  (.jmp (.l17 l (IntKind.i64.wrap (k + (1 : Int))) t q)))
                (.no))
              (.no))
            (.no)))
          (.no))
        (.no))
      (.jmp (.l27 l (0 : Int) [] [] t q)))
    (.no)
  | .l27 l i labels out t q =>
    .br (decide (i < (Int.ofNat (List.length l))))
      (.br ((decide ((0 : Int) ≤ i)) && (decide (i < (Int.ofNat (List.length l)))))
        (.br (Nat.ble (((List.length labels) + (List.length (List.getD l (Int.toNat i) (dflt T_api_Ins)).2.2.2.2.2.2)) * 16) limit)
          (.br ((decide ((0 : Int) ≤ t)) && (decide (t < (Int.ofNat (List.length fences)))))
            (.br (k_ref3_In (List.getD fences (Int.toNat t) (dflt (.sl (.int .i64)))) i)
              (.br (v_ref3_In (List.getD fences (Int.toNat t) (dflt (.sl (.int .i64)))) i)
                (.jmp (.l27 l (IntKind.i64.wrap (i + (1 : Int))) (labels ++ (List.getD l (Int.toNat i) (dflt T_api_Ins)).2.2.2.2.2.2) out t q))
              (.br ((decide ((0 : Int) ≤ i)) && (decide (i < (Int.ofNat (List.length l)))))
                (.br (Nat.ble ((List.length (labels ++ (List.getD l (Int.toNat i) (dflt T_api_Ins)).2.2.2.2.2.2)) * 16) limit)
                  (.br (Nat.ble (((List.length out) + 1) * 128) limit)
                    (.jmp (.l27 l (IntKind.i64.wrap (i + (1 : Int))) [] (out ++ [((List.getD l (Int.toNat i) (dflt T_api_Ins)).1, ((List.getD l (Int.toNat i) (dflt T_api_Ins)).2.1, ((List.getD l (Int.toNat i) (dflt T_api_Ins)).2.2.1, ((List.getD l (Int.toNat i) (dflt T_api_Ins)).2.2.2.1, ((List.getD l (Int.toNat i) (dflt T_api_Ins)).2.2.2.2.1, ((List.getD l (Int.toNat i) (dflt T_api_Ins)).2.2.2.2.2.1, (labels ++ (List.getD l (Int.toNat i) (dflt T_api_Ins)).2.2.2.2.2.2)))))))]) t q))
                  (.no))
                (.no))
              (.no)))
            (.no))
          (.no))
        (.no))
      (.no))
    (.br ((decide ((0 : Int) ≤ t)) && (decide (t < (Int.ofNat (List.length q)))))
      (.jmp (.l7 (IntKind.i64.wrap (t + (1 : Int))) (List.set q (Int.toNat t) out)))
    (.no))
def T0_ref3_Unweave (p : El T_api_Prog) (fences : List (List Int)) : JT J_ref3_Unweave ((El T_api_Prog) × Bool) :=
  .br (k_ref1_Check p)
    (.br ((v_ref1_Check p) != (0 : Int))
      (.leaf (([], []), false))
    (.br (decide ((Int.ofNat (List.length fences)) > (Int.ofNat (List.length p.2))))
      (.leaf (([], []), false))
    (.br (k_ref1_CopyProg p)
      (.jmp (.l7 (0 : Int) (v_ref1_CopyProg p).2))
    (.no))))
  (.no)
def R_ref3_Unweave : (El T_api_Prog) × Bool → AV := fun (r : (El T_api_Prog) × Bool) => .tu [.ag [.rw 70 T_api_Sym r.1.1, .rw 58 (.sl T_api_Ins) r.1.2], .d .bool r.2]
def S_ref3_Unweave (p : El T_api_Prog) (fences : List (List Int)) : J_ref3_Unweave → Nat × St
  | .l7 t q => (7, ⟨mkTm 118 [(1, .d (.sl (.sl (.int .i64))) fences), (2, .pt 3 0 0), (4, .pt 5 0 0), (6, .pt 7 0 0), (7, .d (.int .i64) t)], [(3, 0, .box 27 [.d (.sl T_api_Sym) p.1, .d (.sl (.sl T_api_Ins)) p.2] none), (5, 0, .box 27 [.nil, .nil] none), (7, 0, .box 27 [.own 7169 0 none, .own 7170 0 none] none), (7169, 0, .row 70 T_api_Sym (v_ref1_CopyProg p).1 false), (7170, 0, .row 58 (.sl T_api_Ins) q false)]⟩)
  | .l17 l k t q => (17, ⟨mkTm 118 [(1, .d (.sl (.sl (.int .i64))) fences), (2, .pt 3 0 0), (4, .pt 5 0 0), (6, .pt 7 0 0), (7, .d (.int .i64) t), (8, .d (.sl T_api_Ins) l), (9, .d (.int .i64) k)], [(3, 0, .box 27 [.d (.sl T_api_Sym) p.1, .d (.sl (.sl T_api_Ins)) p.2] none), (5, 0, .box 27 [.nil, .nil] none), (7, 0, .box 27 [.own 7169 0 none, .own 7170 0 none] none), (7169, 0, .row 70 T_api_Sym (v_ref1_CopyProg p).1 false), (7170, 0, .row 58 (.sl T_api_Ins) q false)]⟩)
  | .l27 l i labels out t q => (27, ⟨mkTm 118 [(1, .d (.sl (.sl (.int .i64))) fences), (2, .pt 3 0 0), (4, .pt 5 0 0), (6, .pt 7 0 0), (7, .d (.int .i64) t), (8, .d (.sl T_api_Ins) l), (10, .own 11 0 none), (11, .own 12 0 none), (12, .d (.int .i64) i)], [(3, 0, .box 27 [.d (.sl T_api_Sym) p.1, .d (.sl (.sl T_api_Ins)) p.2] none), (5, 0, .box 27 [.nil, .nil] none), (7, 0, .box 27 [.own 7169 0 none, .own 7170 0 none] none), (11, 0, .row 63 T_api_Ins out false), (12, 0, .row 9 .str labels false), (7169, 0, .row 70 T_api_Sym (v_ref1_CopyProg p).1 false), (7170, 0, .row 58 (.sl T_api_Ins) q false)]⟩)
theorem en_ref3_Unweave (p : El T_api_Prog) (fences : List (List Int)) (L : Lt) : entryA Go.Proofs.Tryd.prog (clOf t_ref3_Unweave) tb_ref3_Unweave Go.Proofs.Tryd.f34 c_ref3_Unweave L (toForms sg_ref3_Unweave (p, fences, ())) = (T0_ref3_Unweave p fences).run (fun v => some (R_ref3_Unweave v, tps (toForms sg_ref3_Unweave (p, fences, ())))) fun j => L (S_ref3_Unweave p fences j).1 (S_ref3_Unweave p fences j).2 := by kernel_rfl
theorem lp_ref3_Unweave (p : El T_api_Prog) (fences : List (List Int)) : ∀ (L : Lt) (j : J_ref3_Unweave), procOf (procsF Go.Proofs.Tryd.prog (clOf t_ref3_Unweave) tb_ref3_Unweave Go.Proofs.Tryd.f34 c_ref3_Unweave (toForms sg_ref3_Unweave (p, fences, ()))) (S_ref3_Unweave p fences j).1 L (S_ref3_Unweave p fences j).2 = (T_ref3_Unweave p fences j).run (fun v => some (R_ref3_Unweave v, tps (toForms sg_ref3_Unweave (p, fences, ())))) fun j => L (S_ref3_Unweave p fences j).1 (S_ref3_Unweave p fences j).2
  | L, .l7 t q => by kernel_rfl
  | L, .l17 l k t q => by kernel_rfl
  | L, .l27 l i labels out t q => by kernel_rfl
end Go.Ev
end

section
set_option linter.unusedSectionVars false
set_option linter.unusedVariables false
set_option linter.unusedSimpArgs false
set_option linter.unusedVariables false
set_option linter.unusedSimpArgs false
open Go
namespace Go.Ev
def v_ref3_Unweave (p : El T_api_Prog) (fences : List (List Int)) : (El T_api_Prog) × Bool := outC p fences
def k_ref3_Unweave (p : El T_api_Prog) (fences : List (List Int)) : Bool := smallProg p && (copyB p && fences.all fun l => decide (List.length l < 1099511627776))
theorem g_ref3_Unweave (p : El T_api_Prog) (points : List (List Int)) (hk : k_ref3_Unweave p points = true) : Goes (T_ref3_Unweave p points) (T0_ref3_Unweave p points) (v_ref3_Unweave p points) := by
  unfold k_ref3_Unweave at hk
  simp only [Bool.and_eq_true, List.all_eq_true, decide_eq_true_eq] at hk
  obtain ⟨hsm, hcp, hpl⟩ := hk
  have hC := copyOK hcp
  have hkc : k_ref1_Check p = true := hsm
  have hkC : k_ref1_CopyProg p = true := hcp
  have hvC : v_ref1_CopyProg p = p := rfl
  have hth := hC.thr
  have hsmall : ∀ x ∈ p.2, smallThread x = true := by
    unfold smallProg at hsm
    simp only [Bool.and_eq_true, List.all_eq_true] at hsm
    exact hsm.2
  obtain ⟨R, hR⟩ : ∃ R, outP points p.2 = R := ⟨_, rfl⟩
  have hRl : R.length = p.2.length := by rw [← hR]; exact outP_len points p.2
  have hRg : ∀ t (h : t < p.2.length), R[t]'(by omega) = outT (points.getD t []) 0 [] p.2[t] := fun t h => by
    have := outP_get points p.2 t h
    rw [hR, List.getElem?_eq_getElem (by omega)] at this
    exact Option.some.inj this
  have loop : points.length ≤ p.2.length → ∀ t, t ≤ points.length → Goes (T_ref3_Unweave p points) (.jmp (.l7 (t : Int) (R.take t ++ p.2.drop t))) (if okOuts (points.drop t) (p.2.drop t) then ((p.1, R), true) else (noProg, false)) := by
    intro hpt
    refine down ?_ fun t ht ih => ?_
    · rw [goes_jmp]
      simp only [T_ref3_Unweave, goes_br, lt_len_not (Nat.lt_irrefl _), if_false, Bool.false_eq_true, hvC, List.drop_length]
      rw [if_pos (by rfl)]
      have : R.take points.length ++ p.2.drop points.length = R := by
        apply List.ext_getElem
        · rw [mix_len hRl hpt, hRl]
        · intro i h1 h2
          by_cases hi : i < points.length
          · rw [List.getElem_append_left (by rw [List.length_take]; omega), List.getElem_take]
          · rw [List.getElem_append_right (by rw [List.length_take]; omega), List.getElem_drop, hRg i (by omega), List.getD_eq_getElem?_getD, List.getElem?_eq_none (by omega), Option.getD_none, outT_nil]
            congr 1
            rw [List.length_take]
            omega
      rw [this]
      exact .leaf
    · have htp : t < p.2.length := by omega
      have hL := hpl _ (List.getElem_mem ht)
      obtain ⟨l, hl⟩ : ∃ l, points[t] = l := ⟨_, rfl⟩
      rw [hl] at hL
      have hko : k_ref3_Rising l = true := decide_eq_true (by omega)
      have hvo : v_ref3_Rising l = rising l := rfl
      have hql := mix_len (k := t) hRl (by omega)
      have hqt : t < (R.take t ++ p.2.drop t).length := by omega
      obtain ⟨x, hx⟩ : ∃ x, p.2[t] = x := ⟨_, rfl⟩
      have hxm : x ∈ p.2 := by rw [← hx]; exact List.getElem_mem htp
      have hxl := hC.len x hxm
      have hxs := (smallT (hsmall x hxm)).labs
      have hset := mix_set hRl htp
      rw [hRg t htp, getD_lt ht, hl, hx] at hset
      have hI : ∀ k, k_ref3_In l k = true := fun k => decide_eq_true (by omega)
      have inner : Goes (T_ref3_Unweave p points) (.jmp (.l27 x 0 [] [] (t : Int) (R.take t ++ p.2.drop t))) (if okOuts (points.drop (t + 1)) (p.2.drop (t + 1)) then ((p.1, R), true) else (noProg, false)) := by
        have go : ∀ k, k ≤ List.length x → ∀ (ls : List ByteArray) (out : List (El T_api_Ins)), ls.length + (labels (List.drop k x)).length ≤ (labels x).length → out.length ≤ k → out ++ outT l k ls (List.drop k x) = outT l 0 [] x →
            Goes (T_ref3_Unweave p points) (.jmp (.l27 x (k : Int) ls out (t : Int) (R.take t ++ p.2.drop t))) (if okOuts (points.drop (t + 1)) (p.2.drop (t + 1)) then ((p.1, R), true) else (noProg, false)) := by
          refine down ?_ fun k hk ihk => ?_
          · intro ls out hls ho he
            rw [goes_jmp]
            simp only [T_ref3_Unweave, goes_br, lt_len_not (Nat.lt_irrefl _), if_false, Bool.false_eq_true, lt_len hqt, nng, Bool.and_self, if_true, Int.toNat_natCast, wrap_succ (k := t) (by omega)]
            rw [List.drop_length, show outT l (List.length x) ls [] = [] from rfl, List.append_nil] at he
            rw [he, hset]
            exact ih
          · intro ls out hls ho he
            rw [drop_cons hk] at he hls
            rw [labels_cons] at hls
            have b1 : Nat.ble ((out.length + 1) * 128) limit = true := bleN (by unfold limit; omega)
            have hlab : ls.length + List.length (x[k]).2.2.2.2.2.2 < 1099511627776 := by
              have e : (labsOf x[k]).length = List.length (x[k]).2.2.2.2.2.2 := rfl
              omega
            have b2 : Nat.ble ((ls.length + List.length (x[k]).2.2.2.2.2.2) * 16) limit = true := bleN (by unfold limit; omega)
            have b3 : Nat.ble ((List.length (ls ++ (x[k]).2.2.2.2.2.2)) * 16) limit = true := bleN (by rw [List.length_append]; unfold limit; omega)
            have hl1 : (ls ++ labsOf x[k]).length + (labels (List.drop (k + 1) x)).length ≤ (labels x).length := by rw [List.length_append]; omega
            have hl2 : ([] : List ByteArray).length + (labels (List.drop (k + 1) x)).length ≤ (labels x).length := by simp; omega
            have hc : v_ref3_In l (k : Int) = l.contains (k : Int) := rfl
            rw [outT] at he
            rw [goes_jmp]
            simp only [T_ref3_Unweave, goes_br, lt_len hk, lt_len ht, getD_lt ht, hl, nng, Bool.and_self, if_true, Int.toNat_natCast, getD_lt hk, hI, hc, b1, b2, b3, wrap_succ (k := k) (by omega)]
            split
            · rename_i hm
              rw [if_pos hm] at he
              exact ihk _ _ hl1 (by omega) he
            · rename_i hm
              rw [if_neg hm] at he
              exact ihk [] _ hl2 (by rw [List.length_append, List.length_singleton]; omega) (by rw [List.append_assoc]; exact he)
        exact go 0 (Nat.zero_le _) [] [] (by simp) (by simp) rfl
      rw [okOuts_drop ht htp, hl, hx, goes_jmp]
      by_cases hr : rising l = true
      · have hge := (rising_spec.1 hr).1
        have scan : ∀ j, j ≤ List.length l → Goes (T_ref3_Unweave p points) (.jmp (.l17 x (j : Int) (t : Int) (R.take t ++ p.2.drop t))) (if ((List.drop j l).all (fenceAt x) && okOuts (points.drop (t + 1)) (p.2.drop (t + 1))) then ((p.1, R), true) else (noProg, false)) := by
          refine down ?_ fun j hj ihj => ?_
          · rw [goes_jmp]
            simp only [T_ref3_Unweave, goes_br, lt_len ht, getD_lt ht, hl, nng, Bool.and_self, if_true, Int.toNat_natCast, lt_len_not (Nat.lt_irrefl _), if_false, Bool.false_eq_true, List.drop_length, List.all_nil, Bool.true_and]
            exact inner
          · have hg := hge _ (List.getElem_mem hj)
            obtain ⟨n, hn⟩ := Int.eq_ofNat_of_zero_le hg.1
            rw [drop_cons hj, List.all_cons, hn, goes_jmp]
            by_cases hlt : n < List.length x
            · have d1 : decide ((n : Int) ≥ Int.ofNat (List.length x)) = false := decide_eq_false (by simp; omega)
              have hf : fenceAt x (n : Int) = ((show Int from (x[n]).1) == 12) := by
                unfold fenceAt
                rw [decide_eq_true (by omega), Int.toNat_natCast, getD_lt hlt]; rfl
              simp only [T_ref3_Unweave, goes_br, lt_len ht, getD_lt ht, hl, lt_len hj, nng, Bool.and_self, if_true, Int.toNat_natCast, getD_lt hj, hn, d1, lt_len hlt, getD_lt hlt, if_false, Bool.false_eq_true, wrap_succ (k := j) (by omega), hf]
              unfold bne
              cases h12 : ((x[n]).1 == (12 : Int)) with
              | true =>
                rw [if_neg (by decide), Bool.true_and]
                exact ihj
              | false =>
                rw [if_pos (by decide), Bool.false_and, Bool.false_and, if_neg (by decide)]
                exact .leaf
            · have d1 : decide ((n : Int) ≥ Int.ofNat (List.length x)) = true := decide_eq_true (by simp; omega)
              have hf : fenceAt x (n : Int) = false := by
                unfold fenceAt
                rw [decide_eq_false (by omega), Bool.false_and]
              simp only [T_ref3_Unweave, goes_br, lt_len ht, getD_lt ht, hl, lt_len hj, nng, Bool.and_self, if_true, Int.toNat_natCast, getD_lt hj, hn, d1, hf, Bool.false_and, if_false, Bool.false_eq_true]
              exact .leaf
        simp only [T_ref3_Unweave, goes_br, lt_len ht, lt_len htp, getD_lt htp, hx, nng, Bool.and_self, if_true, Int.toNat_natCast, getD_lt ht, hl, hko, hvo, hr, Bool.not_true, if_false, Bool.false_eq_true, okOut, Bool.true_and]
        exact scan 0 (Nat.zero_le _)
      · have hr' : rising l = false := by simpa using hr
        simp only [T_ref3_Unweave, goes_br, lt_len ht, lt_len htp, nng, Bool.and_self, if_true, Int.toNat_natCast, getD_lt ht, hl, hko, hvo, hr', Bool.not_false, okOut, Bool.false_and, if_false, Bool.false_eq_true]
        exact .leaf
  unfold T0_ref3_Unweave v_ref3_Unweave outC
  simp only [goes_br, hkc, if_true, v_ref1_Check]
  by_cases hc : checkC p = 0
  · rw [if_neg (by simp [hc])]
    by_cases hp : p.2.length < points.length
    · rw [if_pos (by simp; omega), if_pos (.inr (.inl hp))]
      exact .leaf
    · rw [if_neg (by simp; omega), if_pos hkC]
      have := loop (by omega) 0 (Nat.zero_le _)
      rw [List.drop_zero, List.drop_zero, List.take_zero, List.nil_append] at this
      cases hok : okOuts points p.2 with
      | true =>
        rw [hok, if_pos rfl] at this
        rw [if_neg (by simp [hc]; omega), hR]
        exact this
      | false =>
        rw [hok, if_neg (by decide)] at this
        rw [if_pos (.inr (.inr rfl))]
        exact this
  · rw [if_pos (by simpa using hc), if_pos (.inl hc)]
    exact .leaf
end Go.Ev
end

section
set_option linter.unusedSectionVars false
set_option linter.unusedVariables false
set_option linter.unusedSimpArgs false
set_option maxRecDepth 100000
set_option linter.unusedVariables false
open Go Go.Ev
namespace Go.Ev
noncomputable def e_ref3_Unweave : Run := entG sg_ref3_Unweave R_ref3_Unweave (fun a => k_ref3_Unweave a.1 a.2.1) (fun a => v_ref3_Unweave a.1 a.2.1)
theorem ok_ref3_Unweave : EntOK Go.Proofs.Tryd.prog 34 e_ref3_Unweave := entG_ok (tb := tb_ref3_Unweave) (c := c_ref3_Unweave) tk_ref3_Unweave (by kernel_rfl) (by kernel_rfl) (by kernel_rfl) (fun a => by kernel_rfl) fun ⟨p, fences, _⟩ hk => evF_goes (c := c_ref3_Unweave) (K := fun v => (R_ref3_Unweave v, tps (toForms sg_ref3_Unweave (p, fences, ())))) (S := S_ref3_Unweave p fences) (by kernel_rfl) (en_ref3_Unweave p fences) (lp_ref3_Unweave p fences) (g_ref3_Unweave p fences hk)
end Go.Ev
end

section
set_option linter.unusedSectionVars false
set_option linter.unusedVariables false
set_option linter.unusedSimpArgs false
set_option maxRecDepth 100000
set_option linter.unusedVariables false
open Go Go.Ev
namespace Go.Ev
/-! ### paling/palingref3.Weave -/
def sg_ref3_Weave : Sig := [(true, T_api_Prog), (false, (.sl (.sl (.int .i64))))]
noncomputable def t_ref3_Weave : Tbl := [(35, e_ref1_Check), (43, e_ref1_CopyProg), (44, e_ref3_Rising), (45, e_ref1_CopyIns), (27, e_ref3_In)]
theorem tk_ref3_Weave : ∀ p ∈ t_ref3_Weave, EntOK Go.Proofs.Tryd.prog p.1 p.2 := tbl_cons ok_ref1_Check (tbl_cons ok_ref1_CopyProg (tbl_cons ok_ref3_Rising (tbl_cons ok_ref1_CopyIns (tbl_cons ok_ref3_In (tbl_nil)))))
noncomputable def c_ref3_Weave : Code := Go.Proofs.Tryd.f15.body.getD .skip
def tb_ref3_Weave : Tb := [(7, ⟨[1, 2, 4, 6, 7, 66], []⟩), (18, ⟨[1, 2, 4, 6, 7, 8, 9, 10, 51], [(10, 112)]⟩), (hintK, ⟨[], [(1049601, 48), (1049602, 50)]⟩)]
inductive J_ref3_Weave where
  | l7 (t : Int) (q : List (List (El T_api_Ins)))
  | l18 (l : List (El T_api_Ins)) (h : Bool) (i : Int) (out : List (El T_api_Ins)) (t : Int) (q : List (List (El T_api_Ins)))
def T_ref3_Weave (p : El T_api_Prog) (points : List (List Int)) : J_ref3_Weave → JT J_ref3_Weave ((El T_api_Prog) × Bool)
  | .l7 t q =>
    .br (decide (t < (Int.ofNat (List.length points))))
      (.br ((decide ((0 : Int) ≤ t)) && (decide (t < (Int.ofNat (List.length p.2)))))
        (.br ((decide ((0 : Int) ≤ t)) && (decide (t < (Int.ofNat (List.length points)))))
          (.br (k_ref3_Rising (List.getD points (Int.toNat t) (dflt (.sl (.int .i64)))))
            (.br (! (v_ref3_Rising (List.getD points (Int.toNat t) (dflt (.sl (.int .i64))))))
              (.leaf (([], []), false))
            (.br ((decide ((0 : Int) ≤ t)) && (decide (t < (Int.ofNat (List.length points)))))
              (.br (decide ((Int.ofNat (List.length (List.getD points (Int.toNat t) (dflt (.sl (.int .i64)))))) > (0 : Int)))
                (.br ((decide ((0 : Int) ≤ t)) && (decide (t < (Int.ofNat (List.length points)))))
                  (.br ((decide ((0 : Int) ≤ t)) && (decide (t < (Int.ofNat (List.length points)))))
                    (.br ((decide ((0 : Int) ≤ (IntKind.i64.wrap ((Int.ofNat (List.length (List.getD points (Int.toNat t) (dflt (.sl (.int .i64)))))) - (1 : Int))))) && (decide ((IntKind.i64.wrap ((Int.ofNat (List.length (List.getD points (Int.toNat t) (dflt (.sl (.int .i64)))))) - (1 : Int))) < (Int.ofNat (List.length (List.getD points (Int.toNat t) (dflt (.sl (.int .i64)))))))))
                      (.br (decide ((List.getD (List.getD points (Int.toNat t) (dflt (.sl (.int .i64)))) (Int.toNat (IntKind.i64.wrap ((Int.ofNat (List.length (List.getD points (Int.toNat t) (dflt (.sl (.int .i64)))))) - (1 : Int)))) (dflt (.int .i64))) ≥ (Int.ofNat (List.length (List.getD p.2 (Int.toNat t) (dflt (.sl T_api_Ins)))))))
                        (.leaf (([], []), false))
                      (.jmp (.l18 (List.getD p.2 (Int.toNat t) (dflt (.sl T_api_Ins))) true (0 : Int) [] t q)))
                    (.no))
                  (.no))
                (.no))
              (.jmp (.l18 (List.getD p.2 (Int.toNat t) (dflt (.sl T_api_Ins))) false (0 : Int) [] t q)))
            (.no)))
          (.no))
        (.no))
      (.no))
    (.leaf (((v_ref1_CopyProg p).1, q), true))
  | .l18 l h i out t q =>
    .br (decide (i < (Int.ofNat (List.length l))))
      (.br ((decide ((0 : Int) ≤ i)) && (decide (i < (Int.ofNat (List.length l)))))
        (.br (k_ref1_CopyIns (List.getD l (Int.toNat i) (dflt T_api_Ins)))
          (.br ((decide ((0 : Int) ≤ t)) && (decide (t < (Int.ofNat (List.length points)))))
            (.br (k_ref3_In (List.getD points (Int.toNat t) (dflt (.sl (.int .i64)))) i)
              (.br (v_ref3_In (List.getD points (Int.toNat t) (dflt (.sl (.int .i64)))) i)
                (.br (Nat.ble (((List.length out) + 1) * 128) limit)
                  (.br (Nat.ble (((List.length (out ++ [((12 : Int), (false, ((0 : Int), (((0 : Int), ((0 : Int), ((0 : Int), (0 : Int)))), (((0 : Int), ((0 : Int), ((0 : Int), (0 : Int)))), ((bs []), (v_ref1_CopyIns (List.getD l (Int.toNat i) (dflt T_api_Ins))).2.2.2.2.2.2))))))])) + 1) * 128) limit)
                    (.jmp (.l18 l h (IntKind.i64.wrap (i + (1 : Int))) ((out ++ [((12 : Int), (false, ((0 : Int), (((0 : Int), ((0 : Int), ((0 : Int), (0 : Int)))), (((0 : Int), ((0 : Int), ((0 : Int), (0 : Int)))), ((bs []), (v_ref1_CopyIns (List.getD l (Int.toNat i) (dflt T_api_Ins))).2.2.2.2.2.2))))))]) ++ [((v_ref1_CopyIns (List.getD l (Int.toNat i) (dflt T_api_Ins))).1, ((v_ref1_CopyIns (List.getD l (Int.toNat i) (dflt T_api_Ins))).2.1, ((v_ref1_CopyIns (List.getD l (Int.toNat i) (dflt T_api_Ins))).2.2.1, ((v_ref1_CopyIns (List.getD l (Int.toNat i) (dflt T_api_Ins))).2.2.2.1, ((v_ref1_CopyIns (List.getD l (Int.toNat i) (dflt T_api_Ins))).2.2.2.2.1, ((v_ref1_CopyIns (List.getD l (Int.toNat i) (dflt T_api_Ins))).2.2.2.2.2.1, []))))))]) t q))
                  (.no))
                (.no))
              (.br (Nat.ble (((List.length out) + 1) * 128) limit)
                (.jmp (.l18 l h (IntKind.i64.wrap (i + (1 : Int))) (out ++ [(v_ref1_CopyIns (List.getD l (Int.toNat i) (dflt T_api_Ins)))]) t q))
              (.no)))
            (.no))
          (.no))
        (.no))
      (.no))
    (.br ((decide ((0 : Int) ≤ t)) && (decide (t < (Int.ofNat (List.length q)))))
      (.jmp (.l7 (IntKind.i64.wrap (t + (1 : Int))) (List.set q (Int.toNat t) out)))
    (.no))
def T0_ref3_Weave (p : El T_api_Prog) (points : List (List Int)) : JT J_ref3_Weave ((El T_api_Prog) × Bool) :=
  .br (k_ref1_Check p)
    (.br ((v_ref1_Check p) != (0 : Int))
      (.leaf (([], []), false))
    (.br (decide ((Int.ofNat (List.length points)) > (Int.ofNat (List.length p.2))))
      (.leaf (([], []), false))
    (.br (k_ref1_CopyProg p)
      (.jmp (.l7 (0 : Int) (v_ref1_CopyProg p).2))
    (.no))))
  (.no)
def R_ref3_Weave : (El T_api_Prog) × Bool → AV := fun (r : (El T_api_Prog) × Bool) => .tu [.ag [.rw 70 T_api_Sym r.1.1, .rw 58 (.sl T_api_Ins) r.1.2], .d .bool r.2]
def S_ref3_Weave (p : El T_api_Prog) (points : List (List Int)) : J_ref3_Weave → Nat × St
  | .l7 t q => (7, ⟨mkTm 105 [(1, .d (.sl (.sl (.int .i64))) points), (2, .pt 3 0 0), (4, .pt 5 0 0), (6, .pt 7 0 0), (7, .d (.int .i64) t)], [(3, 0, .box 27 [.d (.sl T_api_Sym) p.1, .d (.sl (.sl T_api_Ins)) p.2] none), (5, 0, .box 27 [.nil, .nil] none), (7, 0, .box 27 [.own 7169 0 none, .own 7170 0 none] none), (7169, 0, .row 70 T_api_Sym (v_ref1_CopyProg p).1 false), (7170, 0, .row 58 (.sl T_api_Ins) q false)]⟩)
  | .l18 l h i out t q => (18, ⟨mkTm 105 [(1, .d (.sl (.sl (.int .i64))) points), (2, .pt 3 0 0), (4, .pt 5 0 0), (6, .pt 7 0 0), (7, .d (.int .i64) t), (8, .d (.sl T_api_Ins) l), (9, .own 10 0 none), (10, .d (.int .i64) i), (51, .d .bool h)], [(3, 0, .box 27 [.d (.sl T_api_Sym) p.1, .d (.sl (.sl T_api_Ins)) p.2] none), (5, 0, .box 27 [.nil, .nil] none), (7, 0, .box 27 [.own 7169 0 none, .own 7170 0 none] none), (10, 0, .row 63 T_api_Ins out false), (7169, 0, .row 70 T_api_Sym (v_ref1_CopyProg p).1 false), (7170, 0, .row 58 (.sl T_api_Ins) q false)]⟩)
theorem en_ref3_Weave (p : El T_api_Prog) (points : List (List Int)) (L : Lt) : entryA Go.Proofs.Tryd.prog (clOf t_ref3_Weave) tb_ref3_Weave Go.Proofs.Tryd.f15 c_ref3_Weave L (toForms sg_ref3_Weave (p, points, ())) = (T0_ref3_Weave p points).run (fun v => some (R_ref3_Weave v, tps (toForms sg_ref3_Weave (p, points, ())))) fun j => L (S_ref3_Weave p points j).1 (S_ref3_Weave p points j).2 := by kernel_rfl
theorem lp_ref3_Weave (p : El T_api_Prog) (points : List (List Int)) : ∀ (L : Lt) (j : J_ref3_Weave), procOf (procsF Go.Proofs.Tryd.prog (clOf t_ref3_Weave) tb_ref3_Weave Go.Proofs.Tryd.f15 c_ref3_Weave (toForms sg_ref3_Weave (p, points, ()))) (S_ref3_Weave p points j).1 L (S_ref3_Weave p points j).2 = (T_ref3_Weave p points j).run (fun v => some (R_ref3_Weave v, tps (toForms sg_ref3_Weave (p, points, ())))) fun j => L (S_ref3_Weave p points j).1 (S_ref3_Weave p points j).2
  | L, .l7 t q => by kernel_rfl
  | L, .l18 l h i out t q => by kernel_rfl
end Go.Ev
end

section
set_option linter.unusedSectionVars false
set_option linter.unusedVariables false
set_option linter.unusedSimpArgs false
set_option linter.unusedVariables false
set_option linter.unusedSimpArgs false
open Go
namespace Go.Ev
def v_ref3_Weave (p : El T_api_Prog) (points : List (List Int)) : (El T_api_Prog) × Bool := inC p points
def k_ref3_Weave (p : El T_api_Prog) (points : List (List Int)) : Bool := smallProg p && (copyB p && points.all fun l => decide (List.length l < 1099511627776))
theorem g_ref3_Weave (p : El T_api_Prog) (points : List (List Int)) (hk : k_ref3_Weave p points = true) : Goes (T_ref3_Weave p points) (T0_ref3_Weave p points) (v_ref3_Weave p points) := by
  unfold k_ref3_Weave at hk
  simp only [Bool.and_eq_true, List.all_eq_true, decide_eq_true_eq] at hk
  obtain ⟨hsm, hcp, hpl⟩ := hk
  have hC := copyOK hcp
  have hkc : k_ref1_Check p = true := hsm
  have hkC : k_ref1_CopyProg p = true := hcp
  have hvC : v_ref1_CopyProg p = p := rfl
  have hth := hC.thr
  obtain ⟨R, hR⟩ : ∃ R, laidP points p.2 = R := ⟨_, rfl⟩
  have hRl : R.length = p.2.length := by rw [← hR]; exact laidP_len points p.2
  have hRg : ∀ t (h : t < p.2.length), R[t]'(by omega) = laidT (points.getD t []) 0 p.2[t] := fun t h => by
    have := laidP_get points p.2 t h
    rw [hR, List.getElem?_eq_getElem (by omega)] at this
    exact Option.some.inj this
  have loop : points.length ≤ p.2.length → ∀ t, t ≤ points.length → Goes (T_ref3_Weave p points) (.jmp (.l7 (t : Int) (R.take t ++ p.2.drop t))) (if okAll (points.drop t) (p.2.drop t) then ((p.1, R), true) else (noProg, false)) := by
    intro hpt
    refine down ?_ fun t ht ih => ?_
    · rw [goes_jmp]
      simp only [T_ref3_Weave, goes_br, lt_len_not (Nat.lt_irrefl _), if_false, Bool.false_eq_true, hvC, List.drop_length]
      rw [if_pos (by rfl)]
      have : R.take points.length ++ p.2.drop points.length = R := by
        apply List.ext_getElem
        · rw [mix_len hRl hpt, hRl]
        · intro i h1 h2
          by_cases hi : i < points.length
          · rw [List.getElem_append_left (by rw [List.length_take]; omega), List.getElem_take]
          · rw [List.getElem_append_right (by rw [List.length_take]; omega), List.getElem_drop, hRg i (by omega), List.getD_eq_getElem?_getD, List.getElem?_eq_none (by omega), Option.getD_none, laidT_nil]
            congr 1
            rw [List.length_take]
            omega
      rw [this]
      exact .leaf
    · have htp : t < p.2.length := by omega
      have hL := hpl _ (List.getElem_mem ht)
      obtain ⟨l, hl⟩ : ∃ l, points[t] = l := ⟨_, rfl⟩
      rw [hl] at hL
      have hko : k_ref3_Rising l = true := decide_eq_true (by omega)
      have hvo : v_ref3_Rising l = rising l := rfl
      have hql := mix_len (k := t) hRl (by omega)
      have hqt : t < (R.take t ++ p.2.drop t).length := by omega
      obtain ⟨x, hx⟩ : ∃ x, p.2[t] = x := ⟨_, rfl⟩
      have hxm : x ∈ p.2 := by rw [← hx]; exact List.getElem_mem htp
      have hxl := hC.len x hxm
      have hset := mix_set hRl htp
      rw [hRg t htp, getD_lt ht, hl, hx] at hset
      have hI : ∀ k, k_ref3_In l k = true := fun k => decide_eq_true (by omega)
      have inner : ∀ h, Goes (T_ref3_Weave p points) (.jmp (.l18 x h 0 [] (t : Int) (R.take t ++ p.2.drop t))) (if okAll (points.drop (t + 1)) (p.2.drop (t + 1)) then ((p.1, R), true) else (noProg, false)) := by
        intro h
        have go : ∀ k, k ≤ List.length x → ∀ out : List (El T_api_Ins), out.length ≤ 2 * k → out ++ laidT l k (List.drop k x) = laidT l 0 x →
            Goes (T_ref3_Weave p points) (.jmp (.l18 x h (k : Int) out (t : Int) (R.take t ++ p.2.drop t))) (if okAll (points.drop (t + 1)) (p.2.drop (t + 1)) then ((p.1, R), true) else (noProg, false)) := by
          refine down ?_ fun k hk ihk => ?_
          · intro out ho he
            rw [goes_jmp]
            simp only [T_ref3_Weave, goes_br, lt_len_not (Nat.lt_irrefl _), if_false, Bool.false_eq_true, lt_len hqt, nng, Bool.and_self, if_true, Int.toNat_natCast, wrap_succ (k := t) (by omega)]
            rw [List.drop_length, show laidT l (List.length x) [] = [] from rfl, List.append_nil] at he
            rw [he, hset]
            exact ih
          · intro out ho he
            have b1 : Nat.ble ((out.length + 1) * 128) limit = true := bleN (by unfold limit; omega)
            have b2 : ∀ y : El T_api_Ins, Nat.ble (((out ++ [y]).length + 1) * 128) limit = true := fun y => bleN (by rw [List.length_append, List.length_singleton]; unfold limit; omega)
            have hlab := hC.lab x hxm _ (List.getElem_mem hk)
            have kI : k_ref1_CopyIns x[k] = true := decide_eq_true (by omega)
            have vI : v_ref1_CopyIns x[k] = x[k] := rfl
            have hc : v_ref3_In l (k : Int) = l.contains (k : Int) := rfl
            rw [drop_cons hk] at he
            rw [laidT] at he
            rw [goes_jmp]
            simp only [T_ref3_Weave, goes_br, lt_len hk, lt_len ht, getD_lt ht, hl, nng, Bool.and_self, if_true, Int.toNat_natCast, getD_lt hk, kI, vI, hI, hc, b1, b2, wrap_succ (k := k) (by omega)]
            split
            · rename_i hm
              rw [if_pos hm] at he
              exact ihk _ (by rw [List.length_append, List.length_append, List.length_singleton, List.length_singleton]; omega) (by rw [List.append_assoc, List.append_assoc]; exact he)
            · rename_i hm
              rw [if_neg hm] at he
              exact ihk _ (by rw [List.length_append, List.length_singleton]; omega) (by rw [List.append_assoc]; exact he)
        exact go 0 (Nat.zero_le _) [] (by simp) rfl
      rw [okAll_drop ht htp, hl, hx, goes_jmp]
      by_cases hr : rising l = true
      · by_cases h0 : 0 < List.length l
        · have e0 : decide (Int.ofNat (List.length l) > (0 : Int)) = true := by simp; omega
          have e1 : IntKind.i64.wrap (Int.ofNat (List.length l) - 1) = ((List.length l - 1 : Nat) : Int) := wrap_pred (k := List.length l) (by omega) h0
          have h1 : List.length l - 1 < List.length l := by omega
          have e2 := last_ge hr h0 (List.length x)
          have e2' : decide (l[List.length l - 1] ≥ Int.ofNat (List.length x)) = ! l.all fun y => decide (y < (List.length x : Int)) := e2
          simp only [T_ref3_Weave, goes_br, lt_len ht, nng, Bool.and_self, if_true, Int.toNat_natCast, getD_lt ht, hl, hko, hvo, hr, Bool.not_true, if_false, Bool.false_eq_true, e0, e1, lt_len h1, lt_len htp, getD_lt h1, getD_lt htp, hx, e2', okPts, Bool.true_and]
          cases l.all fun y => decide (y < (List.length x : Int)) with
          | true =>
            simp only [Bool.not_true, if_false, Bool.false_eq_true, Bool.true_and]
            exact inner _
          | false =>
            simp only [Bool.not_false, if_true, if_false, Bool.false_and, Bool.false_eq_true]
            exact .leaf
        · have hnil : l = [] := List.eq_nil_of_length_eq_zero (by omega)
          subst hnil
          have e0 : decide (Int.ofNat (List.length ([] : List Int)) > (0 : Int)) = false := by decide
          simp only [T_ref3_Weave, goes_br, lt_len ht, nng, Bool.and_self, if_true, Int.toNat_natCast, getD_lt ht, hl, hko, hvo, hr, Bool.not_true, if_false, Bool.false_eq_true, e0, lt_len htp, getD_lt htp, hx, okPts, Bool.true_and, List.all_nil]
          exact inner _
      · have hr' : rising l = false := by simpa using hr
        simp only [T_ref3_Weave, goes_br, lt_len ht, lt_len htp, nng, Bool.and_self, if_true, Int.toNat_natCast, getD_lt ht, hl, hko, hvo, hr', Bool.not_false, okPts, Bool.false_and, if_false, Bool.false_eq_true]
        exact .leaf
  unfold T0_ref3_Weave v_ref3_Weave inC
  simp only [goes_br, hkc, if_true, v_ref1_Check]
  by_cases hc : checkC p = 0
  · rw [if_neg (by simp [hc])]
    by_cases hp : p.2.length < points.length
    · rw [if_pos (by simp; omega), if_pos (.inr (.inl hp))]
      exact .leaf
    · rw [if_neg (by simp; omega), if_pos hkC]
      have := loop (by omega) 0 (Nat.zero_le _)
      rw [List.drop_zero, List.drop_zero, List.take_zero, List.nil_append] at this
      cases hok : okAll points p.2 with
      | true =>
        rw [hok, if_pos rfl] at this
        rw [if_neg (by simp [hc]; omega), hR]
        exact this
      | false =>
        rw [hok, if_neg (by decide)] at this
        rw [if_pos (.inr (.inr rfl))]
        exact this
  · rw [if_pos (by simpa using hc), if_pos (.inl hc)]
    exact .leaf
end Go.Ev
end

section
set_option linter.unusedSectionVars false
set_option linter.unusedVariables false
set_option linter.unusedSimpArgs false
set_option maxRecDepth 100000
set_option linter.unusedVariables false
open Go Go.Ev
namespace Go.Ev
noncomputable def e_ref3_Weave : Run := entG sg_ref3_Weave R_ref3_Weave (fun a => k_ref3_Weave a.1 a.2.1) (fun a => v_ref3_Weave a.1 a.2.1)
theorem ok_ref3_Weave : EntOK Go.Proofs.Tryd.prog 15 e_ref3_Weave := entG_ok (tb := tb_ref3_Weave) (c := c_ref3_Weave) tk_ref3_Weave (by kernel_rfl) (by kernel_rfl) (by kernel_rfl) (fun a => by kernel_rfl) fun ⟨p, points, _⟩ hk => evF_goes (c := c_ref3_Weave) (K := fun v => (R_ref3_Weave v, tps (toForms sg_ref3_Weave (p, points, ())))) (S := S_ref3_Weave p points) (by kernel_rfl) (en_ref3_Weave p points) (lp_ref3_Weave p points) (g_ref3_Weave p points hk)
end Go.Ev
end

section
set_option linter.unusedSectionVars false
set_option linter.unusedVariables false
set_option linter.unusedSimpArgs false
/- The book's programs, and fences laid into them. -/
set_option maxRecDepth 100000
set_option linter.unusedVariables false
set_option linter.unusedSimpArgs false
namespace Go.Ev
open Go
theorem few_book (l : List (List (El T_book_Act))) {threads many : Int} (h0 : 0 ≤ threads) (h1 : threads ≤ 64) (m0 : 0 ≤ many) (m1 : many ≤ 90) : Few (v_book_Prog l threads many) 91 := by
  have mem : ∀ t ∈ (v_book_Prog l threads many).2, ∃ a : List (El T_book_Act), t = threadB a (min a.length many.toNat) := fun t hm => by
    obtain ⟨a, _, rfl⟩ := List.mem_map.1 (show t ∈ (l.take threads.toNat).map fun a => threadB a (min a.length many.toNat) from hm)
    exact ⟨a, rfl⟩
  have len : ∀ t ∈ (v_book_Prog l threads many).2, List.length t ≤ 91 := fun t hm => by
    obtain ⟨a, rfl⟩ := mem t hm
    show (threadB a _).length ≤ 91
    unfold threadB
    rw [withL_len, baseT_len a _ (by omega)]
    omega
  refine ⟨show symsB.length ≤ 1000 by decide, show ∀ s ∈ symsB, List.length s.2.2 ≤ 1000 by decide +kernel, ?_, len, fun t hm => ?_⟩
  · show ((l.take threads.toNat).map fun a => threadB a (min a.length many.toNat)).length ≤ 1000
    rw [List.length_map, List.length_take]; omega
  · have hl := len t hm
    obtain ⟨a, rfl⟩ := mem t hm
    have := labels_le (t := threadB a (min a.length many.toNat)) (n := 1) fun i hi => by
      obtain ⟨k, hk, rfl⟩ := List.mem_iff_getElem.1 hi
      have hg := withL_get (s := sAt (baseT a (min a.length many.toNat)) (min a.length many.toNat)) (b := baseT a (min a.length many.toNat)) hk
      have hg' : (threadB a (min a.length many.toNat))[k] = _ := hg
      rw [hg']
      show (if sAt (baseT a (min a.length many.toNat)) (min a.length many.toNat) k then [v_book_label (k : Int)] else []).length ≤ 1
      split <;> simp
    omega
theorem pts_len : ∀ (ls : List (List Int)) (xs : List (List (El T_api_Ins))), (ptsC ls xs).length ≤ xs.length
  | [], _ => Nat.zero_le _
  | _ :: _, [] => Nat.zero_le _
  | l :: ls, x :: xs => by rw [ptsC, List.length_cons, List.length_cons]; have := pts_len ls xs; omega
theorem pts_ok : ∀ (ls : List (List Int)) (xs : List (List (El T_api_Ins))), (∀ x ∈ xs, List.length x ≤ 1000000) → okAll (ptsC ls xs) xs = true ∧ ∀ l ∈ ptsC ls xs, List.length l ≤ 1000000
  | [], _, _ => ⟨rfl, fun l h => by cases h⟩
  | _ :: _, [], _ => ⟨rfl, fun l h => by cases h⟩
  | l :: ls, x :: xs, h => by
    obtain ⟨i1, i2⟩ := pts_ok ls xs fun y hy => h y (by simp [hy])
    have hx := h x (by simp)
    have hm := marksC_len x.length l
    rw [ptsC, okAll, i1, Bool.and_true]
    constructor
    · unfold okPts
      rw [listFrom_isRising (by omega), Bool.true_and, List.all_eq_true]
      intro y hy
      have := listFrom_gt hy
      exact decide_eq_true (by omega)
    · intro y hy
      rcases List.mem_cons.1 hy with rfl | hy
      · have := listFrom_len (marksC x.length l) 0; omega
      · exact i2 y hy
theorem great_lists {l : List (List Int)} (h : v_book_GreatLists l = false) : l.length ≤ 10 ∧ ∀ x ∈ l, List.length x ≤ 30 := by
  unfold v_book_GreatLists at h
  simp only [Bool.or_eq_false_iff, decide_eq_false_iff_not, List.any_eq_false, decide_eq_true_eq] at h
  exact ⟨by omega, fun x hx => by have := h.2 x hx; omega⟩
structure BookLaid (p : El T_api_Prog) : Prop where
  chk : checkC p = 0
  small : smallProg p = true
  few : Few p 91
theorem book_laid (l : List (List (El T_book_Act))) {threads many : Int} (h0 : 0 ≤ threads) (h1 : threads ≤ 64) (m0 : 0 ≤ many) (m1 : many ≤ 90) : BookLaid (v_book_Prog l threads many) ∧ k_book_Prog l threads many = true :=
  ⟨⟨(book_valid l h0 h1 m0 m1).1, (book_valid l h0 h1 m0 m1).2.1, few_book l h0 h1 m0 m1⟩, (book_valid l h0 h1 m0 m1).2.2⟩
theorem k_points {p : El T_api_Prog} (h : BookLaid p) {l : List (List Int)} (hl : v_book_GreatLists l = false) (raw : Bool) : k_book_Points p l raw = true := by
  obtain ⟨h1, h2⟩ := great_lists hl
  unfold k_book_Points
  simp only [Bool.and_eq_true, decide_eq_true_eq, List.all_eq_true]
  exact ⟨few_copy h.few (by omega), by omega, fun x hx => by have := h2 x hx; omega⟩
theorem points_few {p : El T_api_Prog} (h : BookLaid p) {l : List (List Int)} (hl : v_book_GreatLists l = false) (raw : Bool) : ∀ x ∈ v_book_Points p l raw, List.length x ≤ 1000000 := by
  obtain ⟨h1, h2⟩ := great_lists hl
  unfold v_book_Points
  split
  · intro x hx; have := h2 x hx; omega
  · exact (pts_ok l p.2 fun x hx => by have := h.few.len x hx; omega).2
theorem k_lists {l : List (List Int)} (h : ∀ x ∈ l, List.length x ≤ 1000000) : (l.all fun x => decide (List.length x < 1099511627776)) = true := by
  simp only [List.all_eq_true, decide_eq_true_eq]
  intro x hx; have := h x hx; omega
theorem k_in {p : El T_api_Prog} (h : BookLaid p) {l : List (List Int)} (hl : ∀ x ∈ l, List.length x ≤ 1000000) : k_weave_In p l = true ∧ k_ref3_Weave p l = true := by
  unfold k_weave_In k_ref3_Weave
  rw [h.small, few_copy h.few (by omega), k_lists hl]
  exact ⟨rfl, rfl⟩
theorem in_copy {p : El T_api_Prog} (h : BookLaid p) (l : List (List Int)) : copyB (inC p l).1 = true := by
  unfold inC
  split
  · rfl
  · exact few_copy (few_laid h.few l) (by omega)
theorem in_same {p : El T_api_Prog} (h : BookLaid p) (l : List (List Int)) : k_ref1_SameProg (v_weave_In p l).1 (v_ref3_Weave p l).1 = true := by
  unfold k_ref1_SameProg
  rw [Bool.and_eq_true]
  exact ⟨same_iff.2 rfl, in_copy h l⟩
/-- Points that the book makes are laid in. -/
theorem in_ok {p : El T_api_Prog} (h : BookLaid p) (l : List (List Int)) : inC p (ptsC l p.2) = ((p.1, laidP (ptsC l p.2) p.2), true) := by
  have h1 := (pts_ok l p.2 fun x hx => by have := h.few.len x hx; omega).1
  have h2 := pts_len l p.2
  unfold inC
  rw [if_neg (by rw [h.chk, h1]; simp; omega)]
structure Laid2 (q : El T_api_Prog) : Prop where
  chk : checkC q = 0
  small : smallProg q = true
  few : Few q 182
theorem laid2 {p : El T_api_Prog} (h : BookLaid p) (l : List (List Int)) : Laid2 (inC p (ptsC l p.2)).1 := by
  rw [in_ok h]
  exact ⟨by rw [check_laid]; exact h.chk, small_laidP h.small h.few (by omega) _, few_laid h.few _⟩
theorem k_out {q : El T_api_Prog} (h : Laid2 q) {l : List (List Int)} (hl : ∀ x ∈ l, List.length x ≤ 1000000) : k_weave_Out q l = true ∧ k_ref3_Unweave q l = true := by
  unfold k_weave_Out k_ref3_Unweave
  rw [h.small, few_copy h.few (by omega), k_lists hl]
  exact ⟨rfl, rfl⟩
theorem out_same {q : El T_api_Prog} (h : Laid2 q) (l : List (List Int)) : k_ref1_SameProg (v_weave_Out q l).1 (v_ref3_Unweave q l).1 = true := by
  unfold k_ref1_SameProg
  rw [Bool.and_eq_true]
  refine ⟨same_iff.2 rfl, ?_⟩
  show copyB (outC q l).1 = true
  unfold outC
  split
  · rfl
  · exact few_copy (few_out h.few l) (by omega)
/-- There and back. -/
theorem round_trip {p : El T_api_Prog} (h : BookLaid p) (l : List (List Int)) : outC (inC p (ptsC l p.2)).1 ((ptsC l p.2).map fencesC) = (p, true) := by
  have h1 := (pts_ok l p.2 fun x hx => by have := h.few.len x hx; omega).1
  have h2 := pts_len l p.2
  obtain ⟨o1, o2⟩ := outs_laid (ptsC l p.2) p.2 h1 fun x hx => by have := h.few.len x hx; omega
  rw [in_ok h]
  unfold outC
  rw [if_neg, o2]
  rw [check_laid, h.chk, o1, laidP_len, List.length_map]
  simp
  omega
end Go.Ev
end

section
set_option linter.unusedSectionVars false
set_option linter.unusedVariables false
set_option linter.unusedSimpArgs false
/- The first call that chapter 26's laws make. -/
set_option maxRecDepth 100000
namespace Go.Ev
theorem alive26 : k_law26_alive = true ∧ v_law26_alive = true := by decide +kernel
end Go.Ev
end

section
set_option linter.unusedSectionVars false
set_option linter.unusedVariables false
set_option linter.unusedSimpArgs false
set_option linter.unusedVariables false
set_option linter.unusedSimpArgs false
open Go
namespace Go.Ev
def v_law26_WeaveRound (l : List (List (El T_book_Act))) (points : List (List Int)) : Bool := true
def k_law26_WeaveRound (l : List (List (El T_book_Act))) (points : List (List Int)) : Bool := true
theorem g_law26_WeaveRound (l : List (List (El T_book_Act))) (points : List (List Int)) (hk : k_law26_WeaveRound l points = true) : Goes (T_law26_WeaveRound l points) (T0_law26_WeaveRound l points) (v_law26_WeaveRound l points) := by
  obtain ⟨hb, hkp⟩ := book_laid l (threads := 3) (many := 6) (by omega) (by omega) (by omega) (by omega)
  obtain ⟨p, hp⟩ : ∃ p, v_book_Prog l 3 6 = p := ⟨_, rfl⟩
  rw [hp] at hb
  unfold T0_law26_WeaveRound v_law26_WeaveRound
  rw [goes_br, if_pos hkp, goes_br, if_pos (show k_book_GreatLists points = true from rfl), goes_br]
  by_cases hg : v_book_GreatLists points = true
  · rw [if_pos hg]
    rw [goes_br, if_pos alive26.1, alive26.2]
    exact .leaf
  · have hg' : v_book_GreatLists points = false := by simpa using hg
    rw [if_neg hg]
    have h1 := k_points hb hg' false
    have hpts : v_book_Points p points false = ptsC points p.2 := rfl
    have h2 := points_few hb hg' false
    rw [hpts] at h2
    have h3 := (k_in hb h2).1
    have h4 := laid2 hb points
    have hin : v_weave_In p (ptsC points p.2) = ((inC p (ptsC points p.2)).1, true) := by
      show inC p (ptsC points p.2) = _
      rw [in_ok hb]
    obtain ⟨q, hq⟩ : ∃ q, (inC p (ptsC points p.2)).1 = q := ⟨_, rfl⟩
    have hrt := round_trip hb points
    have hplen := pts_len points p.2
    have hthr := hb.few.thr
    rw [hq] at hin h4 hrt
    obtain ⟨pts, hpe⟩ : ∃ pts, ptsC points p.2 = pts := ⟨_, rfl⟩
    rw [hpe] at hpts h2 h3 hin hrt hplen
    have hkc : k_ref1_Check q = true := h4.small
    have hvc : v_ref1_Check q = 0 := h4.chk
    have hfe : ∀ x ∈ pts.map fencesC, List.length x ≤ 1000000 := fun x hx => by
      obtain ⟨y, hy, rfl⟩ := List.mem_map.1 hx
      exact Nat.le_trans (fencesC_len y) (h2 y hy)
    have loop : ∀ t, t ≤ pts.length → Goes (T_law26_WeaveRound l points) (.jmp (.l13 (t : Int) ((pts.take t).map fencesC))) true := by
      refine down ?_ fun t ht ih => ?_
      · have k1 := (k_out h4 hfe).1
        have v1 : v_weave_Out q (pts.map fencesC) = (p, true) := hrt
        have k2 : k_ref1_SameProg p p = true := by
          unfold k_ref1_SameProg
          rw [Bool.and_eq_true]
          exact ⟨same_iff.2 rfl, few_copy hb.few (by omega)⟩
        have v2 : v_ref1_SameProg p p = true := rfl
        rw [goes_jmp]
        simp only [T_law26_WeaveRound, goes_br, hp, hpts, hin, lt_len_not (Nat.lt_irrefl _), if_false, Bool.false_eq_true, List.take_length, k1, v1, k2, v2, alive26.1, alive26.2, if_true]
        exact .leaf
      · have hx := h2 _ (List.getElem_mem ht)
        have kF : k_weave_Fences pts[t] = true := decide_eq_true (by omega)
        have vF : v_weave_Fences pts[t] = fencesC pts[t] := rfl
        have b : Nat.ble ((((pts.take t).map fencesC).length + 1) * 24) limit = true := bleN (by rw [List.length_map, List.length_take]; unfold limit; omega)
        rw [goes_jmp]
        simp only [T_law26_WeaveRound, goes_br, hp, hpts, lt_len ht, nng, Bool.and_self, if_true, Int.toNat_natCast, getD_lt ht, kF, vF, b, wrap_succ (k := t) (by omega)]
        rw [List.take_succ_eq_append_getElem ht, List.map_append] at ih
        exact ih
    simp only [goes_br, hp, h1, hpts, h3, hin, hkc, hvc, if_true, Bool.not_true, bne_self_eq_false, if_false, Bool.false_eq_true]
    exact loop 0 (Nat.zero_le _)
end Go.Ev
end

section
set_option linter.unusedSectionVars false
set_option linter.unusedVariables false
set_option linter.unusedSimpArgs false
set_option maxRecDepth 100000
set_option linter.unusedVariables false
open Go Go.Ev
namespace Go.Ev
noncomputable def e_law26_WeaveRound : Run := entG sg_law26_WeaveRound R_law26_WeaveRound (fun a => k_law26_WeaveRound a.1 a.2.1) (fun a => v_law26_WeaveRound a.1 a.2.1)
theorem ok_law26_WeaveRound : EntOK Go.Proofs.Tryd.prog 8 e_law26_WeaveRound := entG_ok (tb := tb_law26_WeaveRound) (c := c_law26_WeaveRound) tk_law26_WeaveRound (by kernel_rfl) (by kernel_rfl) (by kernel_rfl) (fun a => by kernel_rfl) fun ⟨l, points, _⟩ hk => evF_goes (c := c_law26_WeaveRound) (K := fun v => (R_law26_WeaveRound v, tps (toForms sg_law26_WeaveRound (l, points, ())))) (S := S_law26_WeaveRound l points) (by kernel_rfl) (en_law26_WeaveRound l points) (lp_law26_WeaveRound l points) (g_law26_WeaveRound l points hk)
theorem co_law26_WeaveRound (l : List (List (El T_book_Act))) (points : List (List Int)) (hk : k_law26_WeaveRound l points = true) : CallOK Go.Proofs.Tryd.prog 8 (toForms sg_law26_WeaveRound (l, points, ())) (R_law26_WeaveRound (v_law26_WeaveRound l points), tps (toForms sg_law26_WeaveRound (l, points, ()))) := by
  obtain ⟨h1, h2⟩ := clOf_ok tk_law26_WeaveRound
  obtain ⟨n, hn⟩ := evF_goes (c := c_law26_WeaveRound) (K := fun v => (R_law26_WeaveRound v, tps (toForms sg_law26_WeaveRound (l, points, ())))) (S := S_law26_WeaveRound l points) (by kernel_rfl) (en_law26_WeaveRound l points) (lp_law26_WeaveRound l points) (g_law26_WeaveRound l points hk)
  exact evF_sound (f := 8) (c := c_law26_WeaveRound) h1 h2 (by kernel_rfl) (by kernel_rfl) (by kernel_rfl) hn
end Go.Ev
end

section
set_option linter.unusedSectionVars false
set_option linter.unusedVariables false
set_option linter.unusedSimpArgs false
set_option maxRecDepth 100000
set_option linter.unusedVariables false
namespace Go.Ev
open Go
theorem call_law26_WeaveRound (a : Args sg_law26_WeaveRound) (ha : smallArgs sg_law26_WeaveRound a) : CallOK Go.Proofs.Tryd.prog fid_law26_WeaveRound (toForms sg_law26_WeaveRound a) (.d .bool true, tps (toForms sg_law26_WeaveRound a)) := by
  obtain ⟨l, points, _⟩ := a
  exact co_law26_WeaveRound l points rfl
end Go.Ev
end

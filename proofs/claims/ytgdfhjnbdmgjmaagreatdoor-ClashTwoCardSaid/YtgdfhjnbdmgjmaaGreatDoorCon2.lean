/- Part of the proof of: With two threads a chain leads back just where two accesses of the other one, the second of which follows the first one or is it, clash with the two: for every input the law answers true. -/
import Derived.Shelf.Slices.In.SortNone
import Derived.Shelf.Sort.Plain
import Derived.Test.YtgdfhjnbdmgjmaaGreatDoorCon1
section
set_option linter.unusedSectionVars false
set_option linter.unusedVariables false
set_option linter.unusedSimpArgs false
set_option maxRecDepth 100000
set_option linter.unusedVariables false
open Go Go.Ev
namespace Go.Ev
noncomputable section
/-! ### (*paling/bits.Set).List -/
def sg_bits_Set_List_t : PSig := [.obj 102 [(.d (.int .i64)), (.m (.int .i64) (.int .u64))]]
noncomputable def t_bits_Set_List_t : Tbl := []
noncomputable def c_bits_Set_List_t : Code := match Go.Proofs.Tryz.f46.body with
  | some (.seq _ (.seq _ (.seq _ (.seq _ (.seq _ d))))) => d
  | _ => .skip
def tb_bits_Set_List_t : Tb := [(2, ⟨[0, 4, 26, 27, 28], [(5, 74)]⟩), (8, ⟨[0, 4, 7, 8, 26, 27, 28], [(5, 74)]⟩)]
inductive J_bits_Set_List_t where
  | l2 (h : Int) (h1 : List Int) (h2 : Int) (out : List Int)
  | l8 (k : Int) (h : Int) (h1 : List Int) (i : Int) (out : List Int) (h2 : Int)
def T_bits_Set_List_t (s : Int × List (Int × Int)) (places : List Int) : J_bits_Set_List_t → JT J_bits_Set_List_t ((List Int) × Int × List (Int × Int))
  | .l2 h h1 h2 out =>
    .br (decide (h2 < h))
      (.br ((decide ((0 : Int) ≤ h2)) && (decide (h2 < (Int.ofNat (List.length h1)))))
        (.jmp (.l8 (List.getD h1 (Int.toNat h2) (dflt (.int .i64))) h h1 (0 : Int) out h2))
      (.no))
    (.leaf (out, s))
  | .l8 k h h1 i out h2 =>
    .br (decide (i < (64 : Int)))
      (.br (decide ((IntKind.u64.wrap i) < (0 : Int)))
        (.no)
      (.br ((bitAnd IntKind.u64 (Int.fdiv (Option.getD (mget (kt := (.int .i64)) k s.2) (0 : Int)) (2 ^ (min (Int.toNat (IntKind.u64.wrap i)) (IntKind.u64).bits))) (1 : Int)) == (1 : Int))
        (.br (Nat.ble (((List.length out) + 1) * 8) limit)
          (.jmp (.l8 k h h1 (IntKind.i64.wrap (i + (1 : Int))) (out ++ [(IntKind.i64.wrap ((IntKind.i64.wrap (k * (64 : Int))) + i))]) h2))
        (.no))
      (.jmp (.l8 k h h1 (IntKind.i64.wrap (i + (1 : Int))) out h2))))
    (.jmp (.l2 h h1 (IntKind.i64.wrap (h2 + (1 : Int))) out))
def T0_bits_Set_List_t (s : Int × List (Int × Int)) (places : List Int) : JT J_bits_Set_List_t ((List Int) × Int × List (Int × Int)) :=
  .jmp (.l2 (Int.ofNat (List.length places)) places (0 : Int) [])
def K_bits_Set_List_t : (List Int) × Int × List (Int × Int) → Ans := fun (r : (List Int) × Int × List (Int × Int)) => (.rw 3 (.int .i64) r.1, [.bx 102 [.d (.int .i64) r.2.1, .mv (.int .i64) (.int .u64) r.2.2]])
def S_bits_Set_List_t (s : Int × List (Int × Int)) (places : List Int) : J_bits_Set_List_t → Nat × St
  | .l2 h h1 h2 out => (2, ⟨mkTm 56 [(0, .pt 1 0 0), (4, .own 5 0 none), (26, .own 27 0 none), (27, .d (.int .i64) h), (28, .d (.int .i64) h2)], [(1, 0, .box 102 [.d (.int .i64) s.1, .mp 1026 0] (some 0)), (5, 0, .row 3 (.int .i64) out false), (27, 0, .row 3 (.int .i64) h1 false), (1026, 0, .map (.int .i64) (.int .u64) s.2)]⟩)
  | .l8 k h h1 i out h2 => (8, ⟨mkTm 56 [(0, .pt 1 0 0), (4, .own 5 0 none), (7, .d (.int .i64) k), (8, .d (.int .i64) i), (26, .own 27 0 none), (27, .d (.int .i64) h), (28, .d (.int .i64) h2)], [(1, 0, .box 102 [.d (.int .i64) s.1, .mp 1026 0] (some 0)), (5, 0, .row 3 (.int .i64) out false), (27, 0, .row 3 (.int .i64) h1 false), (1026, 0, .map (.int .i64) (.int .u64) s.2)]⟩)
def S0_bits_Set_List_t (s : Int × List (Int × Int)) (places : List Int) : St := ⟨mkTm 56 [(0, .pt 1 0 0), (3, .own 4 0 none), (4, .nil)], [(1, 0, .box 102 [.d (.int .i64) s.1, .mp 1026 0] (some 0)), (4, 0, .row 3 (.int .i64) places false), (1026, 0, .map (.int .i64) (.int .u64) s.2)]⟩
theorem en_bits_Set_List_t (s : Int × List (Int × Int)) (places : List Int) (L : Lt) : evC Go.Proofs.Tryz.prog (clOf t_bits_Set_List_t) tb_bits_Set_List_t L c_bits_Set_List_t 0 (finA Go.Proofs.Tryz.prog tb_bits_Set_List_t Go.Proofs.Tryz.f46 (toPs sg_bits_Set_List_t (s, ()))) (fun _ _ => none) (finA Go.Proofs.Tryz.prog tb_bits_Set_List_t Go.Proofs.Tryz.f46 (toPs sg_bits_Set_List_t (s, ()))) (S0_bits_Set_List_t s places) = (T0_bits_Set_List_t s places).run (fun v => some (K_bits_Set_List_t v)) fun j => L (S_bits_Set_List_t s places j).1 (S_bits_Set_List_t s places j).2 := by kernel_rfl
noncomputable def ps_bits_Set_List_t (s : Int × List (Int × Int)) (places : List Int) : List (Nat × (Lt → Kt)) := procs Go.Proofs.Tryz.prog (clOf t_bits_Set_List_t) tb_bits_Set_List_t c_bits_Set_List_t 0 (fun _ => (finA Go.Proofs.Tryz.prog tb_bits_Set_List_t Go.Proofs.Tryz.f46 (toPs sg_bits_Set_List_t (s, ())))) (fun _ _ _ => none) (fun _ => (finA Go.Proofs.Tryz.prog tb_bits_Set_List_t Go.Proofs.Tryz.f46 (toPs sg_bits_Set_List_t (s, ()))))
theorem lp_bits_Set_List_t (s : Int × List (Int × Int)) (places : List Int) : ∀ (L : Lt) (j : J_bits_Set_List_t), procOf (ps_bits_Set_List_t s places) (S_bits_Set_List_t s places j).1 L (S_bits_Set_List_t s places j).2 = (T_bits_Set_List_t s places j).run (fun v => some (K_bits_Set_List_t v)) fun j => L (S_bits_Set_List_t s places j).1 (S_bits_Set_List_t s places j).2
  | L, .l2 h h1 h2 out => by kernel_rfl
  | L, .l8 k h h1 i out h2 => by kernel_rfl
end
end Go.Ev
end

section
set_option linter.unusedSectionVars false
set_option linter.unusedVariables false
set_option linter.unusedSimpArgs false
set_option linter.unusedVariables false
set_option linter.unusedSimpArgs false
open Go
namespace Go.Ev
theorem g_bits_Set_List_t (s : Int × List (Int × Int)) (places : List Int) (hk : Nat.ble (places.length * 512) limit = true) : Goes (T_bits_Set_List_t s places) (T0_bits_Set_List_t s places) (listAt s.2 places, s) := by
  have hlim : places.length * 512 ≤ limit := Nat.le_of_ble_eq_true hk
  have hn : places.length < 4611686018427387904 := by unfold limit at hlim; omega
  -- within a word
  have inner : ∀ (k : Int) (j : Nat), j < places.length → ∀ (i : Nat), i ≤ 64 → ∀ (out : List Int) r, (out.length + (64 - i)) * 8 ≤ limit →
      Goes (T_bits_Set_List_t s places) (.jmp (.l2 (Int.ofNat (List.length places)) places ((j + 1 : Nat) : Int) (out ++ wordList s.2 k i (64 - i)))) r →
      Goes (T_bits_Set_List_t s places) (.jmp (.l8 k (Int.ofNat (List.length places)) places (i : Int) out (j : Int))) r := by
    intro k j hj
    refine down ?_ fun i hi ih => ?_
    · intro out r _ h
      rw [goes_jmp]
      have e : decide (((64 : Nat) : Int) < (64 : Int)) = false := by decide
      simp only [T_bits_Set_List_t, goes_br, e, Bool.false_eq_true, if_false, wrap_succ (k := j) (by omega)]
      simpa [wordList] using h
    · intro out r hl h
      rw [goes_jmp]
      have e : decide ((i : Int) < (64 : Int)) = true := decide_eq_true (by omega)
      have hw := wrapU_small hi
      have e2 : decide ((i : Int) < (0 : Int)) = false := decide_eq_false (by omega)
      have hcons : wordList s.2 k i (64 - i) = (if bitE (wordAt s.2 k) (i : Nat) then [numE k (i : Nat)] else []) ++ wordList s.2 k (i + 1) (64 - (i + 1)) := by
        unfold wordList
        rw [show 64 - i = (64 - (i + 1)) + 1 by omega, List.range'_succ, List.filter_cons]
        split <;> simp
      rw [hcons] at h
      have hb : ((bitAnd IntKind.u64 (Int.fdiv (Option.getD (mget (kt := (.int .i64)) k s.2) (0 : Int)) (2 ^ (min (Int.toNat (IntKind.u64.wrap (i : Int))) (IntKind.u64).bits))) (1 : Int)) == (1 : Int)) = bitE (wordAt s.2 k) (i : Nat) := rfl
      unfold T_bits_Set_List_t
      rw [goes_br, if_pos e, goes_br, if_neg (by rw [hw, e2]; decide), goes_br, hb, wrap_succ (k := i) (by omega)]
      by_cases hbit : bitE (wordAt s.2 k) (i : Nat) = true
      · rw [if_pos hbit]
        rw [if_pos hbit] at h
        rw [goes_br, if_pos (Nat.ble_eq_true_of_le (by omega))]
        refine ih (out ++ [numE k (i : Nat)]) r (by simp; omega) ?_
        simpa using h
      · rw [if_neg hbit]
        rw [if_neg hbit, List.nil_append] at h
        exact ih out r (by omega) h
  have outer : ∀ j, j ≤ places.length → ∀ out : List Int, (out.length + (places.length - j) * 64) * 8 ≤ limit →
      Goes (T_bits_Set_List_t s places) (.jmp (.l2 (Int.ofNat (List.length places)) places (j : Int) out)) (out ++ listAt s.2 (places.drop j), s) := by
    refine down ?_ fun j hj ih => ?_
    · intro out _
      rw [goes_jmp]
      simp only [T_bits_Set_List_t, goes_br, lt_len_not (Nat.lt_irrefl _), List.drop_length, Bool.false_eq_true, if_false]
      rw [show out ++ listAt s.2 [] = out by simp [listAt]]
      exact .leaf
    · intro out hl
      rw [goes_jmp, drop_cons hj]
      simp only [T_bits_Set_List_t, goes_br, lt_len hj, nng, Bool.and_self, if_true, Int.toNat_natCast, getD_lt hj]
      have hwl := wordList_length s.2 places[j] 0 64
      refine inner places[j] j hj 0 (by omega) out _ (by omega) ?_
      have := ih (out ++ wordList s.2 places[j] 0 64) (by rw [List.length_append]; omega)
      rw [show out ++ listAt s.2 (places[j] :: places.drop (j + 1)) = (out ++ wordList s.2 places[j] 0 64) ++ listAt s.2 (places.drop (j + 1)) by simp only [listAt, List.flatMap_cons, List.append_assoc]]
      exact this
  have := outer 0 (Nat.zero_le _) [] (by simp; omega)
  simpa [T0_bits_Set_List_t] using this
end Go.Ev
end

section
set_option linter.unusedSectionVars false
set_option linter.unusedVariables false
set_option linter.unusedSimpArgs false
set_option maxRecDepth 100000
set_option linter.unusedVariables false
open Go Go.Ev
namespace Go.Ev
/-! ### slices.Sort of numbers: by the library's contract -/
def renSort : Go.Shelf.Ren := ⟨fun n => if n = 189 then 71 else if n = 125 then 93 else if n = 257 then 92 else if n = 128 then 124 else if n = 129 then 125 else if n = 294 then 115 else if n = 295 then 116 else if n = 296 then 117 else if n = 297 then 118 else if n = 298 then 119 else if n = 299 then 120 else if n = 216 then 121 else if n = 300 then 122 else if n = 301 then 123 else if n = 328 then 135 else if n = 329 then 136 else if n = 330 then 137 else if n = 331 then 138 else if n = 332 then 139 else if n = 215 then 140 else if n = 343 then 146 else n,
  fun n => if n = 28 then 37 else if n = 46 then 105 else if n = 51 then 144 else if n = 53 then 104 else if n = 183 then 137 else if n = 182 then 136 else if n = 131 then 132 else if n = 218 then 164 else if n = 222 then 168 else if n = 228 then 171 else if n = 229 then 149 else n,
  fun n => n⟩
theorem renSort_lays : Go.Proofs.Lays.n189 Go.Proofs.Tryz.prog renSort where
  mixed := by kernel_rfl
  f125 := by kernel_rfl
  f128 := by kernel_rfl
  f129 := by kernel_rfl
  f189 := by kernel_rfl
  f215 := by kernel_rfl
  f216 := by kernel_rfl
  f257 := by kernel_rfl
  f294 := by kernel_rfl
  f295 := by kernel_rfl
  f296 := by kernel_rfl
  f297 := by kernel_rfl
  f298 := by kernel_rfl
  f299 := by kernel_rfl
  f300 := by kernel_rfl
  f301 := by kernel_rfl
  f328 := by kernel_rfl
  f329 := by kernel_rfl
  f330 := by kernel_rfl
  f331 := by kernel_rfl
  f332 := by kernel_rfl
  f343 := by kernel_rfl
  t0 := by kernel_rfl
  a0 := fun w => by kernel_rfl
  z0 := fun w => by kernel_rfl
  v0 := fun w => by kernel_rfl
  t3 := by kernel_rfl
  a3 := fun w => by kernel_rfl
  z3 := fun w => by kernel_rfl
  v3 := fun w => by kernel_rfl
  t4 := by kernel_rfl
  a4 := fun w => by kernel_rfl
  z4 := fun w => by kernel_rfl
  v4 := fun w => by kernel_rfl
  t5 := by kernel_rfl
  a5 := fun w => by kernel_rfl
  z5 := fun w => by kernel_rfl
  v5 := fun w => by kernel_rfl
  t9 := by kernel_rfl
  a9 := fun w => by kernel_rfl
  z9 := fun w => by kernel_rfl
  v9 := fun w => by kernel_rfl
  t28 := by kernel_rfl
  a28 := fun w => by kernel_rfl
  z28 := fun w => by kernel_rfl
  v28 := fun w => by kernel_rfl
  t46 := by kernel_rfl
  a46 := fun w => by kernel_rfl
  z46 := fun w => by kernel_rfl
  v46 := fun w => by kernel_rfl
  t51 := by kernel_rfl
  a51 := fun w => by kernel_rfl
  z51 := fun w => by kernel_rfl
  v51 := fun w => by kernel_rfl
  t53 := by kernel_rfl
  a53 := fun w => by kernel_rfl
  z53 := fun w => by kernel_rfl
  v53 := fun w => by kernel_rfl
  t131 := by kernel_rfl
  a131 := fun w => by kernel_rfl
  z131 := fun w => by kernel_rfl
  v131 := fun w => by kernel_rfl
  t182 := by kernel_rfl
  a182 := fun w => by kernel_rfl
  z182 := fun w => by kernel_rfl
  v182 := fun w => by kernel_rfl
  t183 := by kernel_rfl
  a183 := fun w => by kernel_rfl
  z183 := fun w => by kernel_rfl
  v183 := fun w => by kernel_rfl
  t218 := by kernel_rfl
  a218 := fun w => by kernel_rfl
  z218 := fun w => by kernel_rfl
  v218 := fun w => by kernel_rfl
  t222 := by kernel_rfl
  a222 := fun w => by kernel_rfl
  z222 := fun w => by kernel_rfl
  v222 := fun w => by kernel_rfl
  t228 := by kernel_rfl
  a228 := fun w => by kernel_rfl
  z228 := fun w => by kernel_rfl
  v228 := fun w => by kernel_rfl
  t229 := by kernel_rfl
  a229 := fun w => by kernel_rfl
  z229 := fun w => by kernel_rfl
  v229 := fun w => by kernel_rfl

theorem sortOK : SortOK Go.Proofs.Tryz.prog 71 := ⟨fun blk off cap zs w h1 h2 h3 => Go.Proofs.Any.slices_Sort_int renSort_lays blk off cap zs w h1 h2 h3, fun p cap w => Go.Proofs.Any.slices_Sort_int_none renSort_lays p cap w⟩
end Go.Ev
end

section
set_option linter.unusedSectionVars false
set_option linter.unusedVariables false
set_option linter.unusedSimpArgs false
set_option maxRecDepth 100000
set_option linter.unusedVariables false
open Go Go.Ev
namespace Go.Ev
/-! ### (*bits.Set).List: by hand: the keys in whatever order, sorted -/
def sg_bits_Set_List : PSig := [.obj 102 [(.d (.int .i64)), (.m (.int .i64) (.int .u64))]]
def v_bits_Set_List (s : Int × List (Int × Int)) : (List Int) × Int × List (Int × Int) := (listS s, s)
def k_bits_Set_List (s : Int × List (Int × Int)) : Bool := Nat.ble (s.2.length * 512) limit
def K_bits_Set_List : (List Int) × Int × List (Int × Int) → Ans := K_bits_Set_List_t

section
abbrev SetL := List (El (.int .i64) × El (.int .u64))
noncomputable def setListBody : Code := Go.Proofs.Tryz.f46.body.getD .skip
noncomputable def setListR : Code := fstC (sndC (sndC (sndC setListBody)))
noncomputable def setListX : RangeText := rangeText (sndC setListR)
noncomputable def setListSort : Code := fstC (sndC (sndC (sndC (sndC setListBody))))
def setLab1 : Lab := ⟨[0, 3, 4], []⟩
def setLab2 : Lab := ⟨[0, 3, 4, 15], [(4, 74)]⟩
def setObs (s : Int × SetL) (ps : List (El (.int .i64))) : List (Id × Nat × Obj) := [(1, 0, .box 102 [.d (.int .i64) s.1, .mp 1026 0] (some 0)), (4, 0, .row 3 (.int .i64) ps false), (1026, 0, .gone (some 1000))]
def setK (s : Int × SetL) (v : Value) (ps : List (El (.int .i64))) : St := ⟨mkTm 56 [(0, .pt 1 0 0), (3, .own 4 0 none), (4, .nil), (15, .cst v)], setObs s ps⟩
def setI (s : Int × SetL) (v : Value) (done : SetL) : St := setK s v (done.map Prod.fst)
def setT (s : Int × SetL) (v : Value) (done : SetL) (e : El (.int .i64) × El (.int .u64)) : St := ((setI s v done).put (some 16) (.tu [mkB true, .d (.int .i64) e.1, .d (.int .u64) e.2])).put (some 17) (mkB true)
def setU (s : Int × SetL) (v : Value) (done : SetL) (e : El (.int .i64) × El (.int .u64)) : St := (((setT s v done e).put (some 18) (.tu [.d (.int .i64) e.1, .d (.int .u64) e.2])).put (some 19) (.d (.int .i64) e.1)).put (some 5) (.d (.int .i64) e.1)
def setE (s : Int × SetL) (v : Value) (done : SetL) : St := ((setI s v done).put (some 16) (.tu [mkB false])).put (some 17) (mkB false)
/-- ahead of the range: after the first parts; with the map at hand -/
def setA (s : Int × SetL) : St := ⟨mkTm 56 [(0, .pt 1 0 0)], [(1, 0, .box 102 [.d (.int .i64) s.1, .mp 1026 0] (some 0)), (1026, 0, .map (.int .i64) (.int .u64) s.2)]⟩
def setC (s : Int × SetL) : St := ⟨mkTm 56 [(0, .pt 1 0 0), (3, .nil), (4, .nil)], [(1, 0, .box 102 [.d (.int .i64) s.1, .mp 1026 0] (some 0)), (1026, 0, .map (.int .i64) (.int .u64) s.2)]⟩
def setM (s : Int × SetL) : St := ((((setC s).put (some 11) (.pt 1 0 0)).put (some 12) (.pt 1 0 0)).put (some 13) (.pt 1 0 1)).put (some 14) (.mp 1026 0)

theorem setListX_ok : setListX.OK := ⟨by kernel_rfl, by kernel_rfl, by kernel_rfl, by kernel_rfl, by kernel_rfl, by kernel_rfl, by kernel_rfl, by kernel_rfl, by kernel_rfl⟩
theorem setList_round (s : Int × SetL) (v : Value) (done : SetL) (e : El (.int .i64) × El (.int .u64)) (L : Lt) (k : Kt) (x : Nat → Kt) (r : Kt) :
    evC Go.Proofs.Tryz.prog (clOf []) [] L setListX.cr 0 (fun t => k (norm Go.Proofs.Tryz.prog setLab2 t)) x r (setU s v done e) = bif Nat.ble (((done.map Prod.fst).length + 1) * 8) limit then k (setK s v (done.map Prod.fst ++ [e.1])) else none := by kernel_rfl
theorem setList_ev (s : Int × SetL) (hk : k_bits_Set_List s = true) : RangeEv Go.Proofs.Tryz.prog (clOf []) setListX s.2 setLab2 1026 1000 (setI s) (setE s) (setT s) (setU s) where
  it := fun v done => by kernel_rfl
  r1 := fun v done e k => by kernel_rfl
  rt := fun v done e => by kernel_rfl
  re := fun v done e => by kernel_rfl
  r2 := fun v done e k => by kernel_rfl
  r3 := fun v done e rest hp L k x r => by
    have hl := hp.length_eq
    simp only [List.length_append, List.length_cons] at hl
    have hlim : s.2.length * 512 ≤ limit := Nat.le_of_ble_eq_true hk
    rw [setList_round, List.length_map, Nat.ble_eq_true_of_le (by omega), cond_true]
    unfold setI
    rw [List.map_append]
    rfl
  f1 := fun v done k => by kernel_rfl
  ft := fun v done => by kernel_rfl
theorem setList_body : setListBody = .seq (fstC setListBody) (.seq (fstC (sndC setListBody)) (.seq (fstC (sndC (sndC setListBody))) (.seq (.seq (.region (ridC (fstC setListR)) (ropsC (fstC setListR)) false) setListX.code) (.seq (.region (ridC setListSort) (ropsC setListSort) false) c_bits_Set_List_t)))) := by kernel_rfl
theorem setList_a (s : Int × SetL) (L : Lt) (k : Kt) (x : Nat → Kt) (r : Kt) : evC Go.Proofs.Tryz.prog (clOf []) [] L (fstC setListBody) 0 (fun t => k (norm Go.Proofs.Tryz.prog setLab1 t)) x r (setA s) = k (setA s) := by kernel_rfl
theorem setList_b (s : Int × SetL) (L : Lt) (k : Kt) (x : Nat → Kt) (r : Kt) : evC Go.Proofs.Tryz.prog (clOf []) [] L (fstC (sndC setListBody)) 0 (fun t => k (norm Go.Proofs.Tryz.prog setLab1 t)) x r (setA s) = k (setA s) := by kernel_rfl
theorem setList_c (s : Int × SetL) (L : Lt) (k : Kt) (x : Nat → Kt) (r : Kt) : evC Go.Proofs.Tryz.prog (clOf []) [] L (fstC (sndC (sndC setListBody))) 0 (fun t => k (norm Go.Proofs.Tryz.prog setLab1 t)) x r (setA s) = k (setC s) := by kernel_rfl
def mapKV (P : Program) (T : TypeId) : TypeId × TypeId := match P.underlying T with | some (.map K V) => (K, V) | _ => (0, 0)

theorem callOK_bits_Set_List (s : Int × SetL) (hk : k_bits_Set_List s = true) : CallOK Go.Proofs.Tryz.prog 46 (toPs sg_bits_Set_List (s, ())) (K_bits_Set_List (v_bits_Set_List s)) := by
  obtain ⟨hcl, hdet⟩ := clOf_ok (P := Go.Proofs.Tryz.prog) tbl_nil
  have hlim : s.2.length * 512 ≤ limit := Nat.le_of_ble_eq_true hk
  refine callOK_of_wp (tb := tb_bits_Set_List_t) (fn := Go.Proofs.Tryz.f46) (c := setListBody) (vs := [.pt 1 0 0]) (st := ⟨[], [(1, 0, .box 102 [.d (.int .i64) s.1, .mp 1026 0] (some 0)), (1026, 0, .map (.int .i64) (.int .u64) s.2)]⟩) (by kernel_rfl) (by kernel_rfl) (by kernel_rfl) ?_
  intro _ Mod F0 w0 a w hr
  have hr : Rel Mod F0 w0 (setA s) a w := hr
  rw [setList_body]
  refine wp_seq (piece hcl hdet (norm Go.Proofs.Tryz.prog setLab1) (fun h => norm_rel h) (setList_a s) hr fun a w hr => ?_)
  refine wp_seq (piece hcl hdet (norm Go.Proofs.Tryz.prog setLab1) (fun h => norm_rel h) (setList_b s) hr fun a w hr => ?_)
  refine wp_seq (piece hcl hdet (norm Go.Proofs.Tryz.prog setLab1) (fun h => norm_rel h) (setList_c s) hr fun a w hr => ?_)
  -- the range
  refine wp_seq (wp_seq (wp_region ?_))
  rw [show List.range (ropsC (fstC setListR)).size = [0, 1, 2, 3, 4] from by kernel_rfl]
  refine evOp hcl (o := opC (fstC setListR) 0) (st1 := (setC s).put (some 11) (.pt 1 0 0)) (by kernel_rfl) (by kernel_rfl) (fun k => by kernel_rfl) hr fun a w hr => ?_
  refine evOp hcl (o := opC (fstC setListR) 1) (st1 := ((setC s).put (some 11) (.pt 1 0 0)).put (some 12) (.pt 1 0 0)) (by kernel_rfl) (by kernel_rfl) (fun k => by kernel_rfl) hr fun a w hr => ?_
  refine evOp hcl (o := opC (fstC setListR) 2) (st1 := (((setC s).put (some 11) (.pt 1 0 0)).put (some 12) (.pt 1 0 0)).put (some 13) (.pt 1 0 1)) (by kernel_rfl) (by kernel_rfl) (fun k => by kernel_rfl) hr fun a w hr => ?_
  refine evOp hcl (o := opC (fstC setListR) 3) (st1 := setM s) (by kernel_rfl) (by kernel_rfl) (fun k => by kernel_rfl) hr fun a w hr => ?_
  refine handOp (o := opC (fstC setListR) 4) (by kernel_rfl) (by kernel_rfl) ?_
  refine rangeLoop (tm := 14) (idm0 := 1026) (ver0 := 0) (T := (match (opC (fstC setListR) 4).op with | .range T _ => T | _ => 0)) (K := (mapKV Go.Proofs.Tryz.prog (match (opC (fstC setListR) 4).op with | .range T _ => T | _ => 0)).1) (V := (mapKV Go.Proofs.Tryz.prog (match (opC (fstC setListR) 4).op with | .range T _ => T | _ => 0)).2)
    hcl hdet setListX_ok rfl rfl (setList_ev s hk) (by kernel_rfl) (by kernel_rfl) (by kernel_rfl) (by kernel_rfl) (by kernel_rfl) (by kernel_rfl) (fun v => by kernel_rfl) (fun v done => by kernel_rfl) (fun v done => by kernel_rfl) hr ?_
  intro v done a w hperm hr
  -- the sort
  have hr : Rel Mod F0 w0 (S0_bits_Set_List_t s (done.map Prod.fst)) a w := norm_rel (P := Go.Proofs.Tryz.prog) (lab := setLab1) hr
  refine wp_seq (wp_region ?_)
  rw [show List.range (ropsC setListSort).size = [0, 1] from by kernel_rfl]
  refine evOp hcl (o := opC setListSort 0) (st1 := (S0_bits_Set_List_t s (done.map Prod.fst)).put (some 24) (.own 4 0 none)) (by kernel_rfl) (by kernel_rfl) (fun k => by kernel_rfl) hr fun a w hr => ?_
  refine handOp (o := opC setListSort 1) (by kernel_rfl) (by kernel_rfl) ?_
  refine sortStep (ts := 24) (id := 4) (ver := 0) (E := 3) (l := done.map Prod.fst) (c := (match (opC setListSort 1).op with | .call c => c | _ => default)) (fn := Go.Proofs.Tryz.f71) (body := Go.Proofs.Tryz.f71.body.getD .skip) (by kernel_rfl) (by kernel_rfl) (by kernel_rfl) (by kernel_rfl) (by kernel_rfl) (by kernel_rfl) (by kernel_rfl) (by kernel_rfl) sortOK (by
    rw [List.length_map, hperm.length_eq]
    unfold limit at hlim
    omega) hr fun a w hr => ?_
  have hr : Rel Mod F0 w0 (S0_bits_Set_List_t s (sorted (done.map Prod.fst))) a w := norm_rel (P := Go.Proofs.Tryz.prog) (lab := setLab1) hr
  rw [sorted_perm (hperm.map Prod.fst)] at hr
  have hg := g_bits_Set_List_t s (sorted (s.2.map Prod.fst)) (by rw [List.length_mergeSort, List.length_map]; exact hk)
  exact tailStep hcl hdet (ps := ps_bits_Set_List_t s (sorted (s.2.map Prod.fst))) rfl (by kernel_rfl) (en_bits_Set_List_t s _) (lp_bits_Set_List_t s _) hg hr
end
noncomputable def e_bits_Set_List : Run := entO sg_bits_Set_List K_bits_Set_List (fun a => k_bits_Set_List a.1) (fun a => v_bits_Set_List a.1)
theorem ok_bits_Set_List : EntOK Go.Proofs.Tryz.prog 46 e_bits_Set_List := entO_hand (noRun_ok (known_of (fn := Go.Proofs.Tryz.f46) (c := setListBody) (by kernel_rfl) (by kernel_rfl) (by kernel_rfl))) fun a h => callOK_bits_Set_List a.1 h
end Go.Ev
end

section
set_option linter.unusedSectionVars false
set_option linter.unusedVariables false
set_option linter.unusedSimpArgs false
set_option maxRecDepth 100000
set_option linter.unusedVariables false
open Go Go.Ev
namespace Go.Ev
noncomputable section
/-! ### paling/flow.From -/
def sg_flow_From : Sig := [(true, (.sl T_api_Ins)), (false, (.int .i64))]
noncomputable def t_flow_From : Tbl := [(42, e_bits_New), (74, e_flow_Next), (44, e_bits_Set_Put), (46, e_bits_Set_List)]
theorem tk_flow_From : ∀ p ∈ t_flow_From, EntOK Go.Proofs.Tryz.prog p.1 p.2 := tbl_cons ok_bits_New (tbl_cons ok_flow_Next (tbl_cons ok_bits_Set_Put (tbl_cons ok_bits_Set_List (tbl_nil))))
noncomputable def c_flow_From : Code := Go.Proofs.Tryz.f51.body.getD .skip
def tb_flow_From : Tb := [(4, ⟨[2, 5, 6], [(1000000000000000000000000000000000000000000000000000000000007, 1)]⟩)]
inductive J_flow_From where
  | l4 (len : Nat) (seen : Int) (open_ : List Int) (seen1 : List (Int × Int))
def T_flow_From (t : List (El T_api_Ins)) (i : Int) : J_flow_From → JT J_flow_From (List Int)
  | .l4 len seen open_ seen1 =>
    .br (decide ((Int.ofNat len) > (0 : Int)))
      (.br ((decide ((0 : Int) ≤ (IntKind.i64.wrap ((Int.ofNat len) - (1 : Int))))) && (decide ((IntKind.i64.wrap ((Int.ofNat len) - (1 : Int))) < (Int.ofNat len))))
        (.br ((decide ((0 : Int) ≤ (IntKind.i64.wrap ((Int.ofNat len) - (1 : Int))))) && (decide ((IntKind.i64.wrap ((Int.ofNat len) - (1 : Int))) ≤ (Int.ofNat len))))
          (.br (v_bits_Set_Put (seen, seen1) (List.getD open_ (Int.toNat (IntKind.i64.wrap ((Int.ofNat len) - (1 : Int)))) (dflt (.int .i64)))).1
            (.br (k_flow_Next t (List.getD open_ (Int.toNat (IntKind.i64.wrap ((Int.ofNat len) - (1 : Int)))) (dflt (.int .i64))))
              (.br (Nat.ble (((List.length (List.take (Int.toNat (IntKind.i64.wrap ((Int.ofNat len) - (1 : Int)))) open_)) + (List.length (v_flow_Next t (List.getD open_ (Int.toNat (IntKind.i64.wrap ((Int.ofNat len) - (1 : Int)))) (dflt (.int .i64)))))) * 8) limit)
                (.jmp (.l4 (List.length ((List.take (Int.toNat (IntKind.i64.wrap ((Int.ofNat len) - (1 : Int)))) open_) ++ (v_flow_Next t (List.getD open_ (Int.toNat (IntKind.i64.wrap ((Int.ofNat len) - (1 : Int)))) (dflt (.int .i64)))))) (v_bits_Set_Put (seen, seen1) (List.getD open_ (Int.toNat (IntKind.i64.wrap ((Int.ofNat len) - (1 : Int)))) (dflt (.int .i64)))).2.1 ((List.take (Int.toNat (IntKind.i64.wrap ((Int.ofNat len) - (1 : Int)))) open_) ++ (v_flow_Next t (List.getD open_ (Int.toNat (IntKind.i64.wrap ((Int.ofNat len) - (1 : Int)))) (dflt (.int .i64))))) (v_bits_Set_Put (seen, seen1) (List.getD open_ (Int.toNat (IntKind.i64.wrap ((Int.ofNat len) - (1 : Int)))) (dflt (.int .i64)))).2.2))
              (.no))
            (.no))
          (.jmp (.l4 (Int.toNat (IntKind.i64.wrap ((Int.ofNat len) - (1 : Int)))) (v_bits_Set_Put (seen, seen1) (List.getD open_ (Int.toNat (IntKind.i64.wrap ((Int.ofNat len) - (1 : Int)))) (dflt (.int .i64)))).2.1 open_ (v_bits_Set_Put (seen, seen1) (List.getD open_ (Int.toNat (IntKind.i64.wrap ((Int.ofNat len) - (1 : Int)))) (dflt (.int .i64)))).2.2)))
        (.no))
      (.no))
    (.br (k_bits_Set_List (seen, seen1))
      (.leaf (v_bits_Set_List (seen, seen1)).1)
    (.no))
def T0_flow_From (t : List (El T_api_Ins)) (i : Int) : JT J_flow_From (List Int) :=
  .br (k_flow_Next t i)
    (.jmp (.l4 (List.length (v_flow_Next t i)) (v_bits_New (Int.ofNat (List.length t))).1 (v_flow_Next t i) (v_bits_New (Int.ofNat (List.length t))).2))
  (.no)
def R_flow_From : List Int → AV := fun (r : List Int) => .rw 3 (.int .i64) r
def S_flow_From (t : List (El T_api_Ins)) (i : Int) : J_flow_From → Nat × St
  | .l4 len seen open_ seen1 => (4, ⟨mkTm 39 [(2, .pt 3 0 0), (5, .pt 6 0 0), (6, .own 7 0 (some len))], [(3, 0, .box 48 [.d (.sl T_api_Ins) t] none), (6, 0, .box 102 [.d (.int .i64) seen, .mp 6146 0] none), (7, 0, .row 3 (.int .i64) open_ false), (6146, 0, .map (.int .i64) (.int .u64) seen1)]⟩)
theorem en_flow_From (t : List (El T_api_Ins)) (i : Int) (L : Lt) : entryA Go.Proofs.Tryz.prog (clOf t_flow_From) tb_flow_From Go.Proofs.Tryz.f51 c_flow_From L (toForms sg_flow_From (t, i, ())) = (T0_flow_From t i).run (fun v => some (R_flow_From v, tps (toForms sg_flow_From (t, i, ())))) fun j => L (S_flow_From t i j).1 (S_flow_From t i j).2 := by kernel_rfl
theorem lp_flow_From (t : List (El T_api_Ins)) (i : Int) : ∀ (L : Lt) (j : J_flow_From), procOf (procsF Go.Proofs.Tryz.prog (clOf t_flow_From) tb_flow_From Go.Proofs.Tryz.f51 c_flow_From (toForms sg_flow_From (t, i, ()))) (S_flow_From t i j).1 L (S_flow_From t i j).2 = (T_flow_From t i j).run (fun v => some (R_flow_From v, tps (toForms sg_flow_From (t, i, ())))) fun j => L (S_flow_From t i j).1 (S_flow_From t i j).2
  | L, .l4 len seen open_ seen1 => by kernel_rfl
end
end Go.Ev
end

section
set_option linter.unusedSectionVars false
set_option linter.unusedVariables false
set_option linter.unusedSimpArgs false
set_option maxRecDepth 100000
set_option linter.unusedVariables false
set_option linter.unusedSimpArgs false
open Go
namespace Go.Ev
noncomputable def v_flow_From (t : List (El T_api_Ins)) (i : Int) : List Int := listOf t.length (fromB t i)
def k_flow_From (t : List (El T_api_Ins)) (i : Int) : Bool := flowOK t
theorem next_short (t : List (El T_api_Ins)) (i : Int) : (v_flow_Next t i).length ≤ 3 := by
  unfold v_flow_Next
  by_cases h : 0 ≤ i ∧ i < (t.length : Int)
  · obtain ⟨j, rfl⟩ := Int.eq_ofNat_of_zero_le h.1
    rw [← nextL_eq (by omega)]
    unfold nextL
    simp only [List.length_append]
    split <;> split <;> split <;> simp
  · rw [nextB_out h]; simp
theorem take_pred {l : List Int} {n : Nat} (h : n + 1 ≤ l.length) : l.take (n + 1) = l.take n ++ [l.getD n 0] := by
  have hn : n < l.length := by omega
  rw [List.take_succ_eq_append_getElem hn, getD_lt hn]
theorem g_flow_From (t : List (El T_api_Ins)) (i : Int) (hk : k_flow_From t i = true) : Goes (T_flow_From t i) (T0_flow_From t i) (v_flow_From t i) := by
  have hlen := flowOK_len hk
  generalize hn : t.length = n at hlen
  have loop : ∀ m, ∀ (M : Nat → Bool) (s : Int × List (Int × Int)) (open_ : List Int) (len : Nat), len ≤ open_.length → 4 * (n - card n M) + len = m → SetOK s n M → (∀ j, M j = true → Come (fun k j => nextB t (k : Int) j) (nextB t i) j) →
      (∀ x ∈ open_.take len, ∃ j : Nat, x = (j : Int) ∧ Come (fun k j => nextB t (k : Int) j) (nextB t i) j) → (∀ j, nextB t i j = true → M j = true ∨ (j : Int) ∈ open_.take len) → (∀ k j, M k = true → nextB t (k : Int) j = true → M j = true ∨ (j : Int) ∈ open_.take len) →
      len ≤ 3 * (card n M + 1) → Goes (T_flow_From t i) (.jmp (.l4 len s.1 open_ s.2)) (v_flow_From t i) := by
    intro m
    induction m using Nat.strongRecOn with
    | _ m ih =>
    intro M s open_ len hl hm hs h1 h2 h3 h4 h5
    cases len with
    | zero =>
      rw [goes_jmp, T_flow_From, goes_br, if_neg (by decide)]
      have hkl : k_bits_Set_List (s.1, s.2) = true := Nat.ble_eq_true_of_le (by have := hs.few; unfold limit; show s.2.length * 512 ≤ _; omega)
      rw [goes_br, if_pos hkl]
      have hv : (v_bits_Set_List (s.1, s.2)).1 = v_flow_From t i := by
        show listS s = _
        rw [hs.list (by omega)]
        unfold v_flow_From fromB
        rw [hn]
        refine listOf_congr fun j _ => comeB_eq (fun j hj => ?_) (fun k j hk hj => ?_) h1 j
        · simpa using h3 j hj
        · simpa using h4 k j hk hj
      rw [hv]; exact .leaf
    | succ len =>
      have hc := @card_le n M
      have e : IntKind.i64.wrap (Int.ofNat (len + 1) - 1) = (len : Int) := by
        rw [wrap_i64 (by simp <;> omega) (by simp <;> omega)]; simp
      have g1 : decide (Int.ofNat (len + 1) > (0 : Int)) = true := decide_eq_true (by simp <;> omega)
      have g2 : (decide ((0 : Int) ≤ (len : Int)) && decide ((len : Int) < Int.ofNat (len + 1))) = true := bound_len (by omega)
      have g3 : (decide ((0 : Int) ≤ (len : Int)) && decide ((len : Int) ≤ Int.ofNat (len + 1))) = true := by simp; omega
      rw [goes_jmp, T_flow_From, e, goes_br, if_pos g1, goes_br, if_pos g2, goes_br, if_pos g3, goes_br, Int.toNat_natCast]
      have htk := take_pred hl
      obtain ⟨j, hj, hcj⟩ := h2 (open_.getD len 0) (by rw [htk]; simp)
      have hjn : j < n := by
        have := come_lt (n := t.length) (fun j => nextB_lt) (fun k j => nextB_lt) hcj
        omega
      have hd : open_.getD len (dflt (.int .i64)) = (j : Int) := hj
      rw [hd]
      have hput : v_bits_Set_Put (s.1, s.2) (j : Int) = putS s (j : Int) := rfl
      rw [hput]
      have sub : ∀ x, x ∈ open_.take len → x ∈ open_.take (len + 1) := fun x hx => by rw [htk]; simp [hx]
      cases hMj : M j with
      | true =>
        have hno := hs.put_no (by omega) (i := (j : Int)) (fun h => by rw [Int.toNat_natCast, hMj] at h; cases h.2.2)
        rw [hno, if_neg (by simp)]
        have lose : ∀ k : Nat, (M k = true ∨ (k : Int) ∈ open_.take (len + 1)) → (M k = true ∨ (k : Int) ∈ open_.take len) := fun k h => by
          rcases h with h | h
          · exact .inl h
          · rw [htk, List.mem_append] at h
            rcases h with h | h
            · exact .inr h
            · simp only [List.mem_singleton] at h
              rw [hj] at h
              have : k = j := by omega
              subst this
              exact .inl hMj
        exact ih (m - 1) (by omega) M s open_ len (by omega) (by omega) hs h1 (fun x hx => h2 x (sub x hx)) (fun k hk => lose k (h3 k hk)) (fun k k' hk hk' => lose k' (h4 k k' hk hk')) (by omega)
      | false =>
        obtain ⟨p1, p2⟩ := hs.put (by omega) hjn hMj
        have hsh := next_short t (j : Int)
        have hkn : k_flow_Next t (j : Int) = true := hk
        rw [p1, if_pos rfl, goes_br, if_pos hkn, goes_br, if_pos (Nat.ble_eq_true_of_le (by
          rw [List.length_take]; unfold limit; omega))]
        have hcard := card_add hMj hjn
        have hcl2 := @card_le n (fun k => M k || (k == j))
        have hnl : ∀ k : Nat, nextB t (j : Int) k = true → (k : Int) ∈ v_flow_Next t (j : Int) := fun k hk => listOf_mem.2 ⟨k, nextB_lt hk, hk, rfl⟩
        have htake : (open_.take len ++ v_flow_Next t (j : Int)).take (open_.take len ++ v_flow_Next t (j : Int)).length = open_.take len ++ v_flow_Next t (j : Int) := List.take_length
        have hlen2 : (open_.take len ++ v_flow_Next t (j : Int)).length ≤ len + 3 := by rw [List.length_append, List.length_take]; omega
        have keep : ∀ k : Nat, (M k = true ∨ (k : Int) ∈ open_.take (len + 1)) → ((M k || (k == j)) = true ∨ (k : Int) ∈ open_.take len ++ v_flow_Next t (j : Int)) := fun k h => by
          rcases h with h | h
          · exact .inl (by rw [h]; rfl)
          · rw [htk, List.mem_append] at h
            rcases h with h | h
            · exact .inr (List.mem_append_left _ h)
            · simp only [List.mem_singleton] at h
              rw [hj] at h
              have : k = j := by omega
              subst this
              exact .inl (by simp)
        refine ih _ (by omega) (fun k => M k || (k == j)) (putS s (j : Int)).2 (open_.take len ++ v_flow_Next t (j : Int)) (open_.take len ++ v_flow_Next t (j : Int)).length (Nat.le_refl _) rfl p2 (fun k hk => ?_) (fun x hx => ?_) (fun k hk => ?_) (fun k k' hk hk' => ?_) (by omega)
        · simp only [Bool.or_eq_true, beq_iff_eq] at hk
          rcases hk with hk | hk
          · exact h1 k hk
          · subst hk; exact hcj
        · rw [htake, List.mem_append] at hx
          rcases hx with hx | hx
          · exact h2 x (sub x hx)
          · obtain ⟨k, _, hk, rfl⟩ := listOf_mem.1 hx
            exact ⟨k, rfl, .step hcj hk⟩
        · rw [htake]; exact keep k (h3 k hk)
        · rw [htake]
          simp only [Bool.or_eq_true, beq_iff_eq] at hk
          rcases hk with hk | hk
          · exact keep k' (h4 k k' hk hk')
          · subst hk
            exact .inr (List.mem_append_right _ (hnl k' hk'))
  have hkn : k_flow_Next t i = true := hk
  unfold T0_flow_From
  rw [goes_br, if_pos hkn]
  have hnew : v_bits_New (Int.ofNat (List.length t)) = ((n : Int), []) := by
    rw [hn]
    unfold v_bits_New
    simp
    omega
  rw [hnew]
  refine loop _ (fun _ => false) ((n : Int), []) (v_flow_Next t i) _ (Nat.le_refl _) rfl (SetOK.new n) (fun j h => by cases h) (fun x hx => ?_) (fun j hj => .inr ?_) (fun k j h => by cases h) (by have := next_short t i; omega)
  · rw [List.take_length] at hx
    obtain ⟨k, _, hk, rfl⟩ := listOf_mem.1 hx
    exact ⟨k, rfl, .start hk⟩
  · rw [List.take_length]; exact listOf_mem.2 ⟨j, nextB_lt hj, hj, rfl⟩
end Go.Ev
end

section
set_option linter.unusedSectionVars false
set_option linter.unusedVariables false
set_option linter.unusedSimpArgs false
set_option maxRecDepth 100000
set_option linter.unusedVariables false
open Go Go.Ev
namespace Go.Ev
noncomputable section
noncomputable def e_flow_From : Run := entG sg_flow_From R_flow_From (fun a => k_flow_From a.1 a.2.1) (fun a => v_flow_From a.1 a.2.1)
theorem ok_flow_From : EntOK Go.Proofs.Tryz.prog 51 e_flow_From := entG_ok (tb := tb_flow_From) (c := c_flow_From) tk_flow_From (by kernel_rfl) (by kernel_rfl) (by kernel_rfl) (fun a => by kernel_rfl) fun ⟨t, i, _⟩ hk => evF_goes (c := c_flow_From) (K := fun v => (R_flow_From v, tps (toForms sg_flow_From (t, i, ())))) (S := S_flow_From t i) (by kernel_rfl) (en_flow_From t i) (lp_flow_From t i) (g_flow_From t i hk)
end
end Go.Ev
end

section
set_option linter.unusedSectionVars false
set_option linter.unusedVariables false
set_option linter.unusedSimpArgs false
set_option maxRecDepth 100000
set_option linter.unusedVariables false
open Go Go.Ev
namespace Go.Ev
noncomputable section
/-! ### paling/clash.behind -/
def sg_clash_behind : Sig := [(true, T_api_Prog), (false, (.sl T_api_Access)), (false, (.int .i64))]
noncomputable def t_clash_behind : Tbl := [(42, e_bits_New), (51, e_flow_From), (44, e_bits_Set_Put), (52, e_bits_Set_Has)]
theorem tk_clash_behind : ∀ p ∈ t_clash_behind, EntOK Go.Proofs.Tryz.prog p.1 p.2 := tbl_cons ok_bits_New (tbl_cons ok_flow_From (tbl_cons ok_bits_Set_Put (tbl_cons ok_bits_Set_Has (tbl_nil))))
noncomputable def c_clash_behind : Code := Go.Proofs.Tryz.f45.body.getD .skip
def tb_clash_behind : Tb := [(6, ⟨[1, 2, 7, 9, 32, 33, 34, 58, 64, 69, 70, 72, 76], []⟩), (14, ⟨[2, 7, 9, 12, 42, 43, 44], [(13, 74)]⟩)]
inductive J_clash_behind where
  | l6 (h : Int) (x : Int) (x1 : Int) (x2 : Int) (x3 : Int) (x4 : Bool) (x5 : Bool) (from_ : Int) (h1 : List Int) (from_1 : List (Int × Int)) (h2 : Int)
  | l14 (x : Int) (x1 : Int) (x2 : Int) (x3 : Int) (x4 : Bool) (x5 : Bool) (from_ : Int) (from_1 : List (Int × Int)) (h : Int) (out : List Int)
def T_clash_behind (p : El T_api_Prog) (l : List (El T_api_Access)) (c : Int) : J_clash_behind → JT J_clash_behind (List Int)
  | .l6 h x x1 x2 x3 x4 x5 from_ h1 from_1 h2 =>
    .br (decide (h2 < h))
      (.br ((decide ((0 : Int) ≤ h2)) && (decide (h2 < (Int.ofNat (List.length h1)))))
        (.jmp (.l6 h x x1 x2 x3 x4 x5 (v_bits_Set_Put (from_, from_1) (List.getD h1 (Int.toNat h2) (dflt (.int .i64)))).2.1 h1 (v_bits_Set_Put (from_, from_1) (List.getD h1 (Int.toNat h2) (dflt (.int .i64)))).2.2 (IntKind.i64.wrap (h2 + (1 : Int)))))
      (.no))
    (.jmp (.l14 x x1 x2 x3 x4 x5 from_ from_1 (0 : Int) []))
  | .l14 x x1 x2 x3 x4 x5 from_ from_1 h out =>
    .br (decide (h < (Int.ofNat (List.length l))))
      (.br ((decide ((0 : Int) ≤ h)) && (decide (h < (Int.ofNat (List.length l)))))
        (.br ((List.getD l (Int.toNat h) (dflt T_api_Access)).1 == x)
          (.br (h == c)
            (.br (Nat.ble (((List.length out) + 1) * 8) limit)
              (.jmp (.l14 x x1 x2 x3 x4 x5 from_ from_1 (IntKind.i64.wrap (h + (1 : Int))) (out ++ [h])))
            (.no))
          (.br ((List.getD l (Int.toNat h) (dflt T_api_Access)).2.1 == x1)
            (.br (decide ((List.getD l (Int.toNat h) (dflt T_api_Access)).2.2.1 > x2))
              (.br (Nat.ble (((List.length out) + 1) * 8) limit)
                (.jmp (.l14 x x1 x2 x3 x4 x5 from_ from_1 (IntKind.i64.wrap (h + (1 : Int))) (out ++ [h])))
              (.no))
            (.br (v_bits_Set_Has (from_, from_1) (List.getD l (Int.toNat h) (dflt T_api_Access)).2.1).1
              (.br (Nat.ble (((List.length out) + 1) * 8) limit)
                (.jmp (.l14 x x1 x2 x3 x4 x5 (v_bits_Set_Has (from_, from_1) (List.getD l (Int.toNat h) (dflt T_api_Access)).2.1).2.1 (v_bits_Set_Has (from_, from_1) (List.getD l (Int.toNat h) (dflt T_api_Access)).2.1).2.2 (IntKind.i64.wrap (h + (1 : Int))) (out ++ [h])))
              (.no))
            (.jmp (.l14 x x1 x2 x3 x4 x5 (v_bits_Set_Has (from_, from_1) (List.getD l (Int.toNat h) (dflt T_api_Access)).2.1).2.1 (v_bits_Set_Has (from_, from_1) (List.getD l (Int.toNat h) (dflt T_api_Access)).2.1).2.2 (IntKind.i64.wrap (h + (1 : Int))) out))))
          (.br (v_bits_Set_Has (from_, from_1) (List.getD l (Int.toNat h) (dflt T_api_Access)).2.1).1
            (.br (Nat.ble (((List.length out) + 1) * 8) limit)
              (.jmp (.l14 x x1 x2 x3 x4 x5 (v_bits_Set_Has (from_, from_1) (List.getD l (Int.toNat h) (dflt T_api_Access)).2.1).2.1 (v_bits_Set_Has (from_, from_1) (List.getD l (Int.toNat h) (dflt T_api_Access)).2.1).2.2 (IntKind.i64.wrap (h + (1 : Int))) (out ++ [h])))
            (.no))
          (.jmp (.l14 x x1 x2 x3 x4 x5 (v_bits_Set_Has (from_, from_1) (List.getD l (Int.toNat h) (dflt T_api_Access)).2.1).2.1 (v_bits_Set_Has (from_, from_1) (List.getD l (Int.toNat h) (dflt T_api_Access)).2.1).2.2 (IntKind.i64.wrap (h + (1 : Int))) out)))))
        (.jmp (.l14 x x1 x2 x3 x4 x5 from_ from_1 (IntKind.i64.wrap (h + (1 : Int))) out)))
      (.no))
    (.leaf out)
def T0_clash_behind (p : El T_api_Prog) (l : List (El T_api_Access)) (c : Int) : JT J_clash_behind (List Int) :=
  .br ((decide ((0 : Int) ≤ c)) && (decide (c < (Int.ofNat (List.length l)))))
    (.br ((decide ((0 : Int) ≤ (List.getD l (Int.toNat c) (dflt T_api_Access)).1)) && (decide ((List.getD l (Int.toNat c) (dflt T_api_Access)).1 < (Int.ofNat (List.length p.2)))))
      (.br (k_flow_From (List.getD p.2 (Int.toNat (List.getD l (Int.toNat c) (dflt T_api_Access)).1) (dflt (.sl T_api_Ins))) (List.getD l (Int.toNat c) (dflt T_api_Access)).2.1)
        (.jmp (.l6 (Int.ofNat (List.length (v_flow_From (List.getD p.2 (Int.toNat (List.getD l (Int.toNat c) (dflt T_api_Access)).1) (dflt (.sl T_api_Ins))) (List.getD l (Int.toNat c) (dflt T_api_Access)).2.1))) (List.getD l (Int.toNat c) (dflt T_api_Access)).1 (List.getD l (Int.toNat c) (dflt T_api_Access)).2.1 (List.getD l (Int.toNat c) (dflt T_api_Access)).2.2.1 (List.getD l (Int.toNat c) (dflt T_api_Access)).2.2.2.1 (List.getD l (Int.toNat c) (dflt T_api_Access)).2.2.2.2.1 (List.getD l (Int.toNat c) (dflt T_api_Access)).2.2.2.2.2 (v_bits_New (Int.ofNat (List.length (List.getD p.2 (Int.toNat (List.getD l (Int.toNat c) (dflt T_api_Access)).1) (dflt (.sl T_api_Ins)))))).1 (v_flow_From (List.getD p.2 (Int.toNat (List.getD l (Int.toNat c) (dflt T_api_Access)).1) (dflt (.sl T_api_Ins))) (List.getD l (Int.toNat c) (dflt T_api_Access)).2.1) (v_bits_New (Int.ofNat (List.length (List.getD p.2 (Int.toNat (List.getD l (Int.toNat c) (dflt T_api_Access)).1) (dflt (.sl T_api_Ins)))))).2 (0 : Int)))
      (.no))
    (.no))
  (.no)
def R_clash_behind : List Int → AV := fun (r : List Int) => .rw 3 (.int .i64) r
def S_clash_behind (p : El T_api_Prog) (l : List (El T_api_Access)) (c : Int) : J_clash_behind → Nat × St
  | .l6 h x x1 x2 x3 x4 x5 from_ h1 from_1 h2 => (6, ⟨mkTm 85 [(1, .d (.sl T_api_Access) l), (2, .d (.int .i64) c), (7, .pt 8 0 0), (9, .pt 10 0 0), (32, .own 33 0 none), (33, .d (.int .i64) h), (34, .d (.int .i64) h2)], [(8, 0, .box 43 [.d (.int .i64) x, .d (.int .i64) x1, .d (.int .i64) x2, .d (.int .i64) x3, .d .bool x4, .d .bool x5] none), (10, 0, .box 102 [.d (.int .i64) from_, .mp 10242 0] none), (33, 0, .row 3 (.int .i64) h1 false), (10242, 0, .map (.int .i64) (.int .u64) from_1)]⟩)
  | .l14 x x1 x2 x3 x4 x5 from_ from_1 h out => (14, ⟨mkTm 85 [(2, .d (.int .i64) c), (7, .pt 8 0 0), (9, .pt 10 0 0), (12, .own 13 0 none), (42, .d (.sl T_api_Access) l), (43, .d (.int .i64) (Int.ofNat (List.length l))), (44, .d (.int .i64) h)], [(8, 0, .box 43 [.d (.int .i64) x, .d (.int .i64) x1, .d (.int .i64) x2, .d (.int .i64) x3, .d .bool x4, .d .bool x5] none), (10, 0, .box 102 [.d (.int .i64) from_, .mp 10242 0] none), (13, 0, .row 3 (.int .i64) out false), (10242, 0, .map (.int .i64) (.int .u64) from_1)]⟩)
theorem en_clash_behind (p : El T_api_Prog) (l : List (El T_api_Access)) (c : Int) (L : Lt) : entryA Go.Proofs.Tryz.prog (clOf t_clash_behind) tb_clash_behind Go.Proofs.Tryz.f45 c_clash_behind L (toForms sg_clash_behind (p, l, c, ())) = (T0_clash_behind p l c).run (fun v => some (R_clash_behind v, tps (toForms sg_clash_behind (p, l, c, ())))) fun j => L (S_clash_behind p l c j).1 (S_clash_behind p l c j).2 := by kernel_rfl
theorem lp_clash_behind (p : El T_api_Prog) (l : List (El T_api_Access)) (c : Int) : ∀ (L : Lt) (j : J_clash_behind), procOf (procsF Go.Proofs.Tryz.prog (clOf t_clash_behind) tb_clash_behind Go.Proofs.Tryz.f45 c_clash_behind (toForms sg_clash_behind (p, l, c, ()))) (S_clash_behind p l c j).1 L (S_clash_behind p l c j).2 = (T_clash_behind p l c j).run (fun v => some (R_clash_behind v, tps (toForms sg_clash_behind (p, l, c, ())))) fun j => L (S_clash_behind p l c j).1 (S_clash_behind p l c j).2
  | L, .l6 h x x1 x2 x3 x4 x5 from_ h1 from_1 h2 => by kernel_rfl
  | L, .l14 x x1 x2 x3 x4 x5 from_ from_1 h out => by kernel_rfl
end
end Go.Ev
end

section
set_option linter.unusedSectionVars false
set_option linter.unusedVariables false
set_option linter.unusedSimpArgs false
set_option maxRecDepth 100000
set_option linter.unusedVariables false
set_option linter.unusedSimpArgs false
open Go
namespace Go.Ev
noncomputable def v_clash_behind (p : El T_api_Prog) (l : List (El T_api_Access)) (c : Int) : List Int := listOf l.length (behB p l c.toNat)
def k_clash_behind (p : El T_api_Prog) (l : List (El T_api_Access)) (c : Int) : Bool := decide (0 ≤ c ∧ c < (l.length : Int) ∧ l.length < 1099511627776) && (decide (0 ≤ thA l c.toNat ∧ thA l c.toNat < (p.2.length : Int)) && flowOK (thrOf p l c.toNat))
theorem g_clash_behind (p : El T_api_Prog) (l : List (El T_api_Access)) (c : Int) (hk : k_clash_behind p l c = true) : Goes (T_clash_behind p l c) (T0_clash_behind p l c) (v_clash_behind p l c) := by
  unfold k_clash_behind at hk
  simp only [Bool.and_eq_true, decide_eq_true_eq] at hk
  obtain ⟨⟨c0, c1, hN⟩, ⟨t0, t1⟩, hf⟩ := hk
  obtain ⟨c, rfl⟩ := Int.eq_ofNat_of_zero_le c0
  rw [Int.toNat_natCast] at t0 t1 hf
  have hc : c < l.length := by omega
  have htl := flowOK_len hf
  obtain ⟨t, ht⟩ : ∃ t, thrOf p l c = t := ⟨_, rfl⟩
  have hg : List.getD p.2 (Int.toNat (List.getD l c (dflt T_api_Access)).1) (dflt (.sl T_api_Ins)) = t := ht
  rw [ht] at hf htl
  have kf : k_flow_From t (List.getD l c (dflt T_api_Access)).2.1 = true := hf
  obtain ⟨L, hL⟩ : ∃ L, v_flow_From t (List.getD l c (dflt T_api_Access)).2.1 = L := ⟨_, rfl⟩
  have hLl : L.length ≤ t.length := by rw [← hL]; unfold v_flow_From; rw [listOf_length]; exact card_le
  have hmem : ∀ x, x ∈ L ↔ ∃ i : Nat, i < t.length ∧ fromB t (inA l c) i = true ∧ x = (i : Int) := fun x => by rw [← hL]; exact listOf_mem
  unfold T0_clash_behind v_clash_behind
  rw [goes_br, if_pos (bound_len hc), goes_br, Int.toNat_natCast]
  have hth : (decide ((0 : Int) ≤ (List.getD l c (dflt T_api_Access)).1) && decide ((List.getD l c (dflt T_api_Access)).1 < Int.ofNat p.2.length)) = true := by
    rw [Bool.and_eq_true, decide_eq_true_eq, decide_eq_true_eq]; exact ⟨t0, t1⟩
  rw [if_pos hth, goes_br, hg, if_pos kf, hL]
  have hnew : v_bits_New (Int.ofNat (List.length t)) = (((t.length : Nat) : Int), []) := by
    unfold v_bits_New
    simp
    omega
  rw [hnew]
  -- the second loop
  have second : ∀ (s : Int × List (Int × Int)), SetOK s t.length (fromB t (inA l c)) → ∀ h, h ≤ l.length → ∀ out : List Int, out.length ≤ h →
      Goes (T_clash_behind p l (c : Int)) (.jmp (.l14 (List.getD l c (dflt T_api_Access)).1 (List.getD l c (dflt T_api_Access)).2.1 (List.getD l c (dflt T_api_Access)).2.2.1 (List.getD l c (dflt T_api_Access)).2.2.2.1 (List.getD l c (dflt T_api_Access)).2.2.2.2.1 (List.getD l c (dflt T_api_Access)).2.2.2.2.2 s.1 s.2 (h : Int) out)) (out ++ listR l.length (behB p l c) h) := by
    intro s hs
    refine down ?_ fun h hh ih => ?_
    · intro out ho
      rw [goes_jmp, T_clash_behind, goes_br, if_neg (by rw [lt_len_not (Nat.lt_irrefl _)]; decide), listR_end, List.append_nil]
      exact .leaf
    · intro out ho
      have b1 : Nat.ble ((out.length + 1) * 8) limit = true := Nat.ble_eq_true_of_le (by unfold limit; omega)
      have hhas : v_bits_Set_Has (s.1, s.2) (inA l h) = (decide (0 ≤ inA l h) && fromB t (inA l c) (inA l h).toNat, s) := by
        show (hasS s (inA l h), s) = _
        rw [hs.has (by omega)]
      have add : behB p l c h = true → Goes (T_clash_behind p l (c : Int)) (.jmp (.l14 (List.getD l c (dflt T_api_Access)).1 (List.getD l c (dflt T_api_Access)).2.1 (List.getD l c (dflt T_api_Access)).2.2.1 (List.getD l c (dflt T_api_Access)).2.2.2.1 (List.getD l c (dflt T_api_Access)).2.2.2.2.1 (List.getD l c (dflt T_api_Access)).2.2.2.2.2 s.1 s.2 ((h + 1 : Nat) : Int) (out ++ [(h : Int)]))) (out ++ listR l.length (behB p l c) h) := fun hb => by
        rw [listR_step hh, if_pos hb]
        have := ih (out ++ [(h : Int)]) (by simp; omega)
        rwa [List.append_assoc] at this
      have skip : behB p l c h = false → Goes (T_clash_behind p l (c : Int)) (.jmp (.l14 (List.getD l c (dflt T_api_Access)).1 (List.getD l c (dflt T_api_Access)).2.1 (List.getD l c (dflt T_api_Access)).2.2.1 (List.getD l c (dflt T_api_Access)).2.2.2.1 (List.getD l c (dflt T_api_Access)).2.2.2.2.1 (List.getD l c (dflt T_api_Access)).2.2.2.2.2 s.1 s.2 ((h + 1 : Nat) : Int) out)) (out ++ listR l.length (behB p l c) h) := fun hb => by
        rw [listR_step hh, hb, if_neg (by decide)]
        exact ih out (by omega)
      have e1 : (List.getD l h (dflt T_api_Access)).1 = thA l h := rfl
      have e2 : (List.getD l h (dflt T_api_Access)).2.1 = inA l h := rfl
      have e3 : (List.getD l h (dflt T_api_Access)).2.2.1 = paA l h := rfl
      have f1 : (List.getD l c (dflt T_api_Access)).1 = thA l c := rfl
      have f2 : (List.getD l c (dflt T_api_Access)).2.1 = inA l c := rfl
      have f3 : (List.getD l c (dflt T_api_Access)).2.2.1 = paA l c := rfl
      have hbe : behB p l c h = (thA l h == thA l c && (h == c || ((inA l h == inA l c && decide (paA l h > paA l c)) || (decide (0 ≤ inA l h) && fromB t (inA l c) (inA l h).toNat)))) := by
        unfold behB
        rw [decide_eq_true hh, Bool.true_and, ht]
      have hhc : ((h : Int) == (c : Int)) = (h == c) := by
        by_cases e : h = c
        · subst e; simp
        · have : (h == c) = false := by simpa using e
          rw [this]; simp; omega
      rw [goes_jmp, T_clash_behind]
      simp only [goes_br, lt_len hh, nng, Bool.and_self, if_true, Int.toNat_natCast, b1, wrap_succ (k := h) (by omega), e1, e2, e3, hhas, hhc]
      rw [f1, f2, f3] at *
      generalize hq : (decide (0 ≤ inA l h) && fromB t (inA l c) (inA l h).toNat) = q at *
      by_cases c1 : (thA l h == thA l c) = true
      · rw [if_pos c1]
        rw [c1, Bool.true_and] at hbe
        by_cases c2 : (h == c) = true
        · rw [if_pos c2]
          rw [c2, Bool.true_or] at hbe
          exact add hbe
        · rw [if_neg c2]
          rw [Bool.eq_false_iff.2 c2, Bool.false_or] at hbe
          by_cases c3 : (inA l h == inA l c) = true
          · rw [if_pos c3]
            rw [c3, Bool.true_and] at hbe
            by_cases c4 : decide (paA l h > paA l c) = true
            · rw [if_pos c4]
              rw [c4, Bool.true_or] at hbe
              exact add hbe
            · rw [if_neg c4]
              rw [Bool.eq_false_iff.2 c4, Bool.false_or] at hbe
              cases q with
              | true => rw [if_pos rfl]; exact add hbe
              | false => rw [if_neg (by decide)]; exact skip hbe
          · rw [if_neg c3]
            rw [Bool.eq_false_iff.2 c3, Bool.false_and, Bool.false_or] at hbe
            cases q with
            | true => rw [if_pos rfl]; exact add hbe
            | false => rw [if_neg (by decide)]; exact skip hbe
      · rw [if_neg c1]
        rw [Bool.eq_false_iff.2 c1, Bool.false_and] at hbe
        exact skip hbe
  -- the first loop
  have first : ∀ h, h ≤ L.length → ∀ (s : Int × List (Int × Int)), SetOK s t.length (fun j => (L.take h).contains (j : Int)) →
      Goes (T_clash_behind p l (c : Int)) (.jmp (.l6 (Int.ofNat L.length) (List.getD l c (dflt T_api_Access)).1 (List.getD l c (dflt T_api_Access)).2.1 (List.getD l c (dflt T_api_Access)).2.2.1 (List.getD l c (dflt T_api_Access)).2.2.2.1 (List.getD l c (dflt T_api_Access)).2.2.2.2.1 (List.getD l c (dflt T_api_Access)).2.2.2.2.2 s.1 L s.2 (h : Int))) (listOf l.length (behB p l c)) := by
    refine down ?_ fun h hh ih => ?_
    · intro s hs
      rw [goes_jmp, T_clash_behind, goes_br, if_neg (by simp)]
      have := second s (hs.congr' fun j => by
        rw [List.take_length, Bool.eq_iff_iff, List.contains_iff_mem, hmem]
        constructor
        · rintro ⟨i, _, h1, h2⟩; have : j = i := by omega
          subst this; exact h1
        · intro h; exact ⟨j, fromB_lt h, h, rfl⟩) 0 (Nat.zero_le _) [] (Nat.le_refl _)
      rwa [List.nil_append, listR_zero] at this
    · intro s hs
      obtain ⟨i, hi, _, hie⟩ := (hmem L[h]).1 (List.getElem_mem hh)
      obtain ⟨_, p2⟩ := hs.putO (by omega) hi
      have hp : v_bits_Set_Put (s.1, s.2) (i : Int) = putS s (i : Int) := rfl
      rw [goes_jmp, T_clash_behind, goes_br, if_pos (lt_len hh), goes_br, if_pos (bound_len hh), Int.toNat_natCast, getD_lt hh, hie, hp, wrap_succ (by omega)]
      refine ih _ (p2.congr' fun j => ?_)
      rw [List.take_succ_eq_append_getElem hh, Bool.eq_iff_iff, Bool.or_eq_true, List.contains_iff_mem, List.contains_iff_mem, List.mem_append, List.mem_singleton, hie, beq_iff_eq]
      exact or_congr Iff.rfl (by omega)
  exact first 0 (Nat.zero_le _) (((t.length : Nat) : Int), []) ((SetOK.new t.length).congr' fun j => by simp)
end Go.Ev
end

section
set_option linter.unusedSectionVars false
set_option linter.unusedVariables false
set_option linter.unusedSimpArgs false
set_option maxRecDepth 100000
set_option linter.unusedVariables false
open Go Go.Ev
namespace Go.Ev
noncomputable section
noncomputable def e_clash_behind : Run := entG sg_clash_behind R_clash_behind (fun a => k_clash_behind a.1 a.2.1 a.2.2.1) (fun a => v_clash_behind a.1 a.2.1 a.2.2.1)
theorem ok_clash_behind : EntOK Go.Proofs.Tryz.prog 45 e_clash_behind := entG_ok (tb := tb_clash_behind) (c := c_clash_behind) tk_clash_behind (by kernel_rfl) (by kernel_rfl) (by kernel_rfl) (fun a => by kernel_rfl) fun ⟨p, l, c, _⟩ hk => evF_goes (c := c_clash_behind) (K := fun v => (R_clash_behind v, tps (toForms sg_clash_behind (p, l, c, ())))) (S := S_clash_behind p l c) (by kernel_rfl) (en_clash_behind p l c) (lp_clash_behind p l c) (g_clash_behind p l c hk)
end
end Go.Ev
end

section
set_option linter.unusedSectionVars false
set_option linter.unusedVariables false
set_option linter.unusedSimpArgs false
set_option maxRecDepth 100000
set_option linter.unusedVariables false
open Go Go.Ev
namespace Go.Ev
noncomputable section
/-! ### paling/clash.Back -/
def sg_clash_Back : Sig := [(true, T_api_Prog), (false, (.int .i64))]
noncomputable def t_clash_Back : Tbl := [(35, e_touch_Of), (42, e_bits_New), (43, e_clash_Back_1), (45, e_clash_behind), (44, e_bits_Set_Put), (46, e_bits_Set_List)]
theorem tk_clash_Back : ∀ p ∈ t_clash_Back, EntOK Go.Proofs.Tryz.prog p.1 p.2 := tbl_cons ok_touch_Of (tbl_cons ok_bits_New (tbl_cons ok_clash_Back_1 (tbl_cons ok_clash_behind (tbl_cons ok_bits_Set_Put (tbl_cons ok_bits_Set_List (tbl_nil))))))
noncomputable def c_clash_Back : Code := Go.Proofs.Tryz.f19.body.getD .skip
def tb_clash_Back : Tb := [(11, ⟨[2, 5, 7, 9, 10, 11], []⟩), (17, ⟨[2, 5, 7, 9, 10, 11, 54, 55, 56], []⟩), (hintK, ⟨[], [(1, 74)]⟩)]
inductive J_clash_Back where
  | l11 (l : List (El T_api_Access)) (back : Int) (open_ : List Int) (meet : Int) (meet1 : Int) (back1 : List (Int × Int)) (meet2 : Int) (meet3 : List (Int × Int)) (gone : Int) (gone1 : List (Int × Int))
  | l17 (h : Int) (l : List (El T_api_Access)) (h1 : List Int) (back : Int) (open_ : List Int) (meet : Int) (meet1 : Int) (back1 : List (Int × Int)) (meet2 : Int) (meet3 : List (Int × Int)) (h2 : Int) (gone : Int) (gone1 : List (Int × Int))
def T_clash_Back (p : El T_api_Prog) (a : Int) : J_clash_Back → JT J_clash_Back (List Int)
  | .l11 l back open_ meet meet1 back1 meet2 meet3 gone gone1 =>
    .br (decide ((Int.ofNat (List.length open_)) > (0 : Int)))
      (.br (decide ((0 : Int) < (Int.ofNat (List.length open_))))
        (.br (Nat.ble 1 (List.length open_))
          (.br (k_clash_behind p l (List.getD open_ 0 (dflt (.int .i64))))
            (.jmp (.l17 (Int.ofNat (List.length (v_clash_behind p l (List.getD open_ 0 (dflt (.int .i64)))))) l (v_clash_behind p l (List.getD open_ 0 (dflt (.int .i64)))) back (List.drop 1 open_) meet meet1 back1 meet2 meet3 (0 : Int) gone gone1))
          (.no))
        (.no))
      (.no))
    (.br (k_bits_Set_List (back, back1))
      (.leaf (v_bits_Set_List (back, back1)).1)
    (.no))
  | .l17 h l h1 back open_ meet meet1 back1 meet2 meet3 h2 gone gone1 =>
    .br (decide (h2 < h))
      (.br ((decide ((0 : Int) ≤ h2)) && (decide (h2 < (Int.ofNat (List.length h1)))))
        (.br (v_bits_Set_Put (gone, gone1) (List.getD h1 (Int.toNat h2) (dflt (.int .i64)))).1
          (.br (k_clash_Back_1 (List.getD h1 (Int.toNat h2) (dflt (.int .i64))) l meet (meet2, meet3) open_ meet1 (back, back1))
            (.jmp (.l17 h (v_clash_Back_1 (List.getD h1 (Int.toNat h2) (dflt (.int .i64))) l meet (meet2, meet3) open_ meet1 (back, back1)).1 h1 (v_clash_Back_1 (List.getD h1 (Int.toNat h2) (dflt (.int .i64))) l meet (meet2, meet3) open_ meet1 (back, back1)).2.2.2.2.2.1 (v_clash_Back_1 (List.getD h1 (Int.toNat h2) (dflt (.int .i64))) l meet (meet2, meet3) open_ meet1 (back, back1)).2.2.2.1 (v_clash_Back_1 (List.getD h1 (Int.toNat h2) (dflt (.int .i64))) l meet (meet2, meet3) open_ meet1 (back, back1)).2.1 (v_clash_Back_1 (List.getD h1 (Int.toNat h2) (dflt (.int .i64))) l meet (meet2, meet3) open_ meet1 (back, back1)).2.2.2.2.1 (v_clash_Back_1 (List.getD h1 (Int.toNat h2) (dflt (.int .i64))) l meet (meet2, meet3) open_ meet1 (back, back1)).2.2.2.2.2.2 (v_clash_Back_1 (List.getD h1 (Int.toNat h2) (dflt (.int .i64))) l meet (meet2, meet3) open_ meet1 (back, back1)).2.2.1.1 (v_clash_Back_1 (List.getD h1 (Int.toNat h2) (dflt (.int .i64))) l meet (meet2, meet3) open_ meet1 (back, back1)).2.2.1.2 (IntKind.i64.wrap (h2 + (1 : Int))) (v_bits_Set_Put (gone, gone1) (List.getD h1 (Int.toNat h2) (dflt (.int .i64)))).2.1 (v_bits_Set_Put (gone, gone1) (List.getD h1 (Int.toNat h2) (dflt (.int .i64)))).2.2))
          (.no))
        (.jmp (.l17 h l h1 back open_ meet meet1 back1 meet2 meet3 (IntKind.i64.wrap (h2 + (1 : Int))) (v_bits_Set_Put (gone, gone1) (List.getD h1 (Int.toNat h2) (dflt (.int .i64)))).2.1 (v_bits_Set_Put (gone, gone1) (List.getD h1 (Int.toNat h2) (dflt (.int .i64)))).2.2)))
      (.no))
    (.jmp (.l11 l back open_ meet meet1 back1 meet2 meet3 gone gone1))
def T0_clash_Back (p : El T_api_Prog) (a : Int) : JT J_clash_Back (List Int) :=
  .br (k_touch_Of p)
    (.br (decide (a < (0 : Int)))
      (.leaf [])
    (.br (decide (a ≥ (Int.ofNat (List.length (v_touch_Of p)))))
      (.leaf [])
    (.br ((decide ((0 : Int) ≤ a)) && (decide (a < (Int.ofNat (List.length (v_touch_Of p))))))
      (.br (k_clash_Back_1 a (v_touch_Of p) (List.getD (v_touch_Of p) (Int.toNat a) (dflt T_api_Access)).1 (v_bits_New (Int.ofNat (List.length (v_touch_Of p)))) [] a (v_bits_New (Int.ofNat (List.length (v_touch_Of p)))))
        (.jmp (.l11 (v_clash_Back_1 a (v_touch_Of p) (List.getD (v_touch_Of p) (Int.toNat a) (dflt T_api_Access)).1 (v_bits_New (Int.ofNat (List.length (v_touch_Of p)))) [] a (v_bits_New (Int.ofNat (List.length (v_touch_Of p))))).1 (v_clash_Back_1 a (v_touch_Of p) (List.getD (v_touch_Of p) (Int.toNat a) (dflt T_api_Access)).1 (v_bits_New (Int.ofNat (List.length (v_touch_Of p)))) [] a (v_bits_New (Int.ofNat (List.length (v_touch_Of p))))).2.2.2.2.2.1 (v_clash_Back_1 a (v_touch_Of p) (List.getD (v_touch_Of p) (Int.toNat a) (dflt T_api_Access)).1 (v_bits_New (Int.ofNat (List.length (v_touch_Of p)))) [] a (v_bits_New (Int.ofNat (List.length (v_touch_Of p))))).2.2.2.1 (v_clash_Back_1 a (v_touch_Of p) (List.getD (v_touch_Of p) (Int.toNat a) (dflt T_api_Access)).1 (v_bits_New (Int.ofNat (List.length (v_touch_Of p)))) [] a (v_bits_New (Int.ofNat (List.length (v_touch_Of p))))).2.1 (v_clash_Back_1 a (v_touch_Of p) (List.getD (v_touch_Of p) (Int.toNat a) (dflt T_api_Access)).1 (v_bits_New (Int.ofNat (List.length (v_touch_Of p)))) [] a (v_bits_New (Int.ofNat (List.length (v_touch_Of p))))).2.2.2.2.1 (v_clash_Back_1 a (v_touch_Of p) (List.getD (v_touch_Of p) (Int.toNat a) (dflt T_api_Access)).1 (v_bits_New (Int.ofNat (List.length (v_touch_Of p)))) [] a (v_bits_New (Int.ofNat (List.length (v_touch_Of p))))).2.2.2.2.2.2 (v_clash_Back_1 a (v_touch_Of p) (List.getD (v_touch_Of p) (Int.toNat a) (dflt T_api_Access)).1 (v_bits_New (Int.ofNat (List.length (v_touch_Of p)))) [] a (v_bits_New (Int.ofNat (List.length (v_touch_Of p))))).2.2.1.1 (v_clash_Back_1 a (v_touch_Of p) (List.getD (v_touch_Of p) (Int.toNat a) (dflt T_api_Access)).1 (v_bits_New (Int.ofNat (List.length (v_touch_Of p)))) [] a (v_bits_New (Int.ofNat (List.length (v_touch_Of p))))).2.2.1.2 (v_bits_New (Int.ofNat (List.length (v_touch_Of p)))).1 (v_bits_New (Int.ofNat (List.length (v_touch_Of p)))).2))
      (.no))
    (.no))))
  (.no)
def R_clash_Back : List Int → AV := fun (r : List Int) => .rw 3 (.int .i64) r
def S_clash_Back (p : El T_api_Prog) (a : Int) : J_clash_Back → Nat × St
  | .l11 l back open_ meet meet1 back1 meet2 meet3 gone gone1 => (11, ⟨mkTm 69 [(2, .pt 3 0 0), (5, .pt 6 0 0), (7, .pt 8 0 0), (9, .pt 10 0 0), (10, .pt 11 0 0), (11, .fn 43 [.pt 6 0 0, .pt 12290 0 0, .pt 12291 0 0, .pt 11 0 0, .pt 12293 0 0, .pt 8 0 0])], [(3, 0, .box 26 [.d (.sl T_api_Sym) p.1, .d (.sl (.sl T_api_Ins)) p.2] none), (6, 0, .box 34 [.d (.sl T_api_Access) l] none), (8, 0, .box 78 [.pt 8193 0 0] none), (10, 0, .box 102 [.d (.int .i64) gone, .mp 10242 0] none), (11, 0, .box 37 [.own 11265 0 none] none), (8193, 0, .box 102 [.d (.int .i64) back, .mp 8389634 0] none), (10242, 0, .map (.int .i64) (.int .u64) gone1), (11265, 0, .row 3 (.int .i64) open_ false), (12290, 0, .box 3 [.d (.int .i64) meet] none), (12291, 0, .box 78 [.pt 12585985 0 0] none), (12293, 0, .box 3 [.d (.int .i64) meet1] none), (8389634, 0, .map (.int .i64) (.int .u64) back1), (12585985, 0, .box 102 [.d (.int .i64) meet2, .mp 12888048642 0] none), (12888048642, 0, .map (.int .i64) (.int .u64) meet3)]⟩)
  | .l17 h l h1 back open_ meet meet1 back1 meet2 meet3 h2 gone gone1 => (17, ⟨mkTm 69 [(2, .pt 3 0 0), (5, .pt 6 0 0), (7, .pt 8 0 0), (9, .pt 10 0 0), (10, .pt 11 0 0), (11, .fn 43 [.pt 6 0 0, .pt 12290 0 0, .pt 12291 0 0, .pt 11 0 0, .pt 12293 0 0, .pt 8 0 0]), (54, .own 55 0 none), (55, .d (.int .i64) h), (56, .d (.int .i64) h2)], [(3, 0, .box 26 [.d (.sl T_api_Sym) p.1, .d (.sl (.sl T_api_Ins)) p.2] none), (6, 0, .box 34 [.d (.sl T_api_Access) l] none), (8, 0, .box 78 [.pt 8193 0 0] none), (10, 0, .box 102 [.d (.int .i64) gone, .mp 10242 0] none), (11, 0, .box 37 [.own 11265 0 none] none), (55, 0, .row 3 (.int .i64) h1 false), (8193, 0, .box 102 [.d (.int .i64) back, .mp 8389634 0] none), (10242, 0, .map (.int .i64) (.int .u64) gone1), (11265, 0, .row 3 (.int .i64) open_ false), (12290, 0, .box 3 [.d (.int .i64) meet] none), (12291, 0, .box 78 [.pt 12585985 0 0] none), (12293, 0, .box 3 [.d (.int .i64) meet1] none), (8389634, 0, .map (.int .i64) (.int .u64) back1), (12585985, 0, .box 102 [.d (.int .i64) meet2, .mp 12888048642 0] none), (12888048642, 0, .map (.int .i64) (.int .u64) meet3)]⟩)
theorem en_clash_Back (p : El T_api_Prog) (a : Int) (L : Lt) : entryA Go.Proofs.Tryz.prog (clOf t_clash_Back) tb_clash_Back Go.Proofs.Tryz.f19 c_clash_Back L (toForms sg_clash_Back (p, a, ())) = (T0_clash_Back p a).run (fun v => some (R_clash_Back v, tps (toForms sg_clash_Back (p, a, ())))) fun j => L (S_clash_Back p a j).1 (S_clash_Back p a j).2 := by kernel_rfl
theorem lp_clash_Back (p : El T_api_Prog) (a : Int) : ∀ (L : Lt) (j : J_clash_Back), procOf (procsF Go.Proofs.Tryz.prog (clOf t_clash_Back) tb_clash_Back Go.Proofs.Tryz.f19 c_clash_Back (toForms sg_clash_Back (p, a, ()))) (S_clash_Back p a j).1 L (S_clash_Back p a j).2 = (T_clash_Back p a j).run (fun v => some (R_clash_Back v, tps (toForms sg_clash_Back (p, a, ())))) fun j => L (S_clash_Back p a j).1 (S_clash_Back p a j).2
  | L, .l11 l back open_ meet meet1 back1 meet2 meet3 gone gone1 => by kernel_rfl
  | L, .l17 h l h1 back open_ meet meet1 back1 meet2 meet3 h2 gone gone1 => by kernel_rfl
end
end Go.Ev
end

section
set_option linter.unusedSectionVars false
set_option linter.unusedVariables false
set_option linter.unusedSimpArgs false
/- Where accesses stand. -/
set_option linter.unusedVariables false
set_option linter.unusedSimpArgs false
namespace Go.Ev
open Go
theorem accT_memX {t : Nat} {a : El T_api_Access} : ∀ {l : List (El T_api_Ins)} {k : Nat}, a ∈ accT t k l ↔ ∃ (j : Nat) (i : El T_api_Ins), l[j]? = some i ∧ a ∈ accI t (k + j) i
  | [], k => by simp [accT]
  | i :: r, k => by
    unfold accT
    rw [List.mem_append, accT_memX (l := r)]
    constructor
    · rintro (h | ⟨j, i', h1, h2⟩)
      · exact ⟨0, i, rfl, h⟩
      · exact ⟨j + 1, i', by simpa using h1, by rw [show k + (j + 1) = k + 1 + j by omega]; exact h2⟩
    · rintro ⟨j, i', h1, h2⟩
      cases j with
      | zero => left; simp at h1; subst h1; exact h2
      | succ j => right; exact ⟨j, i', by simpa using h1, by rw [show k + 1 + j = k + (j + 1) by omega]; exact h2⟩
theorem accI_memX {t k : Nat} {i : El T_api_Ins} {a : El T_api_Access} : a ∈ accI t k i ↔ ((v_ins_Reads i).2 = true ∧ a = ((t : Int), ((k : Int), ((0 : Int), ((v_ins_Reads i).1.2.2.1, (false, v_ins_Locked i)))))) ∨ ((v_ins_Writes i).2 = true ∧ a = ((t : Int), ((k : Int), ((if (v_ins_Reads i).2 then (1 : Int) else 0), ((v_ins_Writes i).1.2.2.1, (true, v_ins_Locked i)))))) := by
  unfold accI
  rw [List.mem_append]
  cases (v_ins_Reads i).2 <;> cases (v_ins_Writes i).2 <;> simp
theorem accI_atX {t k : Nat} {i : El T_api_Ins} {a : El T_api_Access} (h : a ∈ accI t k i) : (show Int from a.1) = (t : Int) ∧ (show Int from a.2.1) = (k : Int) := by
  rcases accI_memX.1 h with ⟨_, rfl⟩ | ⟨_, rfl⟩ <;> exact ⟨rfl, rfl⟩
theorem accP_memX {a : El T_api_Access} : ∀ {l : List (List (El T_api_Ins))} {t : Nat}, a ∈ accP t l ↔ ∃ (u : Nat) (x : List (El T_api_Ins)) (j : Nat) (i : El T_api_Ins), l[u]? = some x ∧ x[j]? = some i ∧ a ∈ accI (t + u) j i
  | [], t => by simp [accP]
  | x :: r, t => by
    unfold accP
    rw [List.mem_append, accT_memX, accP_memX (l := r)]
    constructor
    · rintro (⟨j, i, h1, h2⟩ | ⟨u, y, j, i, h1, h2, h3⟩)
      · exact ⟨0, x, j, i, rfl, h1, by rw [Nat.zero_add] at h2; exact h2⟩
      · exact ⟨u + 1, y, j, i, by simpa using h1, h2, by rw [show t + (u + 1) = t + 1 + u by omega]; exact h3⟩
    · rintro ⟨u, y, j, i, h1, h2, h3⟩
      cases u with
      | zero =>
        left
        simp at h1
        subst h1
        exact ⟨j, i, h2, by rw [Nat.zero_add]; exact h3⟩
      | succ u => right; exact ⟨u, y, j, i, by simpa using h1, h2, by rw [show t + 1 + u = t + (u + 1) by omega]; exact h3⟩
/-- An access stands in a thread, at an instruction. -/
theorem acc_where {p : El T_api_Prog} {a : El T_api_Access} (h : a ∈ ofC p) : ∃ (u : Nat) (x : List (El T_api_Ins)) (j : Nat) (i : El T_api_Ins), p.2[u]? = some x ∧ x[j]? = some i ∧ a ∈ accI u j i ∧ (show Int from a.1) = (u : Int) ∧ (show Int from a.2.1) = (j : Int) := by
  unfold ofC at h
  split at h
  · obtain ⟨u, x, j, i, h1, h2, h3⟩ := accP_memX.1 h
    rw [Nat.zero_add] at h3
    exact ⟨u, x, j, i, h1, h2, h3, (accI_atX h3).1, (accI_atX h3).2⟩
  · cases h
theorem flow_small {t : List (El T_api_Ins)} (h : smallThread t = true) : flowOK t = true := by
  have labs : ∀ {t : List (El T_api_Ins)} {i : El T_api_Ins}, i ∈ t → i.2.2.2.2.2.2.length ≤ (labels t).length := fun {t i} hi => by
    unfold labels
    induction t with
    | nil => cases hi
    | cons x r ih =>
      rw [List.flatMap_cons, List.length_append]
      rcases List.mem_cons.1 hi with rfl | hi
      · omega
      · have := ih hi; omega
  unfold smallThread at h
  simp only [Bool.and_eq_true, List.all_eq_true, decide_eq_true_eq] at h
  unfold flowOK
  simp only [Bool.and_eq_true, List.all_eq_true, decide_eq_true_eq]
  refine ⟨h.1, fun i hi => ⟨(h.2.2 i hi).1, ?_⟩⟩
  have := labs hi
  omega
end Go.Ev
end

section
set_option linter.unusedSectionVars false
set_option linter.unusedVariables false
set_option linter.unusedSimpArgs false
set_option maxRecDepth 100000
set_option linter.unusedVariables false
set_option linter.unusedSimpArgs false
open Go
namespace Go.Ev
noncomputable def v_clash_Back (p : El T_api_Prog) (a : Int) : List Int := if 0 ≤ a ∧ a < ((ofC p).length : Int) then listOf (ofC p).length (backB p (ofC p) a.toNat) else []
def k_clash_Back (p : El T_api_Prog) (a : Int) : Bool := smallAll p
theorem meetF_ok {l : List Acc} {x : Nat} {own a : Int} : ∀ (n h : Nat) (s : SetT × List Int × SetT) (C B : Nat → Bool), l.length < 1099511627776 → h + n ≤ l.length → SetOK s.1 l.length C → SetOK s.2.2 l.length B →
    ∃ C' B', SetOK (meetF l (x : Int) own a (List.range' h n) s).1 l.length C' ∧ SetOK (meetF l (x : Int) own a (List.range' h n) s).2.2 l.length B' ∧
      (∀ j, C' j = true ↔ C j = true ∨ (h ≤ j ∧ j < h + n ∧ clB l x j = true ∧ thA l j ≠ own)) ∧ (∀ j, B' j = true ↔ B j = true ∨ (h ≤ j ∧ j < h + n ∧ clB l x j = true ∧ thA l j = own ∧ (x : Int) ≠ a)) ∧
      (∀ y ∈ s.2.1, y ∈ (meetF l (x : Int) own a (List.range' h n) s).2.1) ∧ (∀ y ∈ (meetF l (x : Int) own a (List.range' h n) s).2.1, y ∈ s.2.1 ∨ ∃ j : Nat, y = (j : Int) ∧ C' j = true) ∧
      (∀ j, C' j = true → C j = true ∨ (j : Int) ∈ (meetF l (x : Int) own a (List.range' h n) s).2.1) ∧ (meetF l (x : Int) own a (List.range' h n) s).2.1.length + card l.length C = s.2.1.length + card l.length C'
  | 0, h, s, C, B, _, _, hC, hB => ⟨C, B, hC, hB, fun j => ⟨.inl, fun h => h.elim id fun h => by omega⟩, fun j => ⟨.inl, fun h => h.elim id fun h => by omega⟩, fun y hy => hy, fun y hy => .inl hy, fun j hj => .inl hj, rfl⟩
  | n + 1, h, s, C, B, hN, hn, hC, hB => by
    rw [List.range'_succ, meetF]
    have hh : h < l.length := by omega
    -- one step
    have one : ∃ C1 B1, SetOK (meet1 l (x : Int) own a h s).1 l.length C1 ∧ SetOK (meet1 l (x : Int) own a h s).2.2 l.length B1 ∧ (∀ j, C1 j = true ↔ C j = true ∨ (j = h ∧ clB l x h = true ∧ thA l h ≠ own)) ∧ (∀ j, B1 j = true ↔ B j = true ∨ (j = h ∧ clB l x h = true ∧ thA l h = own ∧ (x : Int) ≠ a)) ∧
        (∀ y ∈ s.2.1, y ∈ (meet1 l (x : Int) own a h s).2.1) ∧ (∀ y ∈ (meet1 l (x : Int) own a h s).2.1, y ∈ s.2.1 ∨ ∃ j : Nat, y = (j : Int) ∧ C1 j = true) ∧ (∀ j, C1 j = true → C j = true ∨ (j : Int) ∈ (meet1 l (x : Int) own a h s).2.1) ∧
        (meet1 l (x : Int) own a h s).2.1.length + card l.length C = s.2.1.length + card l.length C1 := by
      unfold meet1
      rw [Int.toNat_natCast]
      by_cases c1 : clB l x h = true
      · rw [if_pos c1]
        by_cases c2 : thA l h = own
        · rw [if_neg (by simp [c2])]
          by_cases c3 : (x : Int) = a
          · rw [if_neg (by simp [c3])]
            exact ⟨C, B, hC, hB, fun j => ⟨.inl, fun h => h.elim id fun h => absurd c2 h.2.2⟩, fun j => ⟨.inl, fun h => h.elim id fun h => absurd c3 h.2.2.2⟩, fun y hy => hy, fun y hy => .inl hy, fun j hj => .inl hj, rfl⟩
          · rw [if_pos c3]
            obtain ⟨_, p2⟩ := hB.putO (by omega) hh
            refine ⟨C, _, hC, p2, fun j => ⟨.inl, fun h => h.elim id fun h => absurd c2 h.2.2⟩, fun j => ?_, fun y hy => hy, fun y hy => .inl hy, fun j hj => .inl hj, rfl⟩
            rw [Bool.or_eq_true, beq_iff_eq]
            exact or_congr Iff.rfl ⟨fun h => ⟨h, c1, c2, c3⟩, fun h => h.1⟩
        · rw [if_pos c2]
          obtain ⟨p1, p2⟩ := hC.putO (by omega) hh
          have hB' : ∀ j, B j = true ↔ B j = true ∨ (j = h ∧ clB l x h = true ∧ thA l h = own ∧ (x : Int) ≠ a) := fun j => ⟨.inl, fun h => h.elim id fun h => absurd h.2.2.1 c2⟩
          have hC' : ∀ j, (C j || (j == h)) = true ↔ C j = true ∨ (j = h ∧ clB l x h = true ∧ thA l h ≠ own) := fun j => by
            rw [Bool.or_eq_true, beq_iff_eq]
            exact or_congr Iff.rfl ⟨fun h => ⟨h, c1, c2⟩, fun h => h.1⟩
          refine ⟨_, B, p2, hB, hC', hB', ?_⟩
          cases hCh : C h with
          | true =>
            rw [hCh] at p1
            rw [if_neg (by rw [p1]; decide)]
            have e : (fun k => C k || (k == h)) = C := funext fun k => by
              by_cases hk : k = h
              · subst hk; rw [hCh]; rfl
              · have : (k == h) = false := by simpa using hk
                rw [this, Bool.or_false]
            refine ⟨fun y hy => hy, fun y hy => .inl hy, fun j hj => .inl ?_, by rw [e]⟩
            have := congrFun e j
            rw [← this]; exact hj
          | false =>
            rw [hCh] at p1
            rw [if_pos (by rw [p1]; rfl)]
            refine ⟨fun y hy => List.mem_append_left _ hy, fun y hy => ?_, fun j hj => ?_, ?_⟩
            · rcases List.mem_append.1 hy with hy | hy
              · exact .inl hy
              · simp only [List.mem_singleton] at hy
                exact .inr ⟨h, hy, by simp⟩
            · rw [Bool.or_eq_true, beq_iff_eq] at hj
              rcases hj with hj | rfl
              · exact .inl hj
              · exact .inr (List.mem_append_right _ (by simp))
            · rw [card_add hCh hh, List.length_append, List.length_singleton]
              omega
      · rw [if_neg c1]
        exact ⟨C, B, hC, hB, fun j => ⟨.inl, fun h => h.elim id fun h => absurd h.2.1 c1⟩, fun j => ⟨.inl, fun h => h.elim id fun h => absurd h.2.1 c1⟩, fun y hy => hy, fun y hy => .inl hy, fun j hj => .inl hj, rfl⟩
    obtain ⟨C1, B1, a1, a2, a3, a4, a5, a6, a7, a8⟩ := one
    obtain ⟨C2, B2, b1, b2, b3, b4, b5, b6, b7, b8⟩ := meetF_ok n (h + 1) (meet1 l (x : Int) own a h s) C1 B1 hN (by omega) a1 a2
    refine ⟨C2, B2, b1, b2, fun j => ?_, fun j => ?_, fun y hy => b5 y (a5 y hy), fun y hy => ?_, fun j hj => ?_, by omega⟩
    · rw [b3, a3, or_assoc]
      refine or_congr Iff.rfl ⟨?_, ?_⟩
      · rintro (⟨rfl, h1⟩ | ⟨h1, h2, h3⟩)
        · exact ⟨Nat.le_refl _, by omega, h1⟩
        · exact ⟨by omega, by omega, h3⟩
      · rintro ⟨h1, h2, h3⟩
        by_cases e : j = h
        · subst e; exact .inl ⟨rfl, h3⟩
        · exact .inr ⟨by omega, by omega, h3⟩
    · rw [b4, a4, or_assoc]
      refine or_congr Iff.rfl ⟨?_, ?_⟩
      · rintro (⟨rfl, h1⟩ | ⟨h1, h2, h3⟩)
        · exact ⟨Nat.le_refl _, by omega, h1⟩
        · exact ⟨by omega, by omega, h3⟩
      · rintro ⟨h1, h2, h3⟩
        by_cases e : j = h
        · subst e; exact .inl ⟨rfl, h3⟩
        · exact .inr ⟨by omega, by omega, h3⟩
    · rcases b6 y hy with h1 | h1
      · rcases a6 y h1 with h2 | ⟨j, h2, h3⟩
        · exact .inl h2
        · exact .inr ⟨j, h2, (b3 j).2 (.inl h3)⟩
      · exact .inr h1
    · rcases b7 j hj with h1 | h1
      · rcases a7 j h1 with h2 | h2
        · exact .inl h2
        · exact .inr (b5 _ h2)
      · exact .inr h1
/-- What holds while chains are gone over. -/
structure BInv (p : El T_api_Prog) (l : List Acc) (a : Nat) (C G B : Nat → Bool) (O : List Int) : Prop where
  c : ∀ c, C c = true ↔ c < l.length ∧ thA l c ≠ thA l a ∧ (clB l a c = true ∨ ∃ k, G k = true ∧ clB l k c = true)
  g : ∀ d, G d = true → ∃ c, C c = true ∧ behB p l c d = true
  o : ∀ x ∈ O, ∃ c : Nat, x = (c : Int) ∧ C c = true
  b : ∀ b, B b = true ↔ b < l.length ∧ thA l b = thA l a ∧ ∃ k, G k = true ∧ clB l k b = true
  s : ∀ d, G d = true → isB p l a d = true
theorem BInv.is {p : El T_api_Prog} {l : List Acc} {a : Nat} {C G B : Nat → Bool} {O : List Int} (h : BInv p l a C G B O) {c : Nat} (hc : C c = true) : isB p l a c = true := by
  obtain ⟨h1, h2, h3⟩ := (h.c c).1 hc
  rcases h3 with h3 | ⟨k, hk, h3⟩
  · exact comeB_iff.2 (.start (by unfold chS; rw [decide_eq_true h1, h3]; rfl))
  · refine comeB_iff.2 (.step (comeB_iff.1 (h.s k hk)) ?_)
    unfold chB
    simp only [Bool.and_eq_true, decide_eq_true_eq, Bool.not_eq_true', beq_eq_false_iff_ne, Bool.or_eq_true]
    exact ⟨h1, h2, .inl h3⟩
theorem BInv.meet {p : El T_api_Prog} {l : List Acc} {a d : Nat} {C G B C' B' : Nat → Bool} {O O' : List Int} {c : Nat} (h : BInv p l a C G B O) (hc : C c = true) (hd : behB p l c d = true) (hl : d < l.length)
    (hC : ∀ j, C' j = true ↔ C j = true ∨ (0 ≤ j ∧ j < 0 + l.length ∧ clB l d j = true ∧ thA l j ≠ thA l a)) (hB : ∀ j, B' j = true ↔ B j = true ∨ (0 ≤ j ∧ j < 0 + l.length ∧ clB l d j = true ∧ thA l j = thA l a ∧ (d : Int) ≠ (a : Int)))
    (hO : ∀ y ∈ O', y ∈ O ∨ ∃ j : Nat, y = (j : Int) ∧ C' j = true) : BInv p l a C' (fun k => G k || (k == d)) B' O' := by
  have hth := behB_lt hd
  have hne := ((h.c c).1 hc).2.1
  have hdis : isB p l a d = true := by
    refine comeB_iff.2 (.step (comeB_iff.1 (h.is hc)) ?_)
    unfold chB
    simp only [Bool.and_eq_true, decide_eq_true_eq, Bool.not_eq_true', beq_eq_false_iff_ne, Bool.or_eq_true]
    exact ⟨hl, by rw [hth.2]; exact hne, .inr hd⟩
  have hg : ∀ k, (G k || (k == d)) = true ↔ G k = true ∨ k = d := fun k => by rw [Bool.or_eq_true, beq_iff_eq]
  refine ⟨fun j => ?_, fun j hj => ?_, fun y hy => ?_, fun j => ?_, fun j hj => ?_⟩
  · rw [hC, h.c]
    constructor
    · rintro (⟨h1, h2, h3⟩ | ⟨_, h1, h2, h3⟩)
      · exact ⟨h1, h2, h3.imp id fun ⟨k, hk, h4⟩ => ⟨k, (hg k).2 (.inl hk), h4⟩⟩
      · exact ⟨by omega, h3, .inr ⟨d, (hg d).2 (.inr rfl), h2⟩⟩
    · rintro ⟨h1, h2, h3⟩
      rcases h3 with h3 | ⟨k, hk, h3⟩
      · exact .inl ⟨h1, h2, .inl h3⟩
      · rcases (hg k).1 hk with hk | rfl
        · exact .inl ⟨h1, h2, .inr ⟨k, hk, h3⟩⟩
        · exact .inr ⟨Nat.zero_le _, by omega, h3, h2⟩
  · rcases (hg j).1 hj with hj | rfl
    · obtain ⟨c', h1, h2⟩ := h.g j hj
      exact ⟨c', (hC c').2 (.inl h1), h2⟩
    · exact ⟨c, (hC c).2 (.inl hc), hd⟩
  · rcases hO y hy with hy | hy
    · obtain ⟨c', h1, h2⟩ := h.o y hy
      exact ⟨c', h1, (hC c').2 (.inl h2)⟩
    · exact hy
  · rw [hB, h.b]
    constructor
    · rintro (⟨h1, h2, k, hk, h3⟩ | ⟨_, h1, h2, h3, _⟩)
      · exact ⟨h1, h2, k, (hg k).2 (.inl hk), h3⟩
      · exact ⟨by omega, h3, d, (hg d).2 (.inr rfl), h2⟩
    · rintro ⟨h1, h2, k, hk, h3⟩
      rcases (hg k).1 hk with hk | rfl
      · exact .inl ⟨h1, h2, k, hk, h3⟩
      · refine .inr ⟨Nat.zero_le _, by omega, h3, h2, fun e => hne ?_⟩
        have : k = a := by omega
        subst this
        rw [← hth.2]
  · rcases (hg j).1 hj with hj | rfl
    · exact h.s j hj
    · exact hdis
theorem g_clash_Back (p : El T_api_Prog) (a : Int) (hk : k_clash_Back p a = true) : Goes (T_clash_Back p a) (T0_clash_Back p a) (v_clash_Back p a) := by
  have hA := smallA hk
  have hNl := ofC_len hk
  have kt : k_touch_Of p = true := hk
  have vt : v_touch_Of p = ofC p := rfl
  have hacc : ∀ c, c < (ofC p).length → 0 ≤ thA (ofC p) c ∧ thA (ofC p) c < (p.2.length : Int) ∧ flowOK (thrOf p (ofC p) c) = true := fun c hc => by
    have hm : accA (ofC p) c ∈ ofC p := by unfold accA; rw [getD_lt hc]; exact List.getElem_mem hc
    obtain ⟨u, x, j, i, h1, h2, h3, h4, h5⟩ := acc_where hm
    have hth : thA (ofC p) c = (u : Int) := h4
    have hu := (List.getElem?_eq_some_iff.1 h1).1
    have hx : x ∈ p.2 := List.mem_of_getElem? h1
    refine ⟨by omega, by omega, ?_⟩
    unfold thrOf
    rw [hth, Int.toNat_natCast, List.getD_eq_getElem?_getD, h1]
    exact flow_small (hA.thr x hx)
  obtain ⟨l, hl⟩ : ∃ l, ofC p = l := ⟨_, rfl⟩
  rw [hl] at hNl vt hacc
  obtain ⟨T, hT⟩ : ∃ T, T = T_clash_Back p a := ⟨_, rfl⟩
  rw [← hT]
  unfold T0_clash_Back v_clash_Back
  rw [goes_br, if_pos kt, vt, hl, goes_br]
  by_cases h0 : a < 0
  · rw [if_pos (decide_eq_true h0), if_neg (by omega)]; exact .leaf
  rw [if_neg (by simpa using h0), goes_br]
  by_cases h1 : a ≥ Int.ofNat l.length
  · rw [if_pos (decide_eq_true h1), if_neg (by simp at h1; omega)]; exact .leaf
  obtain ⟨a, rfl⟩ := Int.eq_ofNat_of_zero_le (show 0 ≤ a by omega)
  have ha : a < l.length := by simp at h1; omega
  rw [if_neg (by simpa using h1), goes_br, if_pos (bound_len ha), goes_br, Int.toNat_natCast]
  have hval : (if (0 : Int) ≤ (a : Int) ∧ (a : Int) < (l.length : Int) then listOf l.length (backB p l a) else []) = listOf l.length (backB p l a) := if_pos ⟨by omega, by omega⟩
  rw [hval]
  have hown : (List.getD l a (dflt T_api_Access)).1 = thA l a := rfl
  have hnew : v_bits_New (Int.ofNat l.length) = (((l.length : Nat) : Int), []) := by
    unfold v_bits_New
    simp
    omega
  rw [hown, hnew]
  have kb : ∀ (x : Nat) (come : SetT) (o : List Int) (b : SetT), x < l.length → o.length < 1099511627776 → k_clash_Back_1 (x : Int) l (thA l a) come o (a : Int) b = true := fun x come o b hx ho => decide_eq_true ⟨by omega, by omega, by omega, ho⟩
  -- the loops
  have fin : ∀ (C G B : Nat → Bool) (sc sg sb : SetT), SetOK sb l.length B → BInv p l a C G B [] →
      (∀ c, C c = true → (c : Int) ∈ ([] : List Int) ∨ ∀ d, behB p l c d = true → G d = true) → Goes T (.jmp (.l11 l sb.1 [] (thA l a) (a : Int) sb.2 sc.1 sc.2 sg.1 sg.2)) (listOf l.length (backB p l a)) := by
    intro C G B sc sg sb hb hi hp
    rw [goes_jmp, hT, T_clash_Back, ← hT, goes_br, if_neg (by decide)]
    have hkl : k_bits_Set_List (sb.1, sb.2) = true := Nat.ble_eq_true_of_le (by have := hb.few; unfold limit; show sb.2.length * 512 ≤ _; omega)
    rw [goes_br, if_pos hkl]
    have hGi : ∀ d, G d = isB p l a d := gone_is hi.c (fun d => ⟨hi.g d, fun ⟨c, h1, h2⟩ => (hp c h1).elim (fun h => by cases h) fun h => h d h2⟩) hi.s
    have hv : (v_bits_Set_List (sb.1, sb.2)).1 = listOf l.length (backB p l a) := by
      show listS sb = _
      rw [hb.list (by omega)]
      refine listOf_congr fun j hj => ?_
      unfold backB
      rw [Bool.eq_iff_iff, hi.b, Bool.and_eq_true, beq_iff_eq, List.any_eq_true]
      constructor
      · rintro ⟨_, h2, k, hk, h3⟩
        rw [hGi] at hk
        exact ⟨h2, k, List.mem_range.2 (is_lt hk).1, by rw [hk, h3]; rfl⟩
      · rintro ⟨h2, k, _, h3⟩
        rw [Bool.and_eq_true] at h3
        exact ⟨hj, h2, k, by rw [hGi]; exact h3.1, h3.2⟩
    rw [hv]
    exact .leaf
  have loop : ∀ m, ∀ (C G B : Nat → Bool) (sc sg sb : SetT) (O : List Int), 2 * (l.length - card l.length C) + O.length ≤ m → O.length ≤ card l.length C → SetOK sc l.length C → SetOK sg l.length G → SetOK sb l.length B → BInv p l a C G B O →
      (∀ c, C c = true → (c : Int) ∈ O ∨ ∀ d, behB p l c d = true → G d = true) → Goes T (.jmp (.l11 l sb.1 O (thA l a) (a : Int) sb.2 sc.1 sc.2 sg.1 sg.2)) (listOf l.length (backB p l a)) := by
    intro m
    induction m with
    | zero =>
      intro C G B sc sg sb O hm hO1 hc hg hb hi hp
      have : O = [] := List.eq_nil_of_length_eq_zero (by omega)
      subst this
      exact fin C G B sc sg sb hb hi hp
    | succ m ih =>
      intro C G B sc sg sb O hm hO1 hc hg hb hi hp
      cases O with
      | nil => exact fin C G B sc sg sb hb hi hp
      | cons x O =>
        obtain ⟨c, rfl, hCc⟩ := hi.o x (by simp)
        have hcl := ((hi.c c).1 hCc).1
        have hcard := @card_le l.length C
        obtain ⟨q1, q2, q3⟩ := hacc c hcl
        have kbh : k_clash_behind p l (c : Int) = true := by
          unfold k_clash_behind
          rw [Int.toNat_natCast, q3, decide_eq_true ⟨by omega, by omega, by omega⟩, decide_eq_true ⟨q1, q2⟩]; rfl
        have e0 : List.getD ((c : Int) :: O) 0 (dflt (.int .i64)) = (c : Int) := rfl
        have g1 : decide (Int.ofNat ((c : Int) :: O).length > (0 : Int)) = true := decide_eq_true (by simp <;> omega)
        have g2 : decide ((0 : Int) < Int.ofNat ((c : Int) :: O).length) = true := decide_eq_true (by simp <;> omega)
        have g3 : Nat.ble 1 ((c : Int) :: O).length = true := Nat.ble_eq_true_of_le (by simp)
        rw [goes_jmp, hT, T_clash_Back, ← hT, goes_br, if_pos g1, goes_br, if_pos g2, goes_br, if_pos g3, e0, goes_br, if_pos kbh]
        obtain ⟨L, hL⟩ : ∃ L, v_clash_behind p l (c : Int) = L := ⟨_, rfl⟩
        have hLm : ∀ y, y ∈ L ↔ ∃ d : Nat, d < l.length ∧ behB p l c d = true ∧ y = (d : Int) := fun y => by rw [← hL]; unfold v_clash_behind; rw [Int.toNat_natCast]; exact listOf_mem
        have hLl : L.length ≤ l.length := by rw [← hL]; unfold v_clash_behind; rw [listOf_length]; exact card_le
        rw [hL, show List.drop 1 ((c : Int) :: O) = O from rfl]
        have inner : ∀ h, h ≤ L.length → ∀ (C G B : Nat → Bool) (sc sg sb : SetT) (O : List Int), 2 * (l.length - card l.length C) + O.length ≤ m → O.length ≤ card l.length C → SetOK sc l.length C → SetOK sg l.length G → SetOK sb l.length B → BInv p l a C G B O → C c = true →
            (∀ c', C c' = true → c' ≠ c → (c' : Int) ∈ O ∨ ∀ d, behB p l c' d = true → G d = true) → (∀ d, behB p l c d = true → G d = true ∨ (d : Int) ∈ L.drop h) →
            Goes T (.jmp (.l17 (Int.ofNat L.length) l L sb.1 O (thA l a) (a : Int) sb.2 sc.1 sc.2 (h : Int) sg.1 sg.2)) (listOf l.length (backB p l a)) := by
          refine down ?_ fun h hh ih2 => ?_
          · intro C G B sc sg sb O hm hO1 hc hg hb hi hCc hp hcur
            rw [goes_jmp, hT, T_clash_Back, ← hT, goes_br, if_neg (by simp)]
            refine ih C G B sc sg sb O hm hO1 hc hg hb hi fun c' hc' => ?_
            by_cases e : c' = c
            · subst e
              right
              intro d hd
              rcases hcur d hd with h1 | h1
              · exact h1
              · rw [List.drop_length] at h1; cases h1
            · exact hp c' hc' e
          · intro C G B sc sg sb O hm hO1 hc hg hb hi hCc hp hcur
            obtain ⟨d, hd, hbd, hde⟩ := (hLm L[h]).1 (List.getElem_mem hh)
            have hcard := @card_le l.length C
            obtain ⟨p1, p2⟩ := hg.putO (by omega) hd
            have hput : v_bits_Set_Put (sg.1, sg.2) (d : Int) = putS sg (d : Int) := rfl
            have hkb := kb d (sc.1, sc.2) O (sb.1, sb.2) hd (by omega)
            rw [goes_jmp, hT, T_clash_Back, ← hT, goes_br, if_pos (lt_len hh), goes_br, if_pos (bound_len hh), Int.toNat_natCast, getD_lt hh, hde, hput, wrap_succ (by omega), goes_br]
            have hdrop := drop_cons hh
            cases hGd : G d with
            | true =>
              rw [hGd] at p1
              rw [if_neg (by rw [p1]; decide)]
              have e : ∀ k, (G k || (k == d)) = G k := fun k => by
                by_cases hk : k = d
                · subst hk; rw [hGd]; rfl
                · have : (k == d) = false := by simpa using hk
                  rw [this, Bool.or_false]
              refine ih2 C G B sc _ sb O hm hO1 hc (p2.congr' e) hb hi hCc hp fun d' hd' => ?_
              rcases hcur d' hd' with h1 | h1
              · exact .inl h1
              · rw [hdrop] at h1
                rcases List.mem_cons.1 h1 with h1 | h1
                · rw [hde] at h1
                  have : d' = d := by omega
                  subst this
                  exact .inl hGd
                · exact .inr h1
            | false =>
              rw [hGd] at p1
              rw [if_pos (by rw [p1]; rfl), goes_br, if_pos hkb]
              obtain ⟨C', B', b1, b2, b3, b4, b5, b6, b7, b8⟩ := meetF_ok (l := l) (x := d) (own := thA l a) (a := (a : Int)) l.length 0 (sc, O, sb) C B (by omega) (by omega) hc hb
              have hv : v_clash_Back_1 (d : Int) l (thA l a) (sc.1, sc.2) O (a : Int) (sb.1, sb.2) = (l, thA l a, (meetF l (d : Int) (thA l a) (a : Int) (List.range' 0 l.length) (sc, O, sb)).1, (meetF l (d : Int) (thA l a) (a : Int) (List.range' 0 l.length) (sc, O, sb)).2.1, (a : Int), (meetF l (d : Int) (thA l a) (a : Int) (List.range' 0 l.length) (sc, O, sb)).2.2) := rfl
              rw [hv]
              generalize meetF l (d : Int) (thA l a) (a : Int) (List.range' 0 l.length) (sc, O, sb) = R at *
              have hi' := hi.meet (O' := R.2.1) hCc hbd hd b3 b4 b6
              have hcl2 := @card_le l.length C'
              simp only at b5 b6 b7 b8
              have b8' : R.2.1.length + card l.length C = O.length + card l.length C' := b8
              have hcm : card l.length C ≤ card l.length C' := card_mono fun j h => (b3 j).2 (.inl h)
              have m1 : 2 * (l.length - card l.length C') + R.2.1.length ≤ m := by omega
              have m2 : R.2.1.length ≤ card l.length C' := by omega
              refine ih2 C' _ B' R.1 _ R.2.2 R.2.1 m1 m2 b1 p2 b2 hi' ((b3 c).2 (.inl hCc)) (fun c' hc' hne => ?_) fun d' hd' => ?_
              · rcases b7 c' hc' with h1 | h1
                · rcases hp c' h1 hne with h2 | h2
                  · exact .inl (b5 _ h2)
                  · exact .inr fun d'' hd'' => by rw [h2 d'' hd'']; rfl
                · exact .inl h1
              · rcases hcur d' hd' with h1 | h1
                · left; rw [h1]; rfl
                · rw [hdrop] at h1
                  rcases List.mem_cons.1 h1 with h1 | h1
                  · rw [hde] at h1
                    have : d' = d := by omega
                    subst this
                    left; simp
                  · exact .inr h1
        refine inner 0 (Nat.zero_le _) C G B sc sg sb O (by simp at hm; omega) (by simp at hO1; omega) hc hg hb ⟨hi.c, hi.g, fun y hy => hi.o y (List.mem_cons_of_mem _ hy), hi.b, hi.s⟩ hCc (fun c' hc' hne => ?_) fun d hd => ?_
        · rcases hp c' hc' with h1 | h1
          · rcases List.mem_cons.1 h1 with h1 | h1
            · exact absurd (by omega) hne
            · exact .inl h1
          · exact .inr h1
        · exact .inr (by rw [List.drop_zero]; exact (hLm _).2 ⟨d, (behB_lt hd).1, hd, rfl⟩)
  -- the first meeting
  rw [if_pos (kb a _ [] _ ha (by simp))]
  obtain ⟨C', B', b1, b2, b3, b4, b5, b6, b7, b8⟩ := meetF_ok (l := l) (x := a) (own := thA l a) (a := (a : Int)) l.length 0 ((((l.length : Nat) : Int), []), [], (((l.length : Nat) : Int), [])) (fun _ => false) (fun _ => false) (by omega) (by omega) (SetOK.new _) (SetOK.new _)
  have hv : v_clash_Back_1 (a : Int) l (thA l a) (((l.length : Nat) : Int), []) [] (a : Int) (((l.length : Nat) : Int), []) = (l, thA l a, (meetF l (a : Int) (thA l a) (a : Int) (List.range' 0 l.length) ((((l.length : Nat) : Int), []), [], (((l.length : Nat) : Int), []))).1, (meetF l (a : Int) (thA l a) (a : Int) (List.range' 0 l.length) ((((l.length : Nat) : Int), []), [], (((l.length : Nat) : Int), []))).2.1, (a : Int), (meetF l (a : Int) (thA l a) (a : Int) (List.range' 0 l.length) ((((l.length : Nat) : Int), []), [], (((l.length : Nat) : Int), []))).2.2) := rfl
  rw [hv]
  generalize meetF l (a : Int) (thA l a) (a : Int) (List.range' 0 l.length) ((((l.length : Nat) : Int), []), [], (((l.length : Nat) : Int), [])) = R at *
  simp only at b5 b6 b7 b8
  have hcl2 := @card_le l.length C'
  have h00 : card l.length (fun _ => false) = 0 := by unfold card; simp
  rw [h00] at b8
  refine loop _ C' (fun _ => false) B' R.1 (((l.length : Nat) : Int), []) R.2.2 R.2.1 (Nat.le_refl _) (by simp at b8; omega) b1 (SetOK.new _) b2 ⟨fun c => ?_, fun d hd => (by cases hd), fun y hy => ?_, fun b => ?_, fun d hd => (by cases hd)⟩ fun c hc => ?_
  · rw [b3]
    constructor
    · rintro (h | ⟨_, h1, h2, h3⟩)
      · cases h
      · exact ⟨by omega, h3, .inl h2⟩
    · rintro ⟨h1, h2, h3 | ⟨k, hk, _⟩⟩
      · exact .inr ⟨Nat.zero_le _, by omega, h3, h2⟩
      · cases hk
  · rcases b6 y hy with h | h
    · cases h
    · exact h
  · rw [b4]
    constructor
    · rintro (h | ⟨_, _, _, _, h⟩)
      · cases h
      · exact absurd rfl h
    · rintro ⟨_, _, k, hk, _⟩
      cases hk
  · rcases b7 c hc with h | h
    · cases h
    · exact .inl h
end Go.Ev
end

section
set_option linter.unusedSectionVars false
set_option linter.unusedVariables false
set_option linter.unusedSimpArgs false
set_option maxRecDepth 100000
set_option linter.unusedVariables false
open Go Go.Ev
namespace Go.Ev
noncomputable section
noncomputable def e_clash_Back : Run := entG sg_clash_Back R_clash_Back (fun a => k_clash_Back a.1 a.2.1) (fun a => v_clash_Back a.1 a.2.1)
theorem ok_clash_Back : EntOK Go.Proofs.Tryz.prog 19 e_clash_Back := entG_ok (tb := tb_clash_Back) (c := c_clash_Back) tk_clash_Back (by kernel_rfl) (by kernel_rfl) (by kernel_rfl) (fun a => by kernel_rfl) fun ⟨p, a, _⟩ hk => evF_goes (c := c_clash_Back) (K := fun v => (R_clash_Back v, tps (toForms sg_clash_Back (p, a, ())))) (S := S_clash_Back p a) (by kernel_rfl) (en_clash_Back p a) (lp_clash_Back p a) (g_clash_Back p a hk)
end
end Go.Ev
end

section
set_option linter.unusedSectionVars false
set_option linter.unusedVariables false
set_option linter.unusedSimpArgs false
set_option maxRecDepth 100000
set_option linter.unusedVariables false
open Go Go.Ev
namespace Go.Ev
noncomputable section
/-! ### paling/palingref1.Leads -/
def sg_ref1_Leads : Sig := [(true, T_api_Ins)]
noncomputable def t_ref1_Leads : Tbl := [(57, e_ref1_InsRight), (79, e_ref1_Jumps)]
theorem tk_ref1_Leads : ∀ p ∈ t_ref1_Leads, EntOK Go.Proofs.Tryz.prog p.1 p.2 := tbl_cons ok_ref1_InsRight (tbl_cons ok_ref1_Jumps (tbl_nil))
noncomputable def c_ref1_Leads : Code := Go.Proofs.Tryz.f94.body.getD .skip
def tb_ref1_Leads : Tb := []
def T_ref1_Leads (i : El T_api_Ins) : Empty → JT Empty (Bool × Bool) := fun j => nomatch j
def T0_ref1_Leads (i : El T_api_Ins) : JT Empty (Bool × Bool) :=
  .br (k_ref1_InsRight i)
    (.br ((v_ref1_InsRight i) != (0 : Int))
      (.leaf (false, false))
    (.br (i.1 != (10 : Int))
      (.leaf ((i.1 != (14 : Int)), (v_ref1_Jumps i.1)))
    (.leaf (false, (v_ref1_Jumps i.1)))))
  (.no)
def v_ref1_Leads (i : El T_api_Ins) : Bool × Bool :=
  bif (k_ref1_InsRight i) then
    bif ((v_ref1_InsRight i) != (0 : Int)) then
      (false, false)
    else bif (i.1 != (10 : Int)) then
      ((i.1 != (14 : Int)), (v_ref1_Jumps i.1))
    else (false, (v_ref1_Jumps i.1))
  else (false, false)
def k_ref1_Leads (i : El T_api_Ins) : Bool :=
  bif (k_ref1_InsRight i) then
    bif ((v_ref1_InsRight i) != (0 : Int)) then
      true
    else bif (i.1 != (10 : Int)) then
      true
    else true
  else false
theorem g_ref1_Leads (i : El T_api_Ins) (hk : k_ref1_Leads i = true) : Goes (T_ref1_Leads i) (T0_ref1_Leads i) (v_ref1_Leads i) :=
  Goes.brk hk (fun hk =>
    Goes.brk hk (fun hk =>
      Goes.leaf) (fun hk =>
      Goes.brk hk (fun hk =>
        Goes.leaf) (fun hk =>
        Goes.leaf))) (fun hk =>
    Goes.nok hk)
def R_ref1_Leads : Bool × Bool → AV := fun (r : Bool × Bool) => .tu [.d .bool r.1, .d .bool r.2]
def S_ref1_Leads (i : El T_api_Ins) : Empty → Nat × St := fun j => nomatch j
theorem en_ref1_Leads (i : El T_api_Ins) (L : Lt) : entryA Go.Proofs.Tryz.prog (clOf t_ref1_Leads) tb_ref1_Leads Go.Proofs.Tryz.f94 c_ref1_Leads L (toForms sg_ref1_Leads (i, ())) = (T0_ref1_Leads i).run (fun v => some (R_ref1_Leads v, tps (toForms sg_ref1_Leads (i, ())))) fun j => L (S_ref1_Leads i j).1 (S_ref1_Leads i j).2 := by kernel_rfl
theorem lp_ref1_Leads (i : El T_api_Ins) : ∀ (L : Lt) (j : Empty), procOf (procsF Go.Proofs.Tryz.prog (clOf t_ref1_Leads) tb_ref1_Leads Go.Proofs.Tryz.f94 c_ref1_Leads (toForms sg_ref1_Leads (i, ()))) (S_ref1_Leads i j).1 L (S_ref1_Leads i j).2 = (T_ref1_Leads i j).run (fun v => some (R_ref1_Leads v, tps (toForms sg_ref1_Leads (i, ())))) fun j => L (S_ref1_Leads i j).1 (S_ref1_Leads i j).2 := fun L j => nomatch j
noncomputable def e_ref1_Leads : Run := entG sg_ref1_Leads R_ref1_Leads (fun a => k_ref1_Leads a.1) (fun a => v_ref1_Leads a.1)
theorem ok_ref1_Leads : EntOK Go.Proofs.Tryz.prog 94 e_ref1_Leads := entG_ok (tb := tb_ref1_Leads) (c := c_ref1_Leads) tk_ref1_Leads (by kernel_rfl) (by kernel_rfl) (by kernel_rfl) (fun a => by kernel_rfl) fun ⟨i, _⟩ hk => evF_goes (c := c_ref1_Leads) (K := fun v => (R_ref1_Leads v, tps (toForms sg_ref1_Leads (i, ())))) (S := S_ref1_Leads i) (by kernel_rfl) (en_ref1_Leads i) (lp_ref1_Leads i) (g_ref1_Leads i hk)
end
end Go.Ev
end

section
set_option linter.unusedSectionVars false
set_option linter.unusedVariables false
set_option linter.unusedSimpArgs false
set_option maxRecDepth 100000
set_option linter.unusedVariables false
open Go Go.Ev
namespace Go.Ev
noncomputable section
/-! ### paling/palingref3.next -/
def sg_ref3_next : Sig := [(true, (.sl T_api_Ins)), (false, (.int .i64))]
noncomputable def t_ref3_next : Tbl := [(94, e_ref1_Leads), (91, e_ref1_Find)]
theorem tk_ref3_next : ∀ p ∈ t_ref3_next, EntOK Go.Proofs.Tryz.prog p.1 p.2 := tbl_cons ok_ref1_Leads (tbl_cons ok_ref1_Find (tbl_nil))
noncomputable def c_ref3_next : Code := Go.Proofs.Tryz.f73.body.getD .skip
def tb_ref3_next : Tb := [(6, ⟨[1, 2, 5, 7], []⟩)]
inductive J_ref3_next where
  | l6 (jumps : Bool) (is : List Bool)
def T_ref3_next (t : List (El T_api_Ins)) (i : Int) : J_ref3_next → JT J_ref3_next (List Bool)
  | .l6 jumps is =>
    .br jumps
      (.br ((decide ((0 : Int) ≤ i)) && (decide (i < (Int.ofNat (List.length t)))))
        (.br (k_ref1_Find t (List.getD t (Int.toNat i) (dflt T_api_Ins)).2.2.2.2.2.1)
          (.br (decide ((v_ref1_Find t (List.getD t (Int.toNat i) (dflt T_api_Ins)).2.2.2.2.2.1) ≥ (0 : Int)))
            (.br ((decide ((0 : Int) ≤ (v_ref1_Find t (List.getD t (Int.toNat i) (dflt T_api_Ins)).2.2.2.2.2.1))) && (decide ((v_ref1_Find t (List.getD t (Int.toNat i) (dflt T_api_Ins)).2.2.2.2.2.1) < (Int.ofNat (List.length is)))))
              (.leaf (List.set is (Int.toNat (v_ref1_Find t (List.getD t (Int.toNat i) (dflt T_api_Ins)).2.2.2.2.2.1)) true))
            (.no))
          (.leaf is))
        (.no))
      (.no))
    (.leaf is)
def T0_ref3_next (t : List (El T_api_Ins)) (i : Int) : JT J_ref3_next (List Bool) :=
  .br ((((Int.ofNat (List.length t)) == (Int.ofNat (List.length t))) && (decide ((0 : Int) ≤ (Int.ofNat (List.length t))))) && (decide (((Int.ofNat (List.length t)) * (1 : Int)) ≤ (limit : Int))))
    (.br (decide (i < (0 : Int)))
      (.leaf (List.replicate (List.length t) false))
    (.br (decide (i ≥ (Int.ofNat (List.length t))))
      (.leaf (List.replicate (List.length t) false))
    (.br ((decide ((0 : Int) ≤ i)) && (decide (i < (Int.ofNat (List.length t)))))
      (.br (k_ref1_Leads (List.getD t (Int.toNat i) (dflt T_api_Ins)))
        (.br (v_ref1_Leads (List.getD t (Int.toNat i) (dflt T_api_Ins))).1
          (.br (decide ((IntKind.i64.wrap (i + (1 : Int))) < (Int.ofNat (List.length t))))
            (.br ((decide ((0 : Int) ≤ (IntKind.i64.wrap (i + (1 : Int))))) && (decide ((IntKind.i64.wrap (i + (1 : Int))) < (Int.ofNat (List.length (List.replicate (List.length t) false))))))
              (.jmp (.l6 (v_ref1_Leads (List.getD t (Int.toNat i) (dflt T_api_Ins))).2 (List.set (List.replicate (List.length t) false) (Int.toNat (IntKind.i64.wrap (i + (1 : Int)))) true)))
            (.no))
          (.jmp (.l6 (v_ref1_Leads (List.getD t (Int.toNat i) (dflt T_api_Ins))).2 (List.replicate (List.length t) false))))
        (.jmp (.l6 (v_ref1_Leads (List.getD t (Int.toNat i) (dflt T_api_Ins))).2 (List.replicate (List.length t) false))))
      (.no))
    (.no))))
  (.no)
def R_ref3_next : List Bool → AV := fun (r : List Bool) => .rw 4 .bool r
def S_ref3_next (t : List (El T_api_Ins)) (i : Int) : J_ref3_next → Nat × St
  | .l6 jumps is => (6, ⟨mkTm 60 [(1, .d (.int .i64) i), (2, .pt 3 0 0), (5, .own 6 0 none), (7, .d .bool jumps)], [(3, 0, .box 48 [.d (.sl T_api_Ins) t] none), (6, 0, .row 4 .bool is false)]⟩)
theorem en_ref3_next (t : List (El T_api_Ins)) (i : Int) (L : Lt) : entryA Go.Proofs.Tryz.prog (clOf t_ref3_next) tb_ref3_next Go.Proofs.Tryz.f73 c_ref3_next L (toForms sg_ref3_next (t, i, ())) = (T0_ref3_next t i).run (fun v => some (R_ref3_next v, tps (toForms sg_ref3_next (t, i, ())))) fun j => L (S_ref3_next t i j).1 (S_ref3_next t i j).2 := by kernel_rfl
theorem lp_ref3_next (t : List (El T_api_Ins)) (i : Int) : ∀ (L : Lt) (j : J_ref3_next), procOf (procsF Go.Proofs.Tryz.prog (clOf t_ref3_next) tb_ref3_next Go.Proofs.Tryz.f73 c_ref3_next (toForms sg_ref3_next (t, i, ()))) (S_ref3_next t i j).1 L (S_ref3_next t i j).2 = (T_ref3_next t i j).run (fun v => some (R_ref3_next v, tps (toForms sg_ref3_next (t, i, ())))) fun j => L (S_ref3_next t i j).1 (S_ref3_next t i j).2
  | L, .l6 jumps is => by kernel_rfl
end
end Go.Ev
end

section
set_option linter.unusedSectionVars false
set_option linter.unusedVariables false
set_option linter.unusedSimpArgs false
/- Both texts tell the same of where an instruction leads. -/
set_option maxRecDepth 100000
set_option linter.unusedVariables false
set_option linter.unusedSimpArgs false
open Go
namespace Go.Ev
theorem k_refLeads' {i : El T_api_Ins} (h : smallText i.2.2.2.2.2.1 = true) : k_ref1_Leads i = true := by
  have h1 : k_ref1_InsRight i = true := h
  unfold k_ref1_Leads
  simp only [h1, cond_true, Bool.cond_self]
theorem leads_eq' {i : El T_api_Ins} (h : smallText i.2.2.2.2.2.1 = true) : v_ref1_Leads i = v_ins_Leads i := by
  have h0 : k_ins_Right i = true := h
  have h1 : k_ref1_InsRight i = true := h
  unfold v_ref1_Leads v_ins_Leads v_ref1_InsRight v_ref1_Jumps
  simp only [h0, h1, cond_true]
  cases h10 : ((show Int from i.1) == 10) with
  | true => simp only [cond_true, bne, h10, Bool.not_true, cond_false]
  | false => simp only [cond_true, bne, h10, Bool.not_false, cond_false]
end Go.Ev
end

section
set_option linter.unusedSectionVars false
set_option linter.unusedVariables false
set_option linter.unusedSimpArgs false
set_option maxRecDepth 100000
set_option linter.unusedVariables false
set_option linter.unusedSimpArgs false
open Go
namespace Go.Ev
/-- What is so, as a row. -/
def rowOf (n : Nat) (M : Nat → Bool) : List Bool := (List.range n).map M
theorem rowOf_length {n : Nat} {M : Nat → Bool} : (rowOf n M).length = n := by simp [rowOf]
theorem rowOf_get {n : Nat} {M : Nat → Bool} {i : Nat} (h : i < n) : (rowOf n M)[i]? = some (M i) := by simp [rowOf, h]
theorem rowOf_set {n : Nat} {M : Nat → Bool} {i : Nat} : (rowOf n M).set i true = rowOf n fun j => M j || (j == i) := by
  apply List.ext_getElem?
  intro j
  rw [List.getElem?_set, rowOf_length]
  by_cases hj : j < n
  · rw [rowOf_get hj, rowOf_get hj]
    by_cases hi : i = j
    · subst hi; rw [if_pos rfl, if_pos hj]; simp
    · rw [if_neg hi]
      have : (j == i) = false := by simp; omega
      rw [this, Bool.or_false]
  · rw [List.getElem?_eq_none (by rw [rowOf_length]; omega), List.getElem?_eq_none (by rw [rowOf_length]; omega)]
    by_cases hi : i = j
    · rw [if_pos hi, if_neg (by omega)]
    · rw [if_neg hi]
theorem rowOf_congr {n : Nat} {M M' : Nat → Bool} (h : ∀ i, i < n → M i = M' i) : rowOf n M = rowOf n M' := List.map_congr_left fun i hi => h i (List.mem_range.1 hi)
theorem rowOf_none {n : Nat} : List.replicate n false = rowOf n fun _ => false := by
  apply List.ext_getElem?
  intro j
  by_cases hj : j < n
  · rw [rowOf_get hj]; simp [hj]
  · rw [List.getElem?_eq_none (by simp; omega), List.getElem?_eq_none (by rw [rowOf_length]; omega)]
def v_ref3_next (t : List (El T_api_Ins)) (i : Int) : List Bool := rowOf t.length (nextB t i)
def k_ref3_next (t : List (El T_api_Ins)) (i : Int) : Bool := flowOK t
theorem g_ref3_next (t : List (El T_api_Ins)) (i : Int) (hk : k_ref3_next t i = true) : Goes (T_ref3_next t i) (T0_ref3_next t i) (v_ref3_next t i) := by
  have hlen := flowOK_len hk
  have hout : ∀ i, ¬ (0 ≤ i ∧ i < (t.length : Int)) → List.replicate t.length false = rowOf t.length (nextB t i) := fun i h => by
    rw [rowOf_none]
    refine rowOf_congr fun j hj => ?_
    unfold nextB
    rw [decide_eq_false (fun hh => h ⟨hh.1, hh.2.1⟩), Bool.false_and]
  unfold T0_ref3_next v_ref3_next
  rw [goes_br, if_pos (by unfold limit; simp; omega), goes_br]
  by_cases h0 : i < 0
  · rw [if_pos (decide_eq_true h0), ← hout i (fun h => by omega)]; exact .leaf
  rw [if_neg (by simpa using h0), goes_br]
  obtain ⟨j, rfl⟩ := Int.eq_ofNat_of_zero_le (show 0 ≤ i by omega)
  by_cases h1 : (t.length : Int) ≤ (j : Int)
  · rw [if_pos (decide_eq_true (show (j : Int) ≥ Int.ofNat t.length from h1)), ← hout _ (fun h => by omega)]; exact .leaf
  have hj : j < t.length := by omega
  rw [if_neg (by simp; omega), goes_br, if_pos (bound_len hj), goes_br, Int.toNat_natCast]
  have hmem : t.getD j (dflt T_api_Ins) ∈ t := by rw [getD_lt hj]; exact List.getElem_mem hj
  have hsm := flowOK_text hk hmem
  rw [if_pos (k_refLeads' hsm), leads_eq' hsm]
  have kf : k_ref1_Find t (t.getD j (dflt T_api_Ins)).2.2.2.2.2.1 = true := flowOK_find hk
  have vf : v_ref1_Find t (t.getD j (dflt T_api_Ins)).2.2.2.2.2.1 = findI (t.getD j (dflt T_api_Ins)).2.2.2.2.2.1 t 0 := rfl
  have hw : IntKind.i64.wrap ((j : Int) + 1) = ((j + 1 : Nat) : Int) := wrap_succ (by omega)
  have hr := @toOf_lt t j
  -- the jump
  have l6 : ∀ (M : Nat → Bool), Goes (T_ref3_next t (j : Int)) (.jmp (.l6 (v_ins_Leads (t.getD j (dflt T_api_Ins))).2 (rowOf t.length M))) (rowOf t.length fun k => M k || decide (toOf t j = (k : Int))) := by
    intro M
    rw [goes_jmp, T_ref3_next, goes_br]
    by_cases hjmp : (v_ins_Leads (t.getD j (dflt T_api_Ins))).2 = true
    · have hto : toOf t j = findI (t.getD j (dflt T_api_Ins)).2.2.2.2.2.1 t 0 := by unfold toOf; rw [if_pos hjmp]
      rw [hto] at hr
      rw [if_pos hjmp, goes_br, if_pos (bound_len hj), goes_br, Int.toNat_natCast, if_pos kf, goes_br, vf, hto]
      generalize findI (t.getD j (dflt T_api_Ins)).2.2.2.2.2.1 t 0 = to at hr
      by_cases h2 : to ≥ 0
      · obtain ⟨k, rfl⟩ := Int.eq_ofNat_of_zero_le h2
        rw [if_pos (decide_eq_true h2), goes_br, if_pos (by rw [rowOf_length]; exact bound_len (by omega)), Int.toNat_natCast, rowOf_set]
        rw [show (rowOf t.length fun l => M l || decide ((k : Int) = (l : Int))) = rowOf t.length fun l => M l || (l == k) from rowOf_congr fun l _ => by
          congr 1
          rw [Bool.eq_iff_iff]; simp; omega]
        exact .leaf
      · rw [if_neg (by simpa using h2)]
        rw [show (rowOf t.length fun l => M l || decide (to = (l : Int))) = rowOf t.length M from rowOf_congr fun l _ => by
          rw [decide_eq_false (by omega), Bool.or_false]]
        exact .leaf
    · have hto : toOf t j = -1 := by unfold toOf; rw [if_neg hjmp]
      rw [if_neg hjmp, hto]
      rw [show (rowOf t.length fun l => M l || decide ((-1 : Int) = (l : Int))) = rowOf t.length M from rowOf_congr fun l _ => by
          rw [decide_eq_false (by omega), Bool.or_false]]
      exact .leaf
  have hB : ∀ k, k < t.length → nextB t (j : Int) k = ((onOf t j && decide ((k : Int) = (j : Int) + 1)) || decide (toOf t j = (k : Int))) := fun k hk => by
    unfold nextB
    rw [decide_eq_true (by omega), Bool.true_and, Int.toNat_natCast]
  rw [rowOf_none, goes_br]
  by_cases hon : (v_ins_Leads (t.getD j (dflt T_api_Ins))).1 = true
  · have hon' : onOf t j = true := hon
    rw [if_pos hon, goes_br, hw]
    by_cases hin : j + 1 < t.length
    · rw [if_pos (lt_len hin), goes_br, rowOf_length, if_pos (bound_len hin), Int.toNat_natCast, rowOf_set]
      have := l6 fun k => false || (k == j + 1)
      rw [show rowOf t.length (nextB t (j : Int)) = rowOf t.length fun k => (false || (k == j + 1)) || decide (toOf t j = (k : Int)) from rowOf_congr fun k hk => by
        rw [hB k hk, hon', Bool.true_and, Bool.false_or]
        congr 1
        rw [Bool.eq_iff_iff]; simp; omega]
      exact this
    · rw [if_neg (by rw [lt_len_not hin]; decide)]
      have := l6 fun _ => false
      rw [show rowOf t.length (nextB t (j : Int)) = rowOf t.length fun k => false || decide (toOf t j = (k : Int)) from rowOf_congr fun k hk => by
        rw [hB k hk, hon', Bool.true_and, decide_eq_false (show ¬ (k : Int) = (j : Int) + 1 by omega)]]
      exact this
  · have hon' : onOf t j = false := Bool.eq_false_iff.2 hon
    rw [if_neg hon]
    have := l6 fun _ => false
    rw [show rowOf t.length (nextB t (j : Int)) = rowOf t.length fun k => false || decide (toOf t j = (k : Int)) from rowOf_congr fun k hk => by
      rw [hB k hk, hon', Bool.false_and]]
    exact this
end Go.Ev
end

section
set_option linter.unusedSectionVars false
set_option linter.unusedVariables false
set_option linter.unusedSimpArgs false
set_option maxRecDepth 100000
set_option linter.unusedVariables false
open Go Go.Ev
namespace Go.Ev
noncomputable section
noncomputable def e_ref3_next : Run := entG sg_ref3_next R_ref3_next (fun a => k_ref3_next a.1 a.2.1) (fun a => v_ref3_next a.1 a.2.1)
theorem ok_ref3_next : EntOK Go.Proofs.Tryz.prog 73 e_ref3_next := entG_ok (tb := tb_ref3_next) (c := c_ref3_next) tk_ref3_next (by kernel_rfl) (by kernel_rfl) (by kernel_rfl) (fun a => by kernel_rfl) fun ⟨t, i, _⟩ hk => evF_goes (c := c_ref3_next) (K := fun v => (R_ref3_next v, tps (toForms sg_ref3_next (t, i, ())))) (S := S_ref3_next t i) (by kernel_rfl) (en_ref3_next t i) (lp_ref3_next t i) (g_ref3_next t i hk)
end
end Go.Ev
end

section
set_option linter.unusedSectionVars false
set_option linter.unusedVariables false
set_option linter.unusedSimpArgs false
set_option maxRecDepth 100000
set_option linter.unusedVariables false
open Go Go.Ev
namespace Go.Ev
noncomputable section
/-! ### paling/palingref3.from -/
def sg_ref3_from : Sig := [(true, (.sl T_api_Ins)), (false, (.int .i64))]
noncomputable def t_ref3_from : Tbl := [(73, e_ref3_next)]
theorem tk_ref3_from : ∀ p ∈ t_ref3_from, EntOK Go.Proofs.Tryz.prog p.1 p.2 := tbl_cons ok_ref3_next (tbl_nil)
noncomputable def c_ref3_from : Code := Go.Proofs.Tryz.f49.body.getD .skip
def tb_ref3_from : Tb := [(4, ⟨[2, 5, 6], []⟩), (9, ⟨[2, 5, 6, 7], []⟩), (17, ⟨[2, 5, 6, 7, 8, 9], []⟩)]
inductive J_ref3_from where
  | l4 (moved : Bool) (is : List Bool)
  | l9 (k : Int) (moved : Bool) (is : List Bool)
  | l17 (k : Int) (more : List Bool) (moved : Bool) (j_ : Int) (is : List Bool)
def T_ref3_from (t : List (El T_api_Ins)) (i : Int) : J_ref3_from → JT J_ref3_from (List Bool)
  | .l4 moved is =>
    .br moved
      (.jmp (.l9 (0 : Int) false is))
    (.leaf is)
  | .l9 k moved is =>
    .br (decide (k < (Int.ofNat (List.length is))))
      (.br ((decide ((0 : Int) ≤ k)) && (decide (k < (Int.ofNat (List.length is)))))
        (.br (! (List.getD is (Int.toNat k) (dflt .bool)))
          (.jmp (.l9 (IntKind.i64.wrap (k + (1 : Int))) moved is))
        (.br (k_ref3_next t k)
          (.jmp (.l17 k (v_ref3_next t k) moved (0 : Int) is))
        (.no)))
      (.no))
    (.jmp (.l4 moved is))
  | .l17 k more moved j_ is =>
    .br (decide (j_ < (Int.ofNat (List.length is))))
      (.br ((decide ((0 : Int) ≤ j_)) && (decide (j_ < (Int.ofNat (List.length more)))))
        (.br (List.getD more (Int.toNat j_) (dflt .bool))
          (.br ((decide ((0 : Int) ≤ j_)) && (decide (j_ < (Int.ofNat (List.length is)))))
            (.br (! (List.getD is (Int.toNat j_) (dflt .bool)))
              (.br ((decide ((0 : Int) ≤ j_)) && (decide (j_ < (Int.ofNat (List.length is)))))
                (.jmp (.l17 k more true (IntKind.i64.wrap (j_ + (1 : Int))) (List.set is (Int.toNat j_) true)))
              (.no))
            (.jmp (.l17 k more moved (IntKind.i64.wrap (j_ + (1 : Int))) is)))
          (.no))
        (.jmp (.l17 k more moved (IntKind.i64.wrap (j_ + (1 : Int))) is)))
      (.no))
    (.jmp (.l9 (IntKind.i64.wrap (k + (1 : Int))) moved is))
def T0_ref3_from (t : List (El T_api_Ins)) (i : Int) : JT J_ref3_from (List Bool) :=
  .br (k_ref3_next t i)
    (.jmp (.l4 true (v_ref3_next t i)))
  (.no)
def R_ref3_from : List Bool → AV := fun (r : List Bool) => .rw 4 .bool r
def S_ref3_from (t : List (El T_api_Ins)) (i : Int) : J_ref3_from → Nat × St
  | .l4 moved is => (4, ⟨mkTm 49 [(2, .pt 3 0 0), (5, .own 6 0 none), (6, .d .bool moved)], [(3, 0, .box 48 [.d (.sl T_api_Ins) t] none), (6, 0, .row 4 .bool is false)]⟩)
  | .l9 k moved is => (9, ⟨mkTm 49 [(2, .pt 3 0 0), (5, .own 6 0 none), (6, .d .bool moved), (7, .d (.int .i64) k)], [(3, 0, .box 48 [.d (.sl T_api_Ins) t] none), (6, 0, .row 4 .bool is false)]⟩)
  | .l17 k more moved j_ is => (17, ⟨mkTm 49 [(2, .pt 3 0 0), (5, .own 6 0 none), (6, .d .bool moved), (7, .d (.int .i64) k), (8, .own 9 0 none), (9, .d (.int .i64) j_)], [(3, 0, .box 48 [.d (.sl T_api_Ins) t] none), (6, 0, .row 4 .bool is false), (9, 0, .row 4 .bool more false)]⟩)
theorem en_ref3_from (t : List (El T_api_Ins)) (i : Int) (L : Lt) : entryA Go.Proofs.Tryz.prog (clOf t_ref3_from) tb_ref3_from Go.Proofs.Tryz.f49 c_ref3_from L (toForms sg_ref3_from (t, i, ())) = (T0_ref3_from t i).run (fun v => some (R_ref3_from v, tps (toForms sg_ref3_from (t, i, ())))) fun j => L (S_ref3_from t i j).1 (S_ref3_from t i j).2 := by kernel_rfl
theorem lp_ref3_from (t : List (El T_api_Ins)) (i : Int) : ∀ (L : Lt) (j : J_ref3_from), procOf (procsF Go.Proofs.Tryz.prog (clOf t_ref3_from) tb_ref3_from Go.Proofs.Tryz.f49 c_ref3_from (toForms sg_ref3_from (t, i, ()))) (S_ref3_from t i j).1 L (S_ref3_from t i j).2 = (T_ref3_from t i j).run (fun v => some (R_ref3_from v, tps (toForms sg_ref3_from (t, i, ())))) fun j => L (S_ref3_from t i j).1 (S_ref3_from t i j).2
  | L, .l4 moved is => by kernel_rfl
  | L, .l9 k moved is => by kernel_rfl
  | L, .l17 k more moved j_ is => by kernel_rfl
end
end Go.Ev
end

section
set_option linter.unusedSectionVars false
set_option linter.unusedVariables false
set_option linter.unusedSimpArgs false
/- Rows of what is so. -/
set_option linter.unusedVariables false
open Go
namespace Go.Ev
theorem rowOf_getD {n : Nat} {M : Nat → Bool} {i : Nat} (h : i < n) : List.getD (rowOf n M) i (dflt .bool) = M i := by
  simp [List.getD, rowOf_get h]
end Go.Ev
end

section
set_option linter.unusedSectionVars false
set_option linter.unusedVariables false
set_option linter.unusedSimpArgs false
set_option maxRecDepth 100000
set_option linter.unusedVariables false
set_option linter.unusedSimpArgs false
open Go
namespace Go.Ev
noncomputable def v_ref3_from (t : List (El T_api_Ins)) (i : Int) : List Bool := rowOf t.length (fromB t i)
def k_ref3_from (t : List (El T_api_Ins)) (i : Int) : Bool := flowOK t
theorem g_ref3_from (t : List (El T_api_Ins)) (i : Int) (hk : k_ref3_from t i = true) : Goes (T_ref3_from t i) (T0_ref3_from t i) (v_ref3_from t i) := by
  have hlen := flowOK_len hk
  generalize hn : t.length = n at hlen
  -- what holds on the way
  let OK : (Nat → Bool) → (Nat → Bool) → Bool → Prop := fun M0 M moved => (∀ j, nextB t i j = true → M j = true) ∧ (∀ j, M j = true → Come (fun k j => nextB t (k : Int) j) (nextB t i) j) ∧ (moved = false → M = M0) ∧ (moved = true → card n M0 < card n M)
  have hltM : ∀ {M0 M moved}, OK M0 M moved → ∀ j, M j = true → j < n := fun h j hj => by
    have := come_lt (n := t.length) (fun j => nextB_lt) (fun k j => nextB_lt) (h.2.1 j hj)
    omega
  have loop : ∀ m, ∀ M : Nat → Bool, n - card n M = m → (∀ j, nextB t i j = true → M j = true) → (∀ j, M j = true → Come (fun k j => nextB t (k : Int) j) (nextB t i) j) → Goes (T_ref3_from t i) (.jmp (.l4 true (rowOf n M))) (v_ref3_from t i) := by
    intro m
    induction m using Nat.strongRecOn with
    | _ m ih =>
    intro M0 hm hA hC
    -- within an instruction's row
    have inner : ∀ k, k < n → ∀ Z : Prop, (∀ M moved, OK M0 M moved → (moved = false → Z ∧ ∀ j, nextB t (k : Int) j = true → M0 j = true) → Goes (T_ref3_from t i) (.jmp (.l9 ((k + 1 : Nat) : Int) moved (rowOf n M))) (v_ref3_from t i)) →
        ∀ j, j ≤ n → ∀ M moved, M k = true → OK M0 M moved → (moved = false → Z ∧ ∀ x, x < j → nextB t (k : Int) x = true → M0 x = true) → Goes (T_ref3_from t i) (.jmp (.l17 (k : Int) (rowOf n (nextB t (k : Int))) moved (j : Int) (rowOf n M))) (v_ref3_from t i) := by
      intro k hkn Z hz
      refine down ?_ fun j hj ih2 => ?_
      · intro M moved hMk hok hcl
        rw [goes_jmp, T_ref3_from, goes_br, rowOf_length, if_neg (by rw [lt_len_not (Nat.lt_irrefl _)]; decide), wrap_succ (by omega)]
        exact hz M moved hok fun hm => ⟨(hcl hm).1, fun j hj => (hcl hm).2 j (by have := nextB_lt hj; omega) hj⟩
      · intro M moved hMk hok hcl
        rw [goes_jmp, T_ref3_from, goes_br, rowOf_length, if_pos (lt_len hj), goes_br, rowOf_length, if_pos (bound_len hj), goes_br, Int.toNat_natCast, rowOf_getD hj, wrap_succ (by omega)]
        by_cases hN : nextB t (k : Int) j = true
        · rw [if_pos hN, goes_br, if_pos (bound_len hj), goes_br, rowOf_getD hj]
          cases hMj : M j with
          | true =>
            rw [if_neg (by decide)]
            refine ih2 M moved hMk hok fun hm => ⟨(hcl hm).1, fun x hx hxN => ?_⟩
            by_cases hxj : x = j
            · subst hxj; rw [← hok.2.2.1 hm]; exact hMj
            · exact (hcl hm).2 x (by omega) hxN
          | false =>
            rw [if_pos (by decide), goes_br, if_pos (bound_len hj), rowOf_set]
            have hca := card_add hMj hj
            refine ih2 (fun x => M x || (x == j)) true (by rw [hMk]; rfl) ⟨fun x hx => (show (M x || (x == j)) = true by rw [hok.1 x hx]; rfl), fun x hx => ?_, fun h => (by cases h), fun _ => ?_⟩ (fun h => by cases h)
            · simp only [Bool.or_eq_true, beq_iff_eq] at hx
              rcases hx with hx | hx
              · exact hok.2.1 x hx
              · subst hx; exact .step (hok.2.1 k hMk) hN
            · cases moved with
              | true => have := hok.2.2.2 rfl; omega
              | false => rw [hok.2.2.1 rfl] at hca; rw [hok.2.2.1 rfl]; omega
        · rw [if_neg hN]
          refine ih2 M moved hMk hok fun hm => ⟨(hcl hm).1, fun x hx hxN => ?_⟩
          by_cases hxj : x = j
          · subst hxj; exact absurd hxN hN
          · exact (hcl hm).2 x (by omega) hxN
    have pass : ∀ k, k ≤ n → ∀ M moved, OK M0 M moved → (moved = false → ∀ k' j, k' < k → M0 k' = true → nextB t (k' : Int) j = true → M0 j = true) → Goes (T_ref3_from t i) (.jmp (.l9 (k : Int) moved (rowOf n M))) (v_ref3_from t i) := by
      refine down ?_ fun k hkn ih2 => ?_
      · intro M moved hok hcl
        rw [goes_jmp, T_ref3_from, goes_br, rowOf_length, if_neg (by rw [lt_len_not (Nat.lt_irrefl _)]; decide)]
        cases moved with
        | true =>
          have h1 := hok.2.2.2 rfl
          have h2 := @card_le n M
          exact ih (n - card n M) (by omega) M rfl hok.1 hok.2.1
        | false =>
          have e := hok.2.2.1 rfl
          subst e
          rw [goes_jmp, T_ref3_from, goes_br, if_neg (by decide)]
          have hv : rowOf n M = v_ref3_from t i := by
            unfold v_ref3_from fromB
            rw [hn]
            exact rowOf_congr fun j _ => comeB_eq hok.1 (fun k j hk hj => hcl rfl k j (hltM hok k hk) hk hj) hok.2.1 j
          rw [hv]; exact .leaf
      · intro M moved hok hcl
        rw [goes_jmp, T_ref3_from, goes_br, rowOf_length, if_pos (lt_len hkn), goes_br, if_pos (bound_len hkn), goes_br, Int.toNat_natCast, rowOf_getD hkn]
        cases hMk : M k with
        | false =>
          rw [if_pos (by decide), wrap_succ (by omega)]
          refine ih2 M moved hok fun hm k' j hk' hk1 hj => ?_
          by_cases e : k' = k
          · subst e; rw [← hok.2.2.1 hm, hMk] at hk1; cases hk1
          · exact hcl hm k' j (by omega) hk1 hj
        | true =>
          have kn : k_ref3_next t (k : Int) = true := hk
          rw [if_neg (by decide), goes_br, if_pos kn]
          have hvn : v_ref3_next t (k : Int) = rowOf n (nextB t (k : Int)) := by unfold v_ref3_next; rw [hn]
          rw [hvn]
          refine inner k hkn (∀ k' j, k' < k → M0 k' = true → nextB t (k' : Int) j = true → M0 j = true) (fun M' moved' hok' hcl' => ih2 M' moved' hok' fun hm k' j hk' hk1 hj => ?_) 0 (Nat.zero_le _) M moved hMk hok (fun hm => ⟨hcl hm, fun x hx => by omega⟩)
          by_cases e : k' = k
          · subst e; exact (hcl' hm).2 j hj
          · exact (hcl' hm).1 k' j (by omega) hk1 hj
    rw [goes_jmp, T_ref3_from, goes_br, if_pos rfl]
    exact pass 0 (Nat.zero_le _) M0 false ⟨hA, hC, fun _ => rfl, fun h => by cases h⟩ fun _ k' j h => by omega
  have kn : k_ref3_next t i = true := hk
  unfold T0_ref3_from
  rw [goes_br, if_pos kn]
  have hvn : v_ref3_next t i = rowOf n (nextB t i) := by unfold v_ref3_next; rw [hn]
  rw [hvn]
  exact loop _ (nextB t i) rfl (fun j h => h) (fun j h => .start h)
end Go.Ev
end

section
set_option linter.unusedSectionVars false
set_option linter.unusedVariables false
set_option linter.unusedSimpArgs false
set_option maxRecDepth 100000
set_option linter.unusedVariables false
open Go Go.Ev
namespace Go.Ev
noncomputable section
noncomputable def e_ref3_from : Run := entG sg_ref3_from R_ref3_from (fun a => k_ref3_from a.1 a.2.1) (fun a => v_ref3_from a.1 a.2.1)
theorem ok_ref3_from : EntOK Go.Proofs.Tryz.prog 49 e_ref3_from := entG_ok (tb := tb_ref3_from) (c := c_ref3_from) tk_ref3_from (by kernel_rfl) (by kernel_rfl) (by kernel_rfl) (fun a => by kernel_rfl) fun ⟨t, i, _⟩ hk => evF_goes (c := c_ref3_from) (K := fun v => (R_ref3_from v, tps (toForms sg_ref3_from (t, i, ())))) (S := S_ref3_from t i) (by kernel_rfl) (en_ref3_from t i) (lp_ref3_from t i) (g_ref3_from t i hk)
end
end Go.Ev
end

section
set_option linter.unusedSectionVars false
set_option linter.unusedVariables false
set_option linter.unusedSimpArgs false
set_option maxRecDepth 100000
set_option linter.unusedVariables false
open Go Go.Ev
namespace Go.Ev
noncomputable section
/-! ### paling/palingref3.List -/
def sg_ref3_List : Sig := [(false, (.sl .bool))]
noncomputable def t_ref3_List : Tbl := []
theorem tk_ref3_List : ∀ p ∈ t_ref3_List, EntOK Go.Proofs.Tryz.prog p.1 p.2 := tbl_nil
noncomputable def c_ref3_List : Code := Go.Proofs.Tryz.f47.body.getD .skip
def tb_ref3_List : Tb := [(4, ⟨[0, 3, 4], [(4, 74)]⟩)]
inductive J_ref3_List where
  | l4 (i : Int) (out : List Int)
def T_ref3_List (is : List Bool) : J_ref3_List → JT J_ref3_List (List Int)
  | .l4 i out =>
    .br (decide (i < (Int.ofNat (List.length is))))
      (.br ((decide ((0 : Int) ≤ i)) && (decide (i < (Int.ofNat (List.length is)))))
        (.br (List.getD is (Int.toNat i) (dflt .bool))
          (.br (Nat.ble (((List.length out) + 1) * 8) limit)
            (.jmp (.l4 (IntKind.i64.wrap (i + (1 : Int))) (out ++ [i])))
          (.no))
        (.jmp (.l4 (IntKind.i64.wrap (i + (1 : Int))) out)))
      (.no))
    (.leaf out)
def T0_ref3_List (is : List Bool) : JT J_ref3_List (List Int) :=
  .jmp (.l4 (0 : Int) [])
def R_ref3_List : List Int → AV := fun (r : List Int) => .rw 3 (.int .i64) r
def S_ref3_List (is : List Bool) : J_ref3_List → Nat × St
  | .l4 i out => (4, ⟨mkTm 20 [(0, .d (.sl .bool) is), (3, .own 4 0 none), (4, .d (.int .i64) i)], [(4, 0, .row 3 (.int .i64) out false)]⟩)
theorem en_ref3_List (is : List Bool) (L : Lt) : entryA Go.Proofs.Tryz.prog (clOf t_ref3_List) tb_ref3_List Go.Proofs.Tryz.f47 c_ref3_List L (toForms sg_ref3_List (is, ())) = (T0_ref3_List is).run (fun v => some (R_ref3_List v, tps (toForms sg_ref3_List (is, ())))) fun j => L (S_ref3_List is j).1 (S_ref3_List is j).2 := by kernel_rfl
theorem lp_ref3_List (is : List Bool) : ∀ (L : Lt) (j : J_ref3_List), procOf (procsF Go.Proofs.Tryz.prog (clOf t_ref3_List) tb_ref3_List Go.Proofs.Tryz.f47 c_ref3_List (toForms sg_ref3_List (is, ()))) (S_ref3_List is j).1 L (S_ref3_List is j).2 = (T_ref3_List is j).run (fun v => some (R_ref3_List v, tps (toForms sg_ref3_List (is, ())))) fun j => L (S_ref3_List is j).1 (S_ref3_List is j).2
  | L, .l4 i out => by kernel_rfl
end
end Go.Ev
end

section
set_option linter.unusedSectionVars false
set_option linter.unusedVariables false
set_option linter.unusedSimpArgs false
/- Rising lists and lists of places: what chapters 19 to 26 say of them, over lists. -/
set_option linter.unusedVariables false
set_option linter.unusedSimpArgs false
namespace Go.Ev
open Go
/-- Which are so, rising, from k on. -/
def listFrom : Nat → List Bool → List Int
  | _, [] => []
  | k, b :: r => if b then (k : Int) :: listFrom (k + 1) r else listFrom (k + 1) r
/-- A list in order. -/
def risingFrom : Int → List Int → Bool
  | _, [] => true
  | p, n :: r => if n < 0 ∨ 2147483647 < n ∨ n ≤ p then false else risingFrom n r
def rising (l : List Int) : Bool := risingFrom (-1) l
/-- How many are below; how many are not above. -/
def below (l : List Int) (x : Int) : Nat := l.countP fun f => decide (f < x)
end Go.Ev
end

section
set_option linter.unusedSectionVars false
set_option linter.unusedVariables false
set_option linter.unusedSimpArgs false
set_option linter.unusedVariables false
set_option linter.unusedSimpArgs false
open Go
namespace Go.Ev
def v_ref3_List (is : List Bool) : List Int := listFrom 0 is
def k_ref3_List (is : List Bool) : Bool := decide (is.length < 1099511627776)
theorem g_ref3_List (is : List Bool) (hk : k_ref3_List is = true) : Goes (T_ref3_List is) (T0_ref3_List is) (v_ref3_List is) := by
  have hn : is.length < 1099511627776 := of_decide_eq_true hk
  have loop : ∀ k, k ≤ is.length → ∀ out : List Int, out.length ≤ k → Goes (T_ref3_List is) (.jmp (.l4 (k : Int) out)) (out ++ listFrom k (is.drop k)) := by
    refine down ?_ fun k hk ih => ?_
    · intro out ho
      rw [goes_jmp]
      simp only [T_ref3_List, goes_br, lt_len_not (Nat.lt_irrefl _), List.drop_length]
      rw [show listFrom is.length [] = [] from rfl, List.append_nil]
      exact .leaf
    · intro out ho
      rw [goes_jmp, drop_cons hk]
      have b1 : Nat.ble ((out.length + 1) * 8) limit = true := Nat.ble_eq_true_of_le (by unfold limit; omega)
      simp only [T_ref3_List, goes_br, lt_len hk, nng, Bool.and_self, if_true, Int.toNat_natCast, getD_lt hk, wrap_succ (k := k) (by omega), b1]
      unfold listFrom
      split
      · have := ih (out ++ [(k : Int)]) (by rw [List.length_append, List.length_singleton]; omega)
        rw [List.append_assoc] at this
        exact this
      · exact ih out (by omega)
  have := loop 0 (Nat.zero_le _) [] (by simp)
  unfold T0_ref3_List v_ref3_List
  simpa using this
end Go.Ev
end

section
set_option linter.unusedSectionVars false
set_option linter.unusedVariables false
set_option linter.unusedSimpArgs false
set_option maxRecDepth 100000
set_option linter.unusedVariables false
open Go Go.Ev
namespace Go.Ev
noncomputable section
noncomputable def e_ref3_List : Run := entG sg_ref3_List R_ref3_List (fun a => k_ref3_List a.1) (fun a => v_ref3_List a.1)
theorem ok_ref3_List : EntOK Go.Proofs.Tryz.prog 47 e_ref3_List := entG_ok (tb := tb_ref3_List) (c := c_ref3_List) tk_ref3_List (by kernel_rfl) (by kernel_rfl) (by kernel_rfl) (fun a => by kernel_rfl) fun ⟨is, _⟩ hk => evF_goes (c := c_ref3_List) (K := fun v => (R_ref3_List v, tps (toForms sg_ref3_List (is, ())))) (S := S_ref3_List is) (by kernel_rfl) (en_ref3_List is) (lp_ref3_List is) (g_ref3_List is hk)
end
end Go.Ev
end

section
set_option linter.unusedSectionVars false
set_option linter.unusedVariables false
set_option linter.unusedSimpArgs false
set_option maxRecDepth 100000
set_option linter.unusedVariables false
open Go Go.Ev
namespace Go.Ev
noncomputable section
/-! ### paling/palingref3.From -/
def sg_ref3_From : Sig := [(true, (.sl T_api_Ins)), (false, (.int .i64))]
noncomputable def t_ref3_From : Tbl := [(49, e_ref3_from), (47, e_ref3_List)]
theorem tk_ref3_From : ∀ p ∈ t_ref3_From, EntOK Go.Proofs.Tryz.prog p.1 p.2 := tbl_cons ok_ref3_from (tbl_cons ok_ref3_List (tbl_nil))
noncomputable def c_ref3_From : Code := Go.Proofs.Tryz.f22.body.getD .skip
def tb_ref3_From : Tb := []
def T_ref3_From (t : List (El T_api_Ins)) (i : Int) : Empty → JT Empty (List Int) := fun j => nomatch j
def T0_ref3_From (t : List (El T_api_Ins)) (i : Int) : JT Empty (List Int) :=
  .br (k_ref3_from t i)
    (.br (k_ref3_List (v_ref3_from t i))
      (.leaf (v_ref3_List (v_ref3_from t i)))
    (.no))
  (.no)
def v_ref3_From (t : List (El T_api_Ins)) (i : Int) : List Int :=
  bif (k_ref3_from t i) then
    bif (k_ref3_List (v_ref3_from t i)) then
      (v_ref3_List (v_ref3_from t i))
    else []
  else []
def k_ref3_From (t : List (El T_api_Ins)) (i : Int) : Bool :=
  bif (k_ref3_from t i) then
    bif (k_ref3_List (v_ref3_from t i)) then
      true
    else false
  else false
theorem g_ref3_From (t : List (El T_api_Ins)) (i : Int) (hk : k_ref3_From t i = true) : Goes (T_ref3_From t i) (T0_ref3_From t i) (v_ref3_From t i) :=
  Goes.brk hk (fun hk =>
    Goes.brk hk (fun hk =>
      Goes.leaf) (fun hk =>
      Goes.nok hk)) (fun hk =>
    Goes.nok hk)
def R_ref3_From : List Int → AV := fun (r : List Int) => .rw 3 (.int .i64) r
def S_ref3_From (t : List (El T_api_Ins)) (i : Int) : Empty → Nat × St := fun j => nomatch j
theorem en_ref3_From (t : List (El T_api_Ins)) (i : Int) (L : Lt) : entryA Go.Proofs.Tryz.prog (clOf t_ref3_From) tb_ref3_From Go.Proofs.Tryz.f22 c_ref3_From L (toForms sg_ref3_From (t, i, ())) = (T0_ref3_From t i).run (fun v => some (R_ref3_From v, tps (toForms sg_ref3_From (t, i, ())))) fun j => L (S_ref3_From t i j).1 (S_ref3_From t i j).2 := by kernel_rfl
theorem lp_ref3_From (t : List (El T_api_Ins)) (i : Int) : ∀ (L : Lt) (j : Empty), procOf (procsF Go.Proofs.Tryz.prog (clOf t_ref3_From) tb_ref3_From Go.Proofs.Tryz.f22 c_ref3_From (toForms sg_ref3_From (t, i, ()))) (S_ref3_From t i j).1 L (S_ref3_From t i j).2 = (T_ref3_From t i j).run (fun v => some (R_ref3_From v, tps (toForms sg_ref3_From (t, i, ())))) fun j => L (S_ref3_From t i j).1 (S_ref3_From t i j).2 := fun L j => nomatch j
noncomputable def e_ref3_From : Run := entG sg_ref3_From R_ref3_From (fun a => k_ref3_From a.1 a.2.1) (fun a => v_ref3_From a.1 a.2.1)
theorem ok_ref3_From : EntOK Go.Proofs.Tryz.prog 22 e_ref3_From := entG_ok (tb := tb_ref3_From) (c := c_ref3_From) tk_ref3_From (by kernel_rfl) (by kernel_rfl) (by kernel_rfl) (fun a => by kernel_rfl) fun ⟨t, i, _⟩ hk => evF_goes (c := c_ref3_From) (K := fun v => (R_ref3_From v, tps (toForms sg_ref3_From (t, i, ())))) (S := S_ref3_From t i) (by kernel_rfl) (en_ref3_From t i) (lp_ref3_From t i) (g_ref3_From t i hk)
end
end Go.Ev
end

section
set_option linter.unusedSectionVars false
set_option linter.unusedVariables false
set_option linter.unusedSimpArgs false
set_option maxRecDepth 100000
set_option linter.unusedVariables false
open Go Go.Ev
namespace Go.Ev
noncomputable section
/-! ### paling/palingref3.In -/
def sg_ref3_In : Sig := [(false, (.sl (.int .i64))), (false, (.int .i64))]
noncomputable def t_ref3_In : Tbl := []
theorem tk_ref3_In : ∀ p ∈ t_ref3_In, EntOK Go.Proofs.Tryz.prog p.1 p.2 := tbl_nil
noncomputable def c_ref3_In : Code := Go.Proofs.Tryz.f21.body.getD .skip
def tb_ref3_In : Tb := [(3, ⟨[0, 1, 5], []⟩)]
inductive J_ref3_In where
  | l3 (i : Int)
def T_ref3_In (l : List Int) (n : Int) : J_ref3_In → JT J_ref3_In (Bool)
  | .l3 i =>
    .br (decide (i < (Int.ofNat (List.length l))))
      (.br ((decide ((0 : Int) ≤ i)) && (decide (i < (Int.ofNat (List.length l)))))
        (.br ((List.getD l (Int.toNat i) (dflt (.int .i64))) == n)
          (.leaf true)
        (.jmp (.l3 (IntKind.i64.wrap (i + (1 : Int))))))
      (.no))
    (.leaf false)
def T0_ref3_In (l : List Int) (n : Int) : JT J_ref3_In (Bool) :=
  .jmp (.l3 (0 : Int))
def R_ref3_In : Bool → AV := fun (r : Bool) => .d .bool r
def S_ref3_In (l : List Int) (n : Int) : J_ref3_In → Nat × St
  | .l3 i => (3, ⟨mkTm 18 [(0, .d (.sl (.int .i64)) l), (1, .d (.int .i64) n), (5, .d (.int .i64) i)], []⟩)
theorem en_ref3_In (l : List Int) (n : Int) (L : Lt) : entryA Go.Proofs.Tryz.prog (clOf t_ref3_In) tb_ref3_In Go.Proofs.Tryz.f21 c_ref3_In L (toForms sg_ref3_In (l, n, ())) = (T0_ref3_In l n).run (fun v => some (R_ref3_In v, tps (toForms sg_ref3_In (l, n, ())))) fun j => L (S_ref3_In l n j).1 (S_ref3_In l n j).2 := by kernel_rfl
theorem lp_ref3_In (l : List Int) (n : Int) : ∀ (L : Lt) (j : J_ref3_In), procOf (procsF Go.Proofs.Tryz.prog (clOf t_ref3_In) tb_ref3_In Go.Proofs.Tryz.f21 c_ref3_In (toForms sg_ref3_In (l, n, ()))) (S_ref3_In l n j).1 L (S_ref3_In l n j).2 = (T_ref3_In l n j).run (fun v => some (R_ref3_In v, tps (toForms sg_ref3_In (l, n, ())))) fun j => L (S_ref3_In l n j).1 (S_ref3_In l n j).2
  | L, .l3 i => by kernel_rfl
end
end Go.Ev
end

section
set_option linter.unusedSectionVars false
set_option linter.unusedVariables false
set_option linter.unusedSimpArgs false
set_option linter.unusedVariables false
set_option linter.unusedSimpArgs false
open Go
namespace Go.Ev
def v_ref3_In (l : List Int) (n : Int) : Bool := l.contains n
def k_ref3_In (l : List Int) (n : Int) : Bool := decide (l.length < 4611686018427387904)
theorem g_ref3_In (l : List Int) (n : Int) (hk : k_ref3_In l n = true) : Goes (T_ref3_In l n) (T0_ref3_In l n) (v_ref3_In l n) := by
  have hn : l.length < 4611686018427387904 := of_decide_eq_true hk
  have loop : ∀ k, k ≤ l.length → Goes (T_ref3_In l n) (.jmp (.l3 (k : Int))) ((l.drop k).contains n) := by
    refine down ?_ fun k hk ih => ?_
    · rw [goes_jmp]
      simp only [T_ref3_In, goes_br, lt_len_not (Nat.lt_irrefl _), goes_leaf, List.drop_length]
      simp
    · rw [goes_jmp]
      simp only [T_ref3_In, goes_br, lt_len hk, nng, Bool.and_self, if_true, Int.toNat_natCast, getD_lt hk, wrap_succ (k := k) (by omega)]
      rw [drop_cons hk, List.contains_cons]
      cases h : (l[k] == n) with
      | true =>
        have : (n == l[k]) = true := by simp at h ⊢; exact h.symm
        rw [this]; simp [goes_leaf]
      | false =>
        have : (n == l[k]) = false := by simp at h ⊢; exact fun e => h e.symm
        rw [this]; simpa using ih
  unfold T0_ref3_In v_ref3_In
  simpa using loop 0 (Nat.zero_le _)
end Go.Ev
end

section
set_option linter.unusedSectionVars false
set_option linter.unusedVariables false
set_option linter.unusedSimpArgs false
set_option maxRecDepth 100000
set_option linter.unusedVariables false
open Go Go.Ev
namespace Go.Ev
noncomputable section
noncomputable def e_ref3_In : Run := entG sg_ref3_In R_ref3_In (fun a => k_ref3_In a.1 a.2.1) (fun a => v_ref3_In a.1 a.2.1)
theorem ok_ref3_In : EntOK Go.Proofs.Tryz.prog 21 e_ref3_In := entG_ok (tb := tb_ref3_In) (c := c_ref3_In) tk_ref3_In (by kernel_rfl) (by kernel_rfl) (by kernel_rfl) (fun a => by kernel_rfl) fun ⟨l, n, _⟩ hk => evF_goes (c := c_ref3_In) (K := fun v => (R_ref3_In v, tps (toForms sg_ref3_In (l, n, ())))) (S := S_ref3_In l n) (by kernel_rfl) (en_ref3_In l n) (lp_ref3_In l n) (g_ref3_In l n hk)
end
end Go.Ev
end

section
set_option linter.unusedSectionVars false
set_option linter.unusedVariables false
set_option linter.unusedSimpArgs false
set_option maxRecDepth 100000
set_option linter.unusedVariables false
open Go Go.Ev
namespace Go.Ev
noncomputable section
/-! ### paling/palingref3.Clash -/
def sg_ref3_Clash : Sig := [(true, T_api_Access), (true, T_api_Access)]
noncomputable def t_ref3_Clash : Tbl := []
theorem tk_ref3_Clash : ∀ p ∈ t_ref3_Clash, EntOK Go.Proofs.Tryz.prog p.1 p.2 := tbl_nil
noncomputable def c_ref3_Clash : Code := Go.Proofs.Tryz.f23.body.getD .skip
def tb_ref3_Clash : Tb := []
def T_ref3_Clash (a : El T_api_Access) (b : El T_api_Access) : Empty → JT Empty (Bool) := fun j => nomatch j
def T0_ref3_Clash (a : El T_api_Access) (b : El T_api_Access) : JT Empty (Bool) :=
  .br (a.1 != b.1)
    (.br (a.2.2.2.1 == b.2.2.2.1)
      (.br a.2.2.2.2.1
        (.leaf true)
      (.leaf b.2.2.2.2.1))
    (.leaf false))
  (.leaf false)
def v_ref3_Clash (a : El T_api_Access) (b : El T_api_Access) : Bool :=
  bif (a.1 != b.1) then
    bif (a.2.2.2.1 == b.2.2.2.1) then
      bif a.2.2.2.2.1 then
        true
      else b.2.2.2.2.1
    else false
  else false
theorem g_ref3_Clash (a : El T_api_Access) (b : El T_api_Access) : Goes (T_ref3_Clash a b) (T0_ref3_Clash a b) (v_ref3_Clash a b) :=
  Goes.br (
    Goes.br (
      Goes.br (
        Goes.leaf) (
        Goes.leaf)) (
      Goes.leaf)) (
    Goes.leaf)
def R_ref3_Clash : Bool → AV := fun (r : Bool) => .d .bool r
def S_ref3_Clash (a : El T_api_Access) (b : El T_api_Access) : Empty → Nat × St := fun j => nomatch j
theorem en_ref3_Clash (a : El T_api_Access) (b : El T_api_Access) (L : Lt) : entryA Go.Proofs.Tryz.prog (clOf t_ref3_Clash) tb_ref3_Clash Go.Proofs.Tryz.f23 c_ref3_Clash L (toForms sg_ref3_Clash (a, b, ())) = (T0_ref3_Clash a b).run (fun v => some (R_ref3_Clash v, tps (toForms sg_ref3_Clash (a, b, ())))) fun j => L (S_ref3_Clash a b j).1 (S_ref3_Clash a b j).2 := by kernel_rfl
theorem lp_ref3_Clash (a : El T_api_Access) (b : El T_api_Access) : ∀ (L : Lt) (j : Empty), procOf (procsF Go.Proofs.Tryz.prog (clOf t_ref3_Clash) tb_ref3_Clash Go.Proofs.Tryz.f23 c_ref3_Clash (toForms sg_ref3_Clash (a, b, ()))) (S_ref3_Clash a b j).1 L (S_ref3_Clash a b j).2 = (T_ref3_Clash a b j).run (fun v => some (R_ref3_Clash v, tps (toForms sg_ref3_Clash (a, b, ())))) fun j => L (S_ref3_Clash a b j).1 (S_ref3_Clash a b j).2 := fun L j => nomatch j
noncomputable def e_ref3_Clash : Run := entT sg_ref3_Clash R_ref3_Clash (fun a => v_ref3_Clash a.1 a.2.1)
theorem ok_ref3_Clash : EntOK Go.Proofs.Tryz.prog 23 e_ref3_Clash := entT_ok (tb := tb_ref3_Clash) (c := c_ref3_Clash) tk_ref3_Clash (by kernel_rfl) (by kernel_rfl) (by kernel_rfl) (fun a => by kernel_rfl) fun ⟨a, b, _⟩ => evF_goes (c := c_ref3_Clash) (K := fun v => (R_ref3_Clash v, tps (toForms sg_ref3_Clash (a, b, ())))) (S := S_ref3_Clash a b) (by kernel_rfl) (en_ref3_Clash a b) (lp_ref3_Clash a b) (g_ref3_Clash a b)
end
end Go.Ev
end

section
set_option linter.unusedSectionVars false
set_option linter.unusedVariables false
set_option linter.unusedSimpArgs false
set_option maxRecDepth 100000
set_option linter.unusedVariables false
open Go Go.Ev
namespace Go.Ev
noncomputable section
/-! ### paling/palinglaw23.both -/
def sg_law23_both : Sig := []
noncomputable def t_law23_both : Tbl := []
theorem tk_law23_both : ∀ p ∈ t_law23_both, EntOK Go.Proofs.Tryz.prog p.1 p.2 := tbl_nil
noncomputable def c_law23_both : Code := Go.Proofs.Tryz.f38.body.getD .skip
def tb_law23_both : Tb := []
def T_law23_both : Empty → JT Empty (El T_api_Prog) := fun j => nomatch j
def T0_law23_both : JT Empty (El T_api_Prog) :=
  .leaf ([((bs [120]), ((1 : Int), [])), ((bs [121]), ((1 : Int), []))], [[((1 : Int), (false, ((0 : Int), (((3 : Int), ((0 : Int), ((0 : Int), (0 : Int)))), (((2 : Int), ((0 : Int), ((0 : Int), (1 : Int)))), ((bs []), [])))))), ((1 : Int), (false, ((0 : Int), (((1 : Int), ((0 : Int), ((0 : Int), (0 : Int)))), (((3 : Int), ((0 : Int), ((1 : Int), (0 : Int)))), ((bs []), [])))))), ((14 : Int), (false, ((0 : Int), (((0 : Int), ((0 : Int), ((0 : Int), (0 : Int)))), (((0 : Int), ((0 : Int), ((0 : Int), (0 : Int)))), ((bs []), []))))))], [((1 : Int), (false, ((0 : Int), (((3 : Int), ((0 : Int), ((1 : Int), (0 : Int)))), (((2 : Int), ((0 : Int), ((0 : Int), (1 : Int)))), ((bs []), [])))))), ((1 : Int), (false, ((0 : Int), (((1 : Int), ((0 : Int), ((0 : Int), (0 : Int)))), (((3 : Int), ((0 : Int), ((0 : Int), (0 : Int)))), ((bs []), [])))))), ((14 : Int), (false, ((0 : Int), (((0 : Int), ((0 : Int), ((0 : Int), (0 : Int)))), (((0 : Int), ((0 : Int), ((0 : Int), (0 : Int)))), ((bs []), []))))))]])
def v_law23_both : El T_api_Prog :=
  ([((bs [120]), ((1 : Int), [])), ((bs [121]), ((1 : Int), []))], [[((1 : Int), (false, ((0 : Int), (((3 : Int), ((0 : Int), ((0 : Int), (0 : Int)))), (((2 : Int), ((0 : Int), ((0 : Int), (1 : Int)))), ((bs []), [])))))), ((1 : Int), (false, ((0 : Int), (((1 : Int), ((0 : Int), ((0 : Int), (0 : Int)))), (((3 : Int), ((0 : Int), ((1 : Int), (0 : Int)))), ((bs []), [])))))), ((14 : Int), (false, ((0 : Int), (((0 : Int), ((0 : Int), ((0 : Int), (0 : Int)))), (((0 : Int), ((0 : Int), ((0 : Int), (0 : Int)))), ((bs []), []))))))], [((1 : Int), (false, ((0 : Int), (((3 : Int), ((0 : Int), ((1 : Int), (0 : Int)))), (((2 : Int), ((0 : Int), ((0 : Int), (1 : Int)))), ((bs []), [])))))), ((1 : Int), (false, ((0 : Int), (((1 : Int), ((0 : Int), ((0 : Int), (0 : Int)))), (((3 : Int), ((0 : Int), ((0 : Int), (0 : Int)))), ((bs []), [])))))), ((14 : Int), (false, ((0 : Int), (((0 : Int), ((0 : Int), ((0 : Int), (0 : Int)))), (((0 : Int), ((0 : Int), ((0 : Int), (0 : Int)))), ((bs []), []))))))]])
theorem g_law23_both : Goes (T_law23_both) (T0_law23_both) (v_law23_both) :=
  Goes.leaf
def R_law23_both : El T_api_Prog → AV := fun (r : El T_api_Prog) => .ag [.rw 67 T_api_Sym r.1, .rw 48 (.sl T_api_Ins) r.2]
def S_law23_both : Empty → Nat × St := fun j => nomatch j
theorem en_law23_both (L : Lt) : entryA Go.Proofs.Tryz.prog (clOf t_law23_both) tb_law23_both Go.Proofs.Tryz.f38 c_law23_both L (toForms sg_law23_both (())) = (T0_law23_both).run (fun v => some (R_law23_both v, tps (toForms sg_law23_both (())))) fun j => L (S_law23_both j).1 (S_law23_both j).2 := by kernel_rfl
theorem lp_law23_both : ∀ (L : Lt) (j : Empty), procOf (procsF Go.Proofs.Tryz.prog (clOf t_law23_both) tb_law23_both Go.Proofs.Tryz.f38 c_law23_both (toForms sg_law23_both (()))) (S_law23_both j).1 L (S_law23_both j).2 = (T_law23_both j).run (fun v => some (R_law23_both v, tps (toForms sg_law23_both (())))) fun j => L (S_law23_both j).1 (S_law23_both j).2 := fun L j => nomatch j
noncomputable def e_law23_both : Run := entT sg_law23_both R_law23_both (fun a => v_law23_both)
theorem ok_law23_both : EntOK Go.Proofs.Tryz.prog 38 e_law23_both := entT_ok (tb := tb_law23_both) (c := c_law23_both) tk_law23_both (by kernel_rfl) (by kernel_rfl) (by kernel_rfl) (fun a => by kernel_rfl) fun _ => evF_goes (c := c_law23_both) (K := fun v => (R_law23_both v, tps (toForms sg_law23_both (())))) (S := S_law23_both) (by kernel_rfl) (en_law23_both) (lp_law23_both) (g_law23_both)
end
end Go.Ev
end

section
set_option linter.unusedSectionVars false
set_option linter.unusedVariables false
set_option linter.unusedSimpArgs false
set_option maxRecDepth 100000
set_option linter.unusedVariables false
open Go Go.Ev
namespace Go.Ev
noncomputable section
/-! ### paling/clash.Pairs -/
def sg_clash_Pairs : Sig := [(true, T_api_Prog)]
noncomputable def t_clash_Pairs : Tbl := [(35, e_touch_Of), (36, e_clash_clash)]
theorem tk_clash_Pairs : ∀ p ∈ t_clash_Pairs, EntOK Go.Proofs.Tryz.prog p.1 p.2 := tbl_cons ok_touch_Of (tbl_cons ok_clash_clash (tbl_nil))
noncomputable def c_clash_Pairs : Code := Go.Proofs.Tryz.f13.body.getD .skip
def tb_clash_Pairs : Tb := [(5, ⟨[3, 4, 10, 11], [(4, 58)]⟩), (11, ⟨[3, 4, 5, 6, 10, 11], [(4, 58)]⟩)]
inductive J_clash_Pairs where
  | l5 (h : Int) (out : List (El T_opnd_AtPart))
  | l11 (k : Int) (out : List (El T_opnd_AtPart)) (i : Int) (h : Int)
def T_clash_Pairs (p : El T_api_Prog) : J_clash_Pairs → JT J_clash_Pairs (List (El T_opnd_AtPart))
  | .l5 h out =>
    .br (decide (h < (Int.ofNat (List.length (v_touch_Of p)))))
      (.jmp (.l11 (IntKind.i64.wrap (h + (1 : Int))) out h h))
    (.leaf out)
  | .l11 k out i h =>
    .br (decide (k < (Int.ofNat (List.length (v_touch_Of p)))))
      (.br ((decide ((0 : Int) ≤ i)) && (decide (i < (Int.ofNat (List.length (v_touch_Of p))))))
        (.br ((decide ((0 : Int) ≤ k)) && (decide (k < (Int.ofNat (List.length (v_touch_Of p))))))
          (.br (v_clash_clash (List.getD (v_touch_Of p) (Int.toNat i) (dflt T_api_Access)) (List.getD (v_touch_Of p) (Int.toNat k) (dflt T_api_Access)))
            (.br (Nat.ble (((List.length out) + 1) * 16) limit)
              (.jmp (.l11 (IntKind.i64.wrap (k + (1 : Int))) (out ++ [(i, k)]) i h))
            (.no))
          (.jmp (.l11 (IntKind.i64.wrap (k + (1 : Int))) out i h)))
        (.no))
      (.no))
    (.jmp (.l5 (IntKind.i64.wrap (h + (1 : Int))) out))
def T0_clash_Pairs (p : El T_api_Prog) : JT J_clash_Pairs (List (El T_opnd_AtPart)) :=
  .br (k_touch_Of p)
    (.jmp (.l5 (0 : Int) []))
  (.no)
def R_clash_Pairs : List (El T_opnd_AtPart) → AV := fun (r : List (El T_opnd_AtPart)) => .rw 72 T_opnd_AtPart r
def S_clash_Pairs (p : El T_api_Prog) : J_clash_Pairs → Nat × St
  | .l5 h out => (5, ⟨mkTm 39 [(3, .own 4 0 none), (4, .d (.sl T_api_Access) (v_touch_Of p)), (10, .d (.int .i64) (Int.ofNat (List.length (v_touch_Of p)))), (11, .d (.int .i64) h)], [(4, 0, .row 72 T_opnd_AtPart out false)]⟩)
  | .l11 k out i h => (11, ⟨mkTm 39 [(3, .own 4 0 none), (4, .d (.sl T_api_Access) (v_touch_Of p)), (5, .d (.int .i64) i), (6, .d (.int .i64) k), (10, .d (.int .i64) (Int.ofNat (List.length (v_touch_Of p)))), (11, .d (.int .i64) h)], [(4, 0, .row 72 T_opnd_AtPart out false)]⟩)
theorem en_clash_Pairs (p : El T_api_Prog) (L : Lt) : entryA Go.Proofs.Tryz.prog (clOf t_clash_Pairs) tb_clash_Pairs Go.Proofs.Tryz.f13 c_clash_Pairs L (toForms sg_clash_Pairs (p, ())) = (T0_clash_Pairs p).run (fun v => some (R_clash_Pairs v, tps (toForms sg_clash_Pairs (p, ())))) fun j => L (S_clash_Pairs p j).1 (S_clash_Pairs p j).2 := by kernel_rfl
theorem lp_clash_Pairs (p : El T_api_Prog) : ∀ (L : Lt) (j : J_clash_Pairs), procOf (procsF Go.Proofs.Tryz.prog (clOf t_clash_Pairs) tb_clash_Pairs Go.Proofs.Tryz.f13 c_clash_Pairs (toForms sg_clash_Pairs (p, ()))) (S_clash_Pairs p j).1 L (S_clash_Pairs p j).2 = (T_clash_Pairs p j).run (fun v => some (R_clash_Pairs v, tps (toForms sg_clash_Pairs (p, ())))) fun j => L (S_clash_Pairs p j).1 (S_clash_Pairs p j).2
  | L, .l5 h out => by kernel_rfl
  | L, .l11 k out i h => by kernel_rfl
end
end Go.Ev
end

section
set_option linter.unusedSectionVars false
set_option linter.unusedVariables false
set_option linter.unusedSimpArgs false
set_option maxRecDepth 100000
set_option linter.unusedVariables false
set_option linter.unusedSimpArgs false
open Go
namespace Go.Ev
/-- The pairs of which the first is i. -/
def pairI (l : List Acc) (i : Nat) : List (Int × Int) := ((List.range' (i + 1) (l.length - (i + 1))).filter fun k => clB l i k).map fun k : Nat => ((i : Int), (k : Int))
def pairsFrom (l : List Acc) (i : Nat) : List (Int × Int) := (List.range' i (l.length - i)).flatMap (pairI l)
def v_clash_Pairs (p : El T_api_Prog) : List (El T_opnd_AtPart) := pairsFrom (ofC p) 0
def k_clash_Pairs (p : El T_api_Prog) : Bool := smallAll p && decide ((ofC p).length < 1000000)
theorem pairI_len (l : List Acc) (i : Nat) : (pairI l i).length ≤ l.length := by
  unfold pairI
  rw [List.length_map]
  have := List.length_filter_le (fun k => clB l i k) (List.range' (i + 1) (l.length - (i + 1)))
  rw [List.length_range'] at this
  omega
theorem g_clash_Pairs (p : El T_api_Prog) (hk : k_clash_Pairs p = true) : Goes (T_clash_Pairs p) (T0_clash_Pairs p) (v_clash_Pairs p) := by
  unfold k_clash_Pairs at hk
  rw [Bool.and_eq_true] at hk
  obtain ⟨hs, hN⟩ := hk
  have hN := of_decide_eq_true hN
  have kt : k_touch_Of p = true := hs
  have vt : v_touch_Of p = ofC p := rfl
  obtain ⟨l, hl⟩ : ∃ l, ofC p = l := ⟨_, rfl⟩
  rw [hl] at hN vt
  have outer : ∀ i, i ≤ l.length → ∀ out : List (Int × Int), out.length ≤ i * l.length → Goes (T_clash_Pairs p) (.jmp (.l5 (i : Int) out)) (out ++ pairsFrom l i) := by
    refine down ?_ fun i hi ih => ?_
    · intro out ho
      rw [goes_jmp, T_clash_Pairs, vt, goes_br, if_neg (by rw [lt_len_not (Nat.lt_irrefl _)]; decide)]
      unfold pairsFrom
      rw [Nat.sub_self]
      simp only [List.range'_zero, List.flatMap_nil, List.append_nil]
      exact .leaf
    · intro out ho
      have inner : ∀ k, k ≤ l.length → i + 1 ≤ k → ∀ o2 : List (Int × Int), o2.length ≤ i * l.length + (k - (i + 1)) → o2 ++ ((List.range' k (l.length - k)).filter fun k => clB l i k).map (fun k : Nat => ((i : Int), (k : Int))) = out ++ pairI l i →
          Goes (T_clash_Pairs p) (.jmp (.l11 (k : Int) o2 (i : Int) (i : Int))) (out ++ pairsFrom l i) := by
        refine down ?_ fun k hk ih2 => ?_
        · intro _ o2 ho2 he
          rw [goes_jmp, T_clash_Pairs, vt, goes_br, if_neg (by rw [lt_len_not (Nat.lt_irrefl _)]; decide), wrap_succ (by omega)]
          rw [Nat.sub_self] at he
          simp only [List.range'_zero, List.filter_nil, List.map_nil, List.append_nil] at he
          rw [he]
          have := ih (out ++ pairI l i) (by
            rw [List.length_append]
            have := pairI_len l i
            rw [Nat.add_mul]; omega)
          have e : pairsFrom l i = pairI l i ++ pairsFrom l (i + 1) := by
            unfold pairsFrom
            rw [show l.length - i = (l.length - (i + 1)) + 1 by omega, List.range'_succ, List.flatMap_cons]
          rw [e, ← List.append_assoc]
          exact this
        · intro hik o2 ho2 he
          have hprod : i * l.length ≤ 1000000 * 1000000 := Nat.mul_le_mul (by omega) (by omega)
          have b1 : Nat.ble ((o2.length + 1) * 16) limit = true := Nat.ble_eq_true_of_le (by unfold limit; omega)
          have ec : v_clash_clash (List.getD l i (dflt T_api_Access)) (List.getD l k (dflt T_api_Access)) = clB l i k := rfl
          rw [show l.length - k = (l.length - (k + 1)) + 1 by omega, List.range'_succ, List.filter_cons] at he
          rw [goes_jmp, T_clash_Pairs, vt]
          simp only [goes_br, lt_len hk, lt_len hi, nng, Bool.and_self, if_true, Int.toNat_natCast, ec, b1, wrap_succ (k := k) (by omega)]
          by_cases c : clB l i k = true
          · rw [if_pos c]
            rw [if_pos c] at he
            exact ih2 (by omega) _ (by simp; omega) (by rw [List.append_assoc]; exact he)
          · rw [if_neg c]
            rw [if_neg c] at he
            exact ih2 (by omega) _ (by omega) he
      rw [goes_jmp, T_clash_Pairs, vt, goes_br, if_pos (lt_len hi), wrap_succ (by omega)]
      exact inner (i + 1) (by omega) (Nat.le_refl _) out (by omega) rfl
  have := outer 0 (Nat.zero_le _) [] (Nat.zero_le _)
  unfold T0_clash_Pairs v_clash_Pairs
  rw [goes_br, if_pos kt, hl]
  exact this
end Go.Ev
end

section
set_option linter.unusedSectionVars false
set_option linter.unusedVariables false
set_option linter.unusedSimpArgs false
set_option maxRecDepth 100000
set_option linter.unusedVariables false
open Go Go.Ev
namespace Go.Ev
noncomputable section
noncomputable def e_clash_Pairs : Run := entG sg_clash_Pairs R_clash_Pairs (fun a => k_clash_Pairs a.1) (fun a => v_clash_Pairs a.1)
theorem ok_clash_Pairs : EntOK Go.Proofs.Tryz.prog 13 e_clash_Pairs := entG_ok (tb := tb_clash_Pairs) (c := c_clash_Pairs) tk_clash_Pairs (by kernel_rfl) (by kernel_rfl) (by kernel_rfl) (fun a => by kernel_rfl) fun ⟨p, _⟩ hk => evF_goes (c := c_clash_Pairs) (K := fun v => (R_clash_Pairs v, tps (toForms sg_clash_Pairs (p, ())))) (S := S_clash_Pairs p) (by kernel_rfl) (en_clash_Pairs p) (lp_clash_Pairs p) (g_clash_Pairs p hk)
end
end Go.Ev
end

section
set_option linter.unusedSectionVars false
set_option linter.unusedVariables false
set_option linter.unusedSimpArgs false
set_option maxRecDepth 100000
set_option linter.unusedVariables false
open Go Go.Ev
namespace Go.Ev
noncomputable section
/-! ### paling/palingbook.SameTwos -/
def sg_book_SameTwos : Sig := [(false, (.sl T_opnd_AtPart)), (false, (.sl T_opnd_AtPart))]
noncomputable def t_book_SameTwos : Tbl := []
theorem tk_book_SameTwos : ∀ p ∈ t_book_SameTwos, EntOK Go.Proofs.Tryz.prog p.1 p.2 := tbl_nil
noncomputable def c_book_SameTwos : Code := Go.Proofs.Tryz.f12.body.getD .skip
def tb_book_SameTwos : Tb := [(6, ⟨[0, 1, 5], []⟩)]
inductive J_book_SameTwos where
  | l6 (i : Int)
def T_book_SameTwos (a : List (El T_opnd_AtPart)) (b : List (El T_opnd_AtPart)) : J_book_SameTwos → JT J_book_SameTwos (Bool)
  | .l6 i =>
    .br (decide (i < (Int.ofNat (List.length a))))
      (.br ((decide ((0 : Int) ≤ i)) && (decide (i < (Int.ofNat (List.length a)))))
        (.br ((decide ((0 : Int) ≤ i)) && (decide (i < (Int.ofNat (List.length b)))))
          (.br (! (((List.getD a (Int.toNat i) (dflt T_opnd_AtPart)).1 == (List.getD b (Int.toNat i) (dflt T_opnd_AtPart)).1) && ((List.getD a (Int.toNat i) (dflt T_opnd_AtPart)).2 == (List.getD b (Int.toNat i) (dflt T_opnd_AtPart)).2)))
            (.leaf false)
          (.jmp (.l6 (IntKind.i64.wrap (i + (1 : Int))))))
        (.no))
      (.no))
    (.leaf true)
def T0_book_SameTwos (a : List (El T_opnd_AtPart)) (b : List (El T_opnd_AtPart)) : JT J_book_SameTwos (Bool) :=
  .br ((Int.ofNat (List.length a)) != (Int.ofNat (List.length b)))
    (.leaf false)
  (.jmp (.l6 (0 : Int)))
def R_book_SameTwos : Bool → AV := fun (r : Bool) => .d .bool r
def S_book_SameTwos (a : List (El T_opnd_AtPart)) (b : List (El T_opnd_AtPart)) : J_book_SameTwos → Nat × St
  | .l6 i => (6, ⟨mkTm 26 [(0, .d (.sl T_opnd_AtPart) a), (1, .d (.sl T_opnd_AtPart) b), (5, .d (.int .i64) i)], []⟩)
theorem en_book_SameTwos (a : List (El T_opnd_AtPart)) (b : List (El T_opnd_AtPart)) (L : Lt) : entryA Go.Proofs.Tryz.prog (clOf t_book_SameTwos) tb_book_SameTwos Go.Proofs.Tryz.f12 c_book_SameTwos L (toForms sg_book_SameTwos (a, b, ())) = (T0_book_SameTwos a b).run (fun v => some (R_book_SameTwos v, tps (toForms sg_book_SameTwos (a, b, ())))) fun j => L (S_book_SameTwos a b j).1 (S_book_SameTwos a b j).2 := by kernel_rfl
theorem lp_book_SameTwos (a : List (El T_opnd_AtPart)) (b : List (El T_opnd_AtPart)) : ∀ (L : Lt) (j : J_book_SameTwos), procOf (procsF Go.Proofs.Tryz.prog (clOf t_book_SameTwos) tb_book_SameTwos Go.Proofs.Tryz.f12 c_book_SameTwos (toForms sg_book_SameTwos (a, b, ()))) (S_book_SameTwos a b j).1 L (S_book_SameTwos a b j).2 = (T_book_SameTwos a b j).run (fun v => some (R_book_SameTwos v, tps (toForms sg_book_SameTwos (a, b, ())))) fun j => L (S_book_SameTwos a b j).1 (S_book_SameTwos a b j).2
  | L, .l6 i => by kernel_rfl
end
end Go.Ev
end

section
set_option linter.unusedSectionVars false
set_option linter.unusedVariables false
set_option linter.unusedSimpArgs false
set_option linter.unusedVariables false
set_option linter.unusedSimpArgs false
open Go
namespace Go.Ev
theorem twoB_eq {a b : El T_opnd_AtPart} : (a.1 == b.1 && a.2 == b.2) = decide (a = b) := by
  obtain ⟨a1, a2⟩ := a
  obtain ⟨b1, b2⟩ := b
  rw [Bool.eq_iff_iff]
  simp

def v_book_SameTwos (a b : List (El T_opnd_AtPart)) : Bool := decide (a = b)
def k_book_SameTwos (a b : List (El T_opnd_AtPart)) : Bool := decide (a.length < 4611686018427387904)
theorem g_book_SameTwos (a b : List (El T_opnd_AtPart)) (hk : k_book_SameTwos a b = true) : Goes (T_book_SameTwos a b) (T0_book_SameTwos a b) (v_book_SameTwos a b) := by
  have hn : a.length < 4611686018427387904 := of_decide_eq_true hk
  have loop : a.length = b.length → ∀ k, k ≤ a.length → Goes (T_book_SameTwos a b) (.jmp (.l6 (k : Int))) (decide (a.drop k = b.drop k)) := by
    intro he
    refine down ?_ fun k hk ih => ?_
    · rw [goes_jmp]
      simp [T_book_SameTwos, goes_br, goes_leaf, he]
    · rw [goes_jmp]
      have hkb : k < b.length := he ▸ hk
      simp only [T_book_SameTwos, goes_br, lt_len hk, lt_len hkb, nng, Bool.and_self, if_true, Int.toNat_natCast, getD_lt hk, getD_lt hkb, wrap_succ (k := k) (by omega)]
      rw [drop_cons hk, drop_cons hkb]
      split
      · rename_i h1
        have h2 : (! decide (a[k] = b[k])) = true := (congrArg Bool.not twoB_eq).symm.trans h1
        have h3 : ¬ a[k] = b[k] := by simpa using h2
        rw [decide_eq_false (fun e => h3 (List.cons.inj e).1)]
        exact .leaf
      · rename_i h1
        have h2 : ¬ (! decide (a[k] = b[k])) = true := fun h => h1 ((congrArg Bool.not twoB_eq).trans h)
        have h3 : a[k] = b[k] := by simpa using h2
        rw [show decide (a[k] :: List.drop (k + 1) a = b[k] :: List.drop (k + 1) b) = decide (List.drop (k + 1) a = List.drop (k + 1) b) from decide_eq_decide.2 ⟨fun e => (List.cons.inj e).2, fun e => by rw [h3, e]⟩]
        exact ih
  unfold T0_book_SameTwos v_book_SameTwos
  rw [goes_br]
  by_cases h : a.length = b.length
  · have := loop h 0 (Nat.zero_le _)
    simpa [h] using this
  · have : a ≠ b := fun e => h (congrArg _ e)
    rw [if_pos (by simp; omega), decide_eq_false this]
    exact .leaf

end Go.Ev
end

section
set_option linter.unusedSectionVars false
set_option linter.unusedVariables false
set_option linter.unusedSimpArgs false
set_option maxRecDepth 100000
set_option linter.unusedVariables false
open Go Go.Ev
namespace Go.Ev
noncomputable section
noncomputable def e_book_SameTwos : Run := entG sg_book_SameTwos R_book_SameTwos (fun a => k_book_SameTwos a.1 a.2.1) (fun a => v_book_SameTwos a.1 a.2.1)
theorem ok_book_SameTwos : EntOK Go.Proofs.Tryz.prog 12 e_book_SameTwos := entG_ok (tb := tb_book_SameTwos) (c := c_book_SameTwos) tk_book_SameTwos (by kernel_rfl) (by kernel_rfl) (by kernel_rfl) (fun a => by kernel_rfl) fun ⟨a, b, _⟩ hk => evF_goes (c := c_book_SameTwos) (K := fun v => (R_book_SameTwos v, tps (toForms sg_book_SameTwos (a, b, ())))) (S := S_book_SameTwos a b) (by kernel_rfl) (en_book_SameTwos a b) (lp_book_SameTwos a b) (g_book_SameTwos a b hk)
end
end Go.Ev
end

section
set_option linter.unusedSectionVars false
set_option linter.unusedVariables false
set_option linter.unusedSimpArgs false
set_option maxRecDepth 100000
set_option linter.unusedVariables false
open Go Go.Ev
namespace Go.Ev
noncomputable section
/-! ### paling/palingbook.SameInts -/
def sg_book_SameInts : Sig := [(false, (.sl (.int .i64))), (false, (.sl (.int .i64)))]
noncomputable def t_book_SameInts : Tbl := []
theorem tk_book_SameInts : ∀ p ∈ t_book_SameInts, EntOK Go.Proofs.Tryz.prog p.1 p.2 := tbl_nil
noncomputable def c_book_SameInts : Code := Go.Proofs.Tryz.f18.body.getD .skip
def tb_book_SameInts : Tb := [(6, ⟨[0, 1, 5], []⟩)]
inductive J_book_SameInts where
  | l6 (i : Int)
def T_book_SameInts (a : List Int) (b : List Int) : J_book_SameInts → JT J_book_SameInts (Bool)
  | .l6 i =>
    .br (decide (i < (Int.ofNat (List.length a))))
      (.br ((decide ((0 : Int) ≤ i)) && (decide (i < (Int.ofNat (List.length a)))))
        (.br ((decide ((0 : Int) ≤ i)) && (decide (i < (Int.ofNat (List.length b)))))
          (.br ((List.getD a (Int.toNat i) (dflt (.int .i64))) != (List.getD b (Int.toNat i) (dflt (.int .i64))))
            (.leaf false)
          (.jmp (.l6 (IntKind.i64.wrap (i + (1 : Int))))))
        (.no))
      (.no))
    (.leaf true)
def T0_book_SameInts (a : List Int) (b : List Int) : JT J_book_SameInts (Bool) :=
  .br ((Int.ofNat (List.length a)) != (Int.ofNat (List.length b)))
    (.leaf false)
  (.jmp (.l6 (0 : Int)))
def R_book_SameInts : Bool → AV := fun (r : Bool) => .d .bool r
def S_book_SameInts (a : List Int) (b : List Int) : J_book_SameInts → Nat × St
  | .l6 i => (6, ⟨mkTm 26 [(0, .d (.sl (.int .i64)) a), (1, .d (.sl (.int .i64)) b), (5, .d (.int .i64) i)], []⟩)
theorem en_book_SameInts (a : List Int) (b : List Int) (L : Lt) : entryA Go.Proofs.Tryz.prog (clOf t_book_SameInts) tb_book_SameInts Go.Proofs.Tryz.f18 c_book_SameInts L (toForms sg_book_SameInts (a, b, ())) = (T0_book_SameInts a b).run (fun v => some (R_book_SameInts v, tps (toForms sg_book_SameInts (a, b, ())))) fun j => L (S_book_SameInts a b j).1 (S_book_SameInts a b j).2 := by kernel_rfl
theorem lp_book_SameInts (a : List Int) (b : List Int) : ∀ (L : Lt) (j : J_book_SameInts), procOf (procsF Go.Proofs.Tryz.prog (clOf t_book_SameInts) tb_book_SameInts Go.Proofs.Tryz.f18 c_book_SameInts (toForms sg_book_SameInts (a, b, ()))) (S_book_SameInts a b j).1 L (S_book_SameInts a b j).2 = (T_book_SameInts a b j).run (fun v => some (R_book_SameInts v, tps (toForms sg_book_SameInts (a, b, ())))) fun j => L (S_book_SameInts a b j).1 (S_book_SameInts a b j).2
  | L, .l6 i => by kernel_rfl
end
end Go.Ev
end

section
set_option linter.unusedSectionVars false
set_option linter.unusedVariables false
set_option linter.unusedSimpArgs false
set_option linter.unusedVariables false
set_option linter.unusedSimpArgs false
open Go
namespace Go.Ev
theorem intB_eq {a b : Int} : (a == b) = decide (a = b) := by rw [Bool.eq_iff_iff]; simp

def v_book_SameInts (a b : List Int) : Bool := decide (a = b)
def k_book_SameInts (a b : List Int) : Bool := decide (a.length < 4611686018427387904)
theorem g_book_SameInts (a b : List Int) (hk : k_book_SameInts a b = true) : Goes (T_book_SameInts a b) (T0_book_SameInts a b) (v_book_SameInts a b) := by
  have hn : a.length < 4611686018427387904 := of_decide_eq_true hk
  have loop : a.length = b.length → ∀ k, k ≤ a.length → Goes (T_book_SameInts a b) (.jmp (.l6 (k : Int))) (decide (a.drop k = b.drop k)) := by
    intro he
    refine down ?_ fun k hk ih => ?_
    · rw [goes_jmp]
      simp [T_book_SameInts, goes_br, goes_leaf, he]
    · rw [goes_jmp]
      have hkb : k < b.length := he ▸ hk
      simp only [T_book_SameInts, goes_br, lt_len hk, lt_len hkb, nng, Bool.and_self, if_true, Int.toNat_natCast, getD_lt hk, getD_lt hkb, wrap_succ (k := k) (by omega)]
      rw [drop_cons hk, drop_cons hkb]
      split
      · rename_i h1
        have h2 : (! decide (a[k] = b[k])) = true := (congrArg Bool.not intB_eq).symm.trans h1
        have h3 : ¬ a[k] = b[k] := by simpa using h2
        rw [decide_eq_false (fun e => h3 (List.cons.inj e).1)]
        exact .leaf
      · rename_i h1
        have h2 : ¬ (! decide (a[k] = b[k])) = true := fun h => h1 ((congrArg Bool.not intB_eq).trans h)
        have h3 : a[k] = b[k] := by simpa using h2
        rw [show decide (a[k] :: List.drop (k + 1) a = b[k] :: List.drop (k + 1) b) = decide (List.drop (k + 1) a = List.drop (k + 1) b) from decide_eq_decide.2 ⟨fun e => (List.cons.inj e).2, fun e => by rw [h3, e]⟩]
        exact ih
  unfold T0_book_SameInts v_book_SameInts
  rw [goes_br]
  by_cases h : a.length = b.length
  · have := loop h 0 (Nat.zero_le _)
    simpa [h] using this
  · have : a ≠ b := fun e => h (congrArg _ e)
    rw [if_pos (by simp; omega), decide_eq_false this]
    exact .leaf

end Go.Ev
end

section
set_option linter.unusedSectionVars false
set_option linter.unusedVariables false
set_option linter.unusedSimpArgs false
set_option maxRecDepth 100000
set_option linter.unusedVariables false
open Go Go.Ev
namespace Go.Ev
noncomputable section
noncomputable def e_book_SameInts : Run := entG sg_book_SameInts R_book_SameInts (fun a => k_book_SameInts a.1 a.2.1) (fun a => v_book_SameInts a.1 a.2.1)
theorem ok_book_SameInts : EntOK Go.Proofs.Tryz.prog 18 e_book_SameInts := entG_ok (tb := tb_book_SameInts) (c := c_book_SameInts) tk_book_SameInts (by kernel_rfl) (by kernel_rfl) (by kernel_rfl) (fun a => by kernel_rfl) fun ⟨a, b, _⟩ hk => evF_goes (c := c_book_SameInts) (K := fun v => (R_book_SameInts v, tps (toForms sg_book_SameInts (a, b, ())))) (S := S_book_SameInts a b) (by kernel_rfl) (en_book_SameInts a b) (lp_book_SameInts a b) (g_book_SameInts a b hk)
end
end Go.Ev
end

section
set_option linter.unusedSectionVars false
set_option linter.unusedVariables false
set_option linter.unusedSimpArgs false
set_option maxRecDepth 100000
set_option linter.unusedVariables false
open Go Go.Ev
namespace Go.Ev
noncomputable section
/-! ### paling/palinglaw23.alive -/
def sg_law23_alive : Sig := []
noncomputable def t_law23_alive : Tbl := [(38, e_law23_both), (13, e_clash_Pairs), (12, e_book_SameTwos), (19, e_clash_Back), (18, e_book_SameInts)]
theorem tk_law23_alive : ∀ p ∈ t_law23_alive, EntOK Go.Proofs.Tryz.prog p.1 p.2 := tbl_cons ok_law23_both (tbl_cons ok_clash_Pairs (tbl_cons ok_book_SameTwos (tbl_cons ok_clash_Back (tbl_cons ok_book_SameInts (tbl_nil)))))
noncomputable def c_law23_alive : Code := Go.Proofs.Tryz.f16.body.getD .skip
def tb_law23_alive : Tb := []
def T_law23_alive : Empty → JT Empty (Bool) := fun j => nomatch j
def T0_law23_alive : JT Empty (Bool) :=
  .br (k_clash_Pairs v_law23_both)
    (.br (k_book_SameTwos (v_clash_Pairs v_law23_both) [((0 : Int), (3 : Int)), ((1 : Int), (2 : Int))])
      (.br (v_book_SameTwos (v_clash_Pairs v_law23_both) [((0 : Int), (3 : Int)), ((1 : Int), (2 : Int))])
        (.br (k_clash_Back v_law23_both (1 : Int))
          (.br (k_book_SameInts (v_clash_Back v_law23_both (1 : Int)) [(0 : Int), (1 : Int)])
            (.br (v_book_SameInts (v_clash_Back v_law23_both (1 : Int)) [(0 : Int), (1 : Int)])
              (.br (k_clash_Back v_law23_both (0 : Int))
                (.br (k_book_SameInts (v_clash_Back v_law23_both (0 : Int)) [(0 : Int)])
                  (.br (v_book_SameInts (v_clash_Back v_law23_both (0 : Int)) [(0 : Int)])
                    (.br (k_clash_Back v_law23_both (4 : Int))
                      (.leaf ((Int.ofNat (List.length (v_clash_Back v_law23_both (4 : Int)))) == (0 : Int)))
                    (.no))
                  (.leaf false))
                (.no))
              (.no))
            (.leaf false))
          (.no))
        (.no))
      (.leaf false))
    (.no))
  (.no)
def v_law23_alive : Bool :=
  bif (k_clash_Pairs v_law23_both) then
    bif (k_book_SameTwos (v_clash_Pairs v_law23_both) [((0 : Int), (3 : Int)), ((1 : Int), (2 : Int))]) then
      bif (v_book_SameTwos (v_clash_Pairs v_law23_both) [((0 : Int), (3 : Int)), ((1 : Int), (2 : Int))]) then
        bif (k_clash_Back v_law23_both (1 : Int)) then
          bif (k_book_SameInts (v_clash_Back v_law23_both (1 : Int)) [(0 : Int), (1 : Int)]) then
            bif (v_book_SameInts (v_clash_Back v_law23_both (1 : Int)) [(0 : Int), (1 : Int)]) then
              bif (k_clash_Back v_law23_both (0 : Int)) then
                bif (k_book_SameInts (v_clash_Back v_law23_both (0 : Int)) [(0 : Int)]) then
                  bif (v_book_SameInts (v_clash_Back v_law23_both (0 : Int)) [(0 : Int)]) then
                    bif (k_clash_Back v_law23_both (4 : Int)) then
                      ((Int.ofNat (List.length (v_clash_Back v_law23_both (4 : Int)))) == (0 : Int))
                    else false
                  else false
                else false
              else false
            else false
          else false
        else false
      else false
    else false
  else false
def k_law23_alive : Bool :=
  bif (k_clash_Pairs v_law23_both) then
    bif (k_book_SameTwos (v_clash_Pairs v_law23_both) [((0 : Int), (3 : Int)), ((1 : Int), (2 : Int))]) then
      bif (v_book_SameTwos (v_clash_Pairs v_law23_both) [((0 : Int), (3 : Int)), ((1 : Int), (2 : Int))]) then
        bif (k_clash_Back v_law23_both (1 : Int)) then
          bif (k_book_SameInts (v_clash_Back v_law23_both (1 : Int)) [(0 : Int), (1 : Int)]) then
            bif (v_book_SameInts (v_clash_Back v_law23_both (1 : Int)) [(0 : Int), (1 : Int)]) then
              bif (k_clash_Back v_law23_both (0 : Int)) then
                bif (k_book_SameInts (v_clash_Back v_law23_both (0 : Int)) [(0 : Int)]) then
                  bif (v_book_SameInts (v_clash_Back v_law23_both (0 : Int)) [(0 : Int)]) then
                    bif (k_clash_Back v_law23_both (4 : Int)) then
                      true
                    else false
                  else true
                else false
              else false
            else true
          else false
        else false
      else true
    else false
  else false
theorem g_law23_alive (hk : k_law23_alive = true) : Goes (T_law23_alive) (T0_law23_alive) (v_law23_alive) :=
  Goes.brk hk (fun hk =>
    Goes.brk hk (fun hk =>
      Goes.brk hk (fun hk =>
        Goes.brk hk (fun hk =>
          Goes.brk hk (fun hk =>
            Goes.brk hk (fun hk =>
              Goes.brk hk (fun hk =>
                Goes.brk hk (fun hk =>
                  Goes.brk hk (fun hk =>
                    Goes.brk hk (fun hk =>
                      Goes.leaf) (fun hk =>
                      Goes.nok hk)) (fun hk =>
                    Goes.leaf)) (fun hk =>
                  Goes.nok hk)) (fun hk =>
                Goes.nok hk)) (fun hk =>
              Goes.leaf)) (fun hk =>
            Goes.nok hk)) (fun hk =>
          Goes.nok hk)) (fun hk =>
        Goes.leaf)) (fun hk =>
      Goes.nok hk)) (fun hk =>
    Goes.nok hk)
def R_law23_alive : Bool → AV := fun (r : Bool) => .d .bool r
def S_law23_alive : Empty → Nat × St := fun j => nomatch j
theorem en_law23_alive (L : Lt) : entryA Go.Proofs.Tryz.prog (clOf t_law23_alive) tb_law23_alive Go.Proofs.Tryz.f16 c_law23_alive L (toForms sg_law23_alive (())) = (T0_law23_alive).run (fun v => some (R_law23_alive v, tps (toForms sg_law23_alive (())))) fun j => L (S_law23_alive j).1 (S_law23_alive j).2 := by kernel_rfl
theorem lp_law23_alive : ∀ (L : Lt) (j : Empty), procOf (procsF Go.Proofs.Tryz.prog (clOf t_law23_alive) tb_law23_alive Go.Proofs.Tryz.f16 c_law23_alive (toForms sg_law23_alive (()))) (S_law23_alive j).1 L (S_law23_alive j).2 = (T_law23_alive j).run (fun v => some (R_law23_alive v, tps (toForms sg_law23_alive (())))) fun j => L (S_law23_alive j).1 (S_law23_alive j).2 := fun L j => nomatch j
noncomputable def e_law23_alive : Run := entG sg_law23_alive R_law23_alive (fun a => k_law23_alive) (fun a => v_law23_alive)
theorem ok_law23_alive : EntOK Go.Proofs.Tryz.prog 16 e_law23_alive := entG_ok (tb := tb_law23_alive) (c := c_law23_alive) tk_law23_alive (by kernel_rfl) (by kernel_rfl) (by kernel_rfl) (fun a => by kernel_rfl) fun _ hk => evF_goes (c := c_law23_alive) (K := fun v => (R_law23_alive v, tps (toForms sg_law23_alive (())))) (S := S_law23_alive) (by kernel_rfl) (en_law23_alive) (lp_law23_alive) (g_law23_alive hk)
end
end Go.Ev
end

section
set_option linter.unusedSectionVars false
set_option linter.unusedVariables false
set_option linter.unusedSimpArgs false
set_option maxRecDepth 100000
set_option linter.unusedVariables false
open Go Go.Ev
namespace Go.Ev
noncomputable section
/-! ### paling/palinglaw23.ClashTwo -/
def sg_law23_ClashTwo : Sig := [(false, (.sl T_book_Act)), (false, (.sl T_book_Act))]
noncomputable def t_law23_ClashTwo : Tbl := [(11, e_book_Prog), (17, e_ref3_Accesses), (19, e_clash_Back), (22, e_ref3_From), (21, e_ref3_In), (23, e_ref3_Clash), (16, e_law23_alive)]
theorem tk_law23_ClashTwo : ∀ p ∈ t_law23_ClashTwo, EntOK Go.Proofs.Tryz.prog p.1 p.2 := tbl_cons ok_book_Prog (tbl_cons ok_ref3_Accesses (tbl_cons ok_clash_Back (tbl_cons ok_ref3_From (tbl_cons ok_ref3_In (tbl_cons ok_ref3_Clash (tbl_cons ok_law23_alive (tbl_nil)))))))
noncomputable def c_law23_ClashTwo : Code := Go.Proofs.Tryz.f6.body.getD .skip
def tb_law23_ClashTwo : Tb := [(5, ⟨[5, 6, 7, 66, 72, 77, 78, 80, 92, 98, 104, 106, 112], []⟩), (11, ⟨[5, 6, 7, 8, 9, 66, 72, 77, 78, 80, 92, 98, 104, 106, 112], []⟩), (18, ⟨[5, 6, 7, 8, 9, 10, 11, 66, 72, 77, 78, 80, 92, 98, 104, 106, 112], []⟩), (23, ⟨[5, 6, 7, 8, 9, 10, 11, 12], []⟩)]
inductive J_law23_ClashTwo where
  | l5 (a : Int)
  | l11 (b : Int) (a : Int) (back : List Int)
  | l18 (c : Int) (b : Int) (a : Int) (back : List Int) (is : Bool)
  | l23 (is : Bool) (d : Int) (c : Int) (b : Int) (a : Int) (back : List Int)
def T_law23_ClashTwo (l : List (El T_book_Act)) (m : List (El T_book_Act)) : J_law23_ClashTwo → JT J_law23_ClashTwo (Bool)
  | .l5 a =>
    .br (decide (a < (Int.ofNat (List.length (v_ref3_Accesses (v_book_Prog [l, m] (2 : Int) (4 : Int)))))))
      (.br (k_clash_Back (v_book_Prog [l, m] (2 : Int) (4 : Int)) a)
        (.jmp (.l11 (0 : Int) a (v_clash_Back (v_book_Prog [l, m] (2 : Int) (4 : Int)) a)))
      (.no))
    (.br k_law23_alive
      (.leaf v_law23_alive)
    (.no))
  | .l11 b a back =>
    .br (decide (b < (Int.ofNat (List.length (v_ref3_Accesses (v_book_Prog [l, m] (2 : Int) (4 : Int)))))))
      (.jmp (.l18 (0 : Int) b a back false))
    (.jmp (.l5 (IntKind.i64.wrap (a + (1 : Int)))))
  | .l18 c b a back is =>
    .br (decide (c < (Int.ofNat (List.length (v_ref3_Accesses (v_book_Prog [l, m] (2 : Int) (4 : Int)))))))
      (.jmp (.l23 is (0 : Int) c b a back))
    (.br (k_ref3_In back b)
      (.br is
        (.br ((decide ((0 : Int) ≤ a)) && (decide (a < (Int.ofNat (List.length (v_ref3_Accesses (v_book_Prog [l, m] (2 : Int) (4 : Int))))))))
          (.br ((decide ((0 : Int) ≤ b)) && (decide (b < (Int.ofNat (List.length (v_ref3_Accesses (v_book_Prog [l, m] (2 : Int) (4 : Int))))))))
            (.br (! ((v_ref3_In back b) == ((List.getD (v_ref3_Accesses (v_book_Prog [l, m] (2 : Int) (4 : Int))) (Int.toNat a) (dflt T_api_Access)).1 == (List.getD (v_ref3_Accesses (v_book_Prog [l, m] (2 : Int) (4 : Int))) (Int.toNat b) (dflt T_api_Access)).1)))
              (.leaf false)
            (.jmp (.l11 (IntKind.i64.wrap (b + (1 : Int))) a back)))
          (.no))
        (.no))
      (.br (! ((v_ref3_In back b) == false))
        (.leaf false)
      (.jmp (.l11 (IntKind.i64.wrap (b + (1 : Int))) a back))))
    (.no))
  | .l23 is d c b a back =>
    .br (decide (d < (Int.ofNat (List.length (v_ref3_Accesses (v_book_Prog [l, m] (2 : Int) (4 : Int)))))))
      (.br ((decide ((0 : Int) ≤ c)) && (decide (c < (Int.ofNat (List.length (v_ref3_Accesses (v_book_Prog [l, m] (2 : Int) (4 : Int))))))))
        (.br ((decide ((0 : Int) ≤ d)) && (decide (d < (Int.ofNat (List.length (v_ref3_Accesses (v_book_Prog [l, m] (2 : Int) (4 : Int))))))))
          (.br ((List.getD (v_ref3_Accesses (v_book_Prog [l, m] (2 : Int) (4 : Int))) (Int.toNat c) (dflt T_api_Access)).1 == (List.getD (v_ref3_Accesses (v_book_Prog [l, m] (2 : Int) (4 : Int))) (Int.toNat d) (dflt T_api_Access)).1)
            (.br (c == d)
              (.br is
                (.jmp (.l23 true (IntKind.i64.wrap (d + (1 : Int))) c b a back))
              (.br ((decide ((0 : Int) ≤ a)) && (decide (a < (Int.ofNat (List.length (v_ref3_Accesses (v_book_Prog [l, m] (2 : Int) (4 : Int))))))))
                (.br (v_ref3_Clash (List.getD (v_ref3_Accesses (v_book_Prog [l, m] (2 : Int) (4 : Int))) (Int.toNat a) (dflt T_api_Access)) (List.getD (v_ref3_Accesses (v_book_Prog [l, m] (2 : Int) (4 : Int))) (Int.toNat c) (dflt T_api_Access)))
                  (.br ((decide ((0 : Int) ≤ b)) && (decide (b < (Int.ofNat (List.length (v_ref3_Accesses (v_book_Prog [l, m] (2 : Int) (4 : Int))))))))
                    (.jmp (.l23 (v_ref3_Clash (List.getD (v_ref3_Accesses (v_book_Prog [l, m] (2 : Int) (4 : Int))) (Int.toNat d) (dflt T_api_Access)) (List.getD (v_ref3_Accesses (v_book_Prog [l, m] (2 : Int) (4 : Int))) (Int.toNat b) (dflt T_api_Access))) (IntKind.i64.wrap (d + (1 : Int))) c b a back))
                  (.no))
                (.jmp (.l23 false (IntKind.i64.wrap (d + (1 : Int))) c b a back)))
              (.no)))
            (.br ((List.getD (v_ref3_Accesses (v_book_Prog [l, m] (2 : Int) (4 : Int))) (Int.toNat c) (dflt T_api_Access)).2.1 == (List.getD (v_ref3_Accesses (v_book_Prog [l, m] (2 : Int) (4 : Int))) (Int.toNat d) (dflt T_api_Access)).2.1)
              (.br (decide ((List.getD (v_ref3_Accesses (v_book_Prog [l, m] (2 : Int) (4 : Int))) (Int.toNat c) (dflt T_api_Access)).2.2.1 < (List.getD (v_ref3_Accesses (v_book_Prog [l, m] (2 : Int) (4 : Int))) (Int.toNat d) (dflt T_api_Access)).2.2.1))
                (.br is
                  (.jmp (.l23 true (IntKind.i64.wrap (d + (1 : Int))) c b a back))
                (.br ((decide ((0 : Int) ≤ a)) && (decide (a < (Int.ofNat (List.length (v_ref3_Accesses (v_book_Prog [l, m] (2 : Int) (4 : Int))))))))
                  (.br (v_ref3_Clash (List.getD (v_ref3_Accesses (v_book_Prog [l, m] (2 : Int) (4 : Int))) (Int.toNat a) (dflt T_api_Access)) (List.getD (v_ref3_Accesses (v_book_Prog [l, m] (2 : Int) (4 : Int))) (Int.toNat c) (dflt T_api_Access)))
                    (.br ((decide ((0 : Int) ≤ b)) && (decide (b < (Int.ofNat (List.length (v_ref3_Accesses (v_book_Prog [l, m] (2 : Int) (4 : Int))))))))
                      (.jmp (.l23 (v_ref3_Clash (List.getD (v_ref3_Accesses (v_book_Prog [l, m] (2 : Int) (4 : Int))) (Int.toNat d) (dflt T_api_Access)) (List.getD (v_ref3_Accesses (v_book_Prog [l, m] (2 : Int) (4 : Int))) (Int.toNat b) (dflt T_api_Access))) (IntKind.i64.wrap (d + (1 : Int))) c b a back))
                    (.no))
                  (.jmp (.l23 false (IntKind.i64.wrap (d + (1 : Int))) c b a back)))
                (.no)))
              (.br ((decide ((0 : Int) ≤ (List.getD (v_ref3_Accesses (v_book_Prog [l, m] (2 : Int) (4 : Int))) (Int.toNat c) (dflt T_api_Access)).1)) && (decide ((List.getD (v_ref3_Accesses (v_book_Prog [l, m] (2 : Int) (4 : Int))) (Int.toNat c) (dflt T_api_Access)).1 < (Int.ofNat (List.length (v_book_Prog [l, m] (2 : Int) (4 : Int)).2)))))
                (.br (k_ref3_From (List.getD (v_book_Prog [l, m] (2 : Int) (4 : Int)).2 (Int.toNat (List.getD (v_ref3_Accesses (v_book_Prog [l, m] (2 : Int) (4 : Int))) (Int.toNat c) (dflt T_api_Access)).1) (dflt (.sl T_api_Ins))) (List.getD (v_ref3_Accesses (v_book_Prog [l, m] (2 : Int) (4 : Int))) (Int.toNat c) (dflt T_api_Access)).2.1)
                  (.br (k_ref3_In (v_ref3_From (List.getD (v_book_Prog [l, m] (2 : Int) (4 : Int)).2 (Int.toNat (List.getD (v_ref3_Accesses (v_book_Prog [l, m] (2 : Int) (4 : Int))) (Int.toNat c) (dflt T_api_Access)).1) (dflt (.sl T_api_Ins))) (List.getD (v_ref3_Accesses (v_book_Prog [l, m] (2 : Int) (4 : Int))) (Int.toNat c) (dflt T_api_Access)).2.1) (List.getD (v_ref3_Accesses (v_book_Prog [l, m] (2 : Int) (4 : Int))) (Int.toNat d) (dflt T_api_Access)).2.1)
                    (.br is
                      (.jmp (.l23 true (IntKind.i64.wrap (d + (1 : Int))) c b a back))
                    (.br (v_ref3_In (v_ref3_From (List.getD (v_book_Prog [l, m] (2 : Int) (4 : Int)).2 (Int.toNat (List.getD (v_ref3_Accesses (v_book_Prog [l, m] (2 : Int) (4 : Int))) (Int.toNat c) (dflt T_api_Access)).1) (dflt (.sl T_api_Ins))) (List.getD (v_ref3_Accesses (v_book_Prog [l, m] (2 : Int) (4 : Int))) (Int.toNat c) (dflt T_api_Access)).2.1) (List.getD (v_ref3_Accesses (v_book_Prog [l, m] (2 : Int) (4 : Int))) (Int.toNat d) (dflt T_api_Access)).2.1)
                      (.br ((decide ((0 : Int) ≤ a)) && (decide (a < (Int.ofNat (List.length (v_ref3_Accesses (v_book_Prog [l, m] (2 : Int) (4 : Int))))))))
                        (.br (v_ref3_Clash (List.getD (v_ref3_Accesses (v_book_Prog [l, m] (2 : Int) (4 : Int))) (Int.toNat a) (dflt T_api_Access)) (List.getD (v_ref3_Accesses (v_book_Prog [l, m] (2 : Int) (4 : Int))) (Int.toNat c) (dflt T_api_Access)))
                          (.br ((decide ((0 : Int) ≤ b)) && (decide (b < (Int.ofNat (List.length (v_ref3_Accesses (v_book_Prog [l, m] (2 : Int) (4 : Int))))))))
                            (.jmp (.l23 (v_ref3_Clash (List.getD (v_ref3_Accesses (v_book_Prog [l, m] (2 : Int) (4 : Int))) (Int.toNat d) (dflt T_api_Access)) (List.getD (v_ref3_Accesses (v_book_Prog [l, m] (2 : Int) (4 : Int))) (Int.toNat b) (dflt T_api_Access))) (IntKind.i64.wrap (d + (1 : Int))) c b a back))
                          (.no))
                        (.jmp (.l23 false (IntKind.i64.wrap (d + (1 : Int))) c b a back)))
                      (.no))
                    (.jmp (.l23 false (IntKind.i64.wrap (d + (1 : Int))) c b a back))))
                  (.no))
                (.no))
              (.no)))
            (.br ((decide ((0 : Int) ≤ (List.getD (v_ref3_Accesses (v_book_Prog [l, m] (2 : Int) (4 : Int))) (Int.toNat c) (dflt T_api_Access)).1)) && (decide ((List.getD (v_ref3_Accesses (v_book_Prog [l, m] (2 : Int) (4 : Int))) (Int.toNat c) (dflt T_api_Access)).1 < (Int.ofNat (List.length (v_book_Prog [l, m] (2 : Int) (4 : Int)).2)))))
              (.br (k_ref3_From (List.getD (v_book_Prog [l, m] (2 : Int) (4 : Int)).2 (Int.toNat (List.getD (v_ref3_Accesses (v_book_Prog [l, m] (2 : Int) (4 : Int))) (Int.toNat c) (dflt T_api_Access)).1) (dflt (.sl T_api_Ins))) (List.getD (v_ref3_Accesses (v_book_Prog [l, m] (2 : Int) (4 : Int))) (Int.toNat c) (dflt T_api_Access)).2.1)
                (.br (k_ref3_In (v_ref3_From (List.getD (v_book_Prog [l, m] (2 : Int) (4 : Int)).2 (Int.toNat (List.getD (v_ref3_Accesses (v_book_Prog [l, m] (2 : Int) (4 : Int))) (Int.toNat c) (dflt T_api_Access)).1) (dflt (.sl T_api_Ins))) (List.getD (v_ref3_Accesses (v_book_Prog [l, m] (2 : Int) (4 : Int))) (Int.toNat c) (dflt T_api_Access)).2.1) (List.getD (v_ref3_Accesses (v_book_Prog [l, m] (2 : Int) (4 : Int))) (Int.toNat d) (dflt T_api_Access)).2.1)
                  (.br is
                    (.jmp (.l23 true (IntKind.i64.wrap (d + (1 : Int))) c b a back))
                  (.br (v_ref3_In (v_ref3_From (List.getD (v_book_Prog [l, m] (2 : Int) (4 : Int)).2 (Int.toNat (List.getD (v_ref3_Accesses (v_book_Prog [l, m] (2 : Int) (4 : Int))) (Int.toNat c) (dflt T_api_Access)).1) (dflt (.sl T_api_Ins))) (List.getD (v_ref3_Accesses (v_book_Prog [l, m] (2 : Int) (4 : Int))) (Int.toNat c) (dflt T_api_Access)).2.1) (List.getD (v_ref3_Accesses (v_book_Prog [l, m] (2 : Int) (4 : Int))) (Int.toNat d) (dflt T_api_Access)).2.1)
                    (.br ((decide ((0 : Int) ≤ a)) && (decide (a < (Int.ofNat (List.length (v_ref3_Accesses (v_book_Prog [l, m] (2 : Int) (4 : Int))))))))
                      (.br (v_ref3_Clash (List.getD (v_ref3_Accesses (v_book_Prog [l, m] (2 : Int) (4 : Int))) (Int.toNat a) (dflt T_api_Access)) (List.getD (v_ref3_Accesses (v_book_Prog [l, m] (2 : Int) (4 : Int))) (Int.toNat c) (dflt T_api_Access)))
                        (.br ((decide ((0 : Int) ≤ b)) && (decide (b < (Int.ofNat (List.length (v_ref3_Accesses (v_book_Prog [l, m] (2 : Int) (4 : Int))))))))
                          (.jmp (.l23 (v_ref3_Clash (List.getD (v_ref3_Accesses (v_book_Prog [l, m] (2 : Int) (4 : Int))) (Int.toNat d) (dflt T_api_Access)) (List.getD (v_ref3_Accesses (v_book_Prog [l, m] (2 : Int) (4 : Int))) (Int.toNat b) (dflt T_api_Access))) (IntKind.i64.wrap (d + (1 : Int))) c b a back))
                        (.no))
                      (.jmp (.l23 false (IntKind.i64.wrap (d + (1 : Int))) c b a back)))
                    (.no))
                  (.jmp (.l23 false (IntKind.i64.wrap (d + (1 : Int))) c b a back))))
                (.no))
              (.no))
            (.no))))
          (.br is
            (.jmp (.l23 true (IntKind.i64.wrap (d + (1 : Int))) c b a back))
          (.jmp (.l23 false (IntKind.i64.wrap (d + (1 : Int))) c b a back))))
        (.no))
      (.no))
    (.jmp (.l18 (IntKind.i64.wrap (c + (1 : Int))) b a back is))
def T0_law23_ClashTwo (l : List (El T_book_Act)) (m : List (El T_book_Act)) : JT J_law23_ClashTwo (Bool) :=
  .br (k_book_Prog [l, m] (2 : Int) (4 : Int))
    (.br (k_ref3_Accesses (v_book_Prog [l, m] (2 : Int) (4 : Int)))
      (.jmp (.l5 (0 : Int)))
    (.no))
  (.no)
def R_law23_ClashTwo : Bool → AV := fun (r : Bool) => .d .bool r
def S_law23_ClashTwo (l : List (El T_book_Act)) (m : List (El T_book_Act)) : J_law23_ClashTwo → Nat × St
  | .l5 a => (5, ⟨mkTm 134 [(5, .pt 6 0 0), (6, .own 7 0 none), (7, .d (.int .i64) a)], [(6, 0, .box 26 [.own 6145 0 none, .own 6146 0 none] none), (7, 0, .row 43 T_api_Access (v_ref3_Accesses (v_book_Prog [l, m] (2 : Int) (4 : Int))) false), (6145, 0, .row 67 T_api_Sym (v_book_Prog [l, m] (2 : Int) (4 : Int)).1 false), (6146, 0, .row 48 (.sl T_api_Ins) (v_book_Prog [l, m] (2 : Int) (4 : Int)).2 false)]⟩)
  | .l11 b a back => (11, ⟨mkTm 134 [(5, .pt 6 0 0), (6, .own 7 0 none), (7, .d (.int .i64) a), (8, .own 9 0 none), (9, .d (.int .i64) b)], [(6, 0, .box 26 [.own 6145 0 none, .own 6146 0 none] none), (7, 0, .row 43 T_api_Access (v_ref3_Accesses (v_book_Prog [l, m] (2 : Int) (4 : Int))) false), (9, 0, .row 3 (.int .i64) back false), (6145, 0, .row 67 T_api_Sym (v_book_Prog [l, m] (2 : Int) (4 : Int)).1 false), (6146, 0, .row 48 (.sl T_api_Ins) (v_book_Prog [l, m] (2 : Int) (4 : Int)).2 false)]⟩)
  | .l18 c b a back is => (18, ⟨mkTm 134 [(5, .pt 6 0 0), (6, .own 7 0 none), (7, .d (.int .i64) a), (8, .own 9 0 none), (9, .d (.int .i64) b), (10, .d .bool is), (11, .d (.int .i64) c)], [(6, 0, .box 26 [.own 6145 0 none, .own 6146 0 none] none), (7, 0, .row 43 T_api_Access (v_ref3_Accesses (v_book_Prog [l, m] (2 : Int) (4 : Int))) false), (9, 0, .row 3 (.int .i64) back false), (6145, 0, .row 67 T_api_Sym (v_book_Prog [l, m] (2 : Int) (4 : Int)).1 false), (6146, 0, .row 48 (.sl T_api_Ins) (v_book_Prog [l, m] (2 : Int) (4 : Int)).2 false)]⟩)
  | .l23 is d c b a back => (23, ⟨mkTm 134 [(5, .pt 6 0 0), (6, .own 7 0 none), (7, .d (.int .i64) a), (8, .own 9 0 none), (9, .d (.int .i64) b), (10, .d .bool is), (11, .d (.int .i64) c), (12, .d (.int .i64) d)], [(6, 0, .box 26 [.own 6145 0 none, .own 6146 0 none] none), (7, 0, .row 43 T_api_Access (v_ref3_Accesses (v_book_Prog [l, m] (2 : Int) (4 : Int))) false), (9, 0, .row 3 (.int .i64) back false), (6145, 0, .row 67 T_api_Sym (v_book_Prog [l, m] (2 : Int) (4 : Int)).1 false), (6146, 0, .row 48 (.sl T_api_Ins) (v_book_Prog [l, m] (2 : Int) (4 : Int)).2 false)]⟩)
theorem en_law23_ClashTwo (l : List (El T_book_Act)) (m : List (El T_book_Act)) (L : Lt) : entryA Go.Proofs.Tryz.prog (clOf t_law23_ClashTwo) tb_law23_ClashTwo Go.Proofs.Tryz.f6 c_law23_ClashTwo L (toForms sg_law23_ClashTwo (l, m, ())) = (T0_law23_ClashTwo l m).run (fun v => some (R_law23_ClashTwo v, tps (toForms sg_law23_ClashTwo (l, m, ())))) fun j => L (S_law23_ClashTwo l m j).1 (S_law23_ClashTwo l m j).2 := by kernel_rfl
theorem lp_law23_ClashTwo (l : List (El T_book_Act)) (m : List (El T_book_Act)) : ∀ (L : Lt) (j : J_law23_ClashTwo), procOf (procsF Go.Proofs.Tryz.prog (clOf t_law23_ClashTwo) tb_law23_ClashTwo Go.Proofs.Tryz.f6 c_law23_ClashTwo (toForms sg_law23_ClashTwo (l, m, ()))) (S_law23_ClashTwo l m j).1 L (S_law23_ClashTwo l m j).2 = (T_law23_ClashTwo l m j).run (fun v => some (R_law23_ClashTwo v, tps (toForms sg_law23_ClashTwo (l, m, ())))) fun j => L (S_law23_ClashTwo l m j).1 (S_law23_ClashTwo l m j).2
  | L, .l5 a => by kernel_rfl
  | L, .l11 b a back => by kernel_rfl
  | L, .l18 c b a back is => by kernel_rfl
  | L, .l23 is d c b a back => by kernel_rfl
end
end Go.Ev
end

section
set_option linter.unusedSectionVars false
set_option linter.unusedVariables false
set_option linter.unusedSimpArgs false
set_option maxRecDepth 100000
set_option linter.unusedVariables false
open Go Go.Ev
namespace Go.Ev
noncomputable section
end
end Go.Ev
end

section
set_option linter.unusedSectionVars false
set_option linter.unusedVariables false
set_option linter.unusedSimpArgs false
set_option maxRecDepth 100000
set_option linter.unusedVariables false
open Go Go.Ev
namespace Go.Ev
noncomputable section
end
end Go.Ev
end

section
set_option linter.unusedSectionVars false
set_option linter.unusedVariables false
set_option linter.unusedSimpArgs false
/- Both texts tell the same of what follows an access. -/
set_option maxRecDepth 100000
set_option linter.unusedVariables false
set_option linter.unusedSimpArgs false
open Go
namespace Go.Ev
theorem refClash_eq (l : List Acc) (i j : Nat) : v_ref3_Clash (accA l i) (accA l j) = clB l i j := rfl
theorem acc_facts {p : El T_api_Prog} (h : smallAll p = true) {i : Nat} (hi : i < (ofC p).length) :
    0 ≤ thA (ofC p) i ∧ thA (ofC p) i < (p.2.length : Int) ∧ flowOK (thrOf p (ofC p) i) = true ∧ 0 ≤ inA (ofC p) i ∧ inA (ofC p) i < ((thrOf p (ofC p) i).length : Int) := by
  have hA := smallA h
  have hm : accA (ofC p) i ∈ ofC p := by unfold accA; rw [getD_lt hi]; exact List.getElem_mem hi
  obtain ⟨u, x, j, y, h1, h2, h3, h4, h5⟩ := acc_where hm
  have hth : thA (ofC p) i = (u : Int) := h4
  have hin : inA (ofC p) i = (j : Int) := h5
  have hu := (List.getElem?_eq_some_iff.1 h1).1
  have hj := (List.getElem?_eq_some_iff.1 h2).1
  have ht : thrOf p (ofC p) i = x := by
    unfold thrOf
    rw [hth, Int.toNat_natCast, List.getD_eq_getElem?_getD, h1]; rfl
  rw [ht]
  exact ⟨by omega, by omega, flow_small (hA.thr x (List.mem_of_getElem? h1)), by omega, by omega⟩
end Go.Ev
end

section
set_option linter.unusedSectionVars false
set_option linter.unusedVariables false
set_option linter.unusedSimpArgs false
set_option maxRecDepth 100000
set_option linter.unusedVariables false
set_option linter.unusedSimpArgs false
open Go
namespace Go.Ev
theorem any_succ {P : Nat → Bool} {k : Nat} : (List.range (k + 1)).any P = ((List.range k).any P || P k) := by
  rw [List.range_succ, List.any_append]; simp
end Go.Ev
end

section
set_option linter.unusedSectionVars false
set_option linter.unusedVariables false
set_option linter.unusedSimpArgs false
set_option maxRecDepth 100000
set_option linter.unusedVariables false
open Go Go.Ev
namespace Go.Ev
noncomputable section
end
end Go.Ev
end

section
set_option linter.unusedSectionVars false
set_option linter.unusedVariables false
set_option linter.unusedSimpArgs false
set_option maxRecDepth 100000
set_option linter.unusedVariables false
set_option linter.unusedSimpArgs false
open Go
namespace Go.Ev
end Go.Ev
end

section
set_option linter.unusedSectionVars false
set_option linter.unusedVariables false
set_option linter.unusedSimpArgs false
set_option maxRecDepth 100000
set_option linter.unusedVariables false
open Go Go.Ev
namespace Go.Ev
noncomputable section
end
end Go.Ev
end

section
set_option linter.unusedSectionVars false
set_option linter.unusedVariables false
set_option linter.unusedSimpArgs false
set_option maxRecDepth 100000
set_option linter.unusedVariables false
open Go Go.Ev
namespace Go.Ev
noncomputable section
end
end Go.Ev
end

section
set_option linter.unusedSectionVars false
set_option linter.unusedVariables false
set_option linter.unusedSimpArgs false
/- Lists out of rows. -/
set_option linter.unusedVariables false
namespace Go.Ev
open Go
theorem listFrom_rowX (M : Nat → Bool) : ∀ n k : Nat, listFrom k ((List.range' k n).map M) = ((List.range' k n).filter M).map Int.ofNat
  | 0, k => rfl
  | n + 1, k => by
    rw [List.range'_succ, List.map_cons, List.filter_cons]
    unfold listFrom
    rw [listFrom_rowX M n (k + 1)]
    cases M k <;> simp
theorem list_rowX {n : Nat} {M : Nat → Bool} : listFrom 0 (rowOf n M) = listOf n M := by
  have := listFrom_rowX M n 0
  unfold rowOf listOf
  rw [List.range_eq_range']
  exact this
theorem listOf_leX {n : Nat} {M : Nat → Bool} : (listOf n M).length ≤ n := by rw [listOf_length]; exact card_le
theorem listOf_has {n : Nat} {M : Nat → Bool} {x : Int} : (listOf n M).contains x = (decide (0 ≤ x ∧ x < (n : Int)) && M x.toNat) := by
  rw [Bool.eq_iff_iff, List.contains_iff_mem, listOf_mem]
  simp only [Bool.and_eq_true, decide_eq_true_eq]
  constructor
  · rintro ⟨i, h1, h2, rfl⟩; exact ⟨by omega, by rw [Int.toNat_natCast]; exact h2⟩
  · rintro ⟨h1, h2⟩; exact ⟨x.toNat, by omega, h2, by omega⟩
end Go.Ev
end

section
set_option linter.unusedSectionVars false
set_option linter.unusedVariables false
set_option linter.unusedSimpArgs false
/- Chapter 23: both texts tell the same. -/
set_option maxRecDepth 100000
set_option linter.unusedVariables false
set_option linter.unusedSimpArgs false
open Go
namespace Go.Ev
end Go.Ev
end

section
set_option linter.unusedSectionVars false
set_option linter.unusedVariables false
set_option linter.unusedSimpArgs false
/- Chains, for reckoning. -/
set_option linter.unusedVariables false
open Go
namespace Go.Ev
def fromX (t : List (El T_api_Ins)) (i : Int) (j : Nat) : Bool := (comeL (fun k j => nextB t (k : Int) j) (nextB t i) t.length).getD j false
theorem fromX_eq (t : List (El T_api_Ins)) (i : Int) (j : Nat) : fromB t i j = fromX t i j := comeL_eq (fun j => nextB_lt) (fun k j => nextB_lt) j
def behX (p : El T_api_Prog) (l : List Acc) (c d : Nat) : Bool :=
  decide (d < l.length) && (thA l d == thA l c && (d == c || ((inA l d == inA l c && decide (paA l d > paA l c)) || (decide (0 ≤ inA l d) && fromX (thrOf p l c) (inA l c) (inA l d).toNat))))
theorem behX_eq (p : El T_api_Prog) (l : List Acc) (c d : Nat) : behB p l c d = behX p l c d := by
  unfold behB behX
  rw [fromX_eq]
def chX (p : El T_api_Prog) (l : List Acc) (a i k : Nat) : Bool := decide (k < l.length) && (!(thA l k == thA l a) && (clB l i k || behX p l i k))
def isX (p : El T_api_Prog) (l : List Acc) (a k : Nat) : Bool := (comeL (chX p l a) (chS l a) l.length).getD k false
theorem isX_eq (p : El T_api_Prog) (l : List Acc) (a k : Nat) : isB p l a k = isX p l a k := by
  have e : chB p l a = chX p l a := by
    funext i k
    unfold chB chX
    rw [behX_eq]
  unfold isB isX
  rw [e]
  refine comeL_eq (fun j h => ?_) (fun k j h => ?_) k
  · unfold chS at h
    rw [Bool.and_eq_true, decide_eq_true_eq] at h
    exact h.1
  · unfold chX at h
    rw [Bool.and_eq_true, decide_eq_true_eq] at h
    exact h.1
def backX (p : El T_api_Prog) (l : List Acc) (a b : Nat) : Bool := thA l b == thA l a && (List.range l.length).any fun k => isX p l a k && clB l k b
theorem backX_eq (p : El T_api_Prog) (l : List Acc) (a b : Nat) : backB p l a b = backX p l a b := by
  unfold backB backX
  simp only [isX_eq]
end Go.Ev
end

section
set_option linter.unusedSectionVars false
set_option linter.unusedVariables false
set_option linter.unusedSimpArgs false
/- Chapter 23's first calls. -/
set_option maxRecDepth 100000
set_option linter.unusedVariables false
set_option linter.unusedSimpArgs false
open Go
namespace Go.Ev
theorem alive23 : k_law23_alive = true ∧ v_law23_alive = true := by
  have hs : smallAll v_law23_both = true := by decide +kernel
  have hN : (ofC v_law23_both).length = 4 := by decide +kernel
  have kp : k_clash_Pairs v_law23_both = true := by decide +kernel
  have kb : ∀ a, k_clash_Back v_law23_both a = true := fun _ => hs
  have vp : v_clash_Pairs v_law23_both = [(0, 3), (1, 2)] := by decide +kernel
  have bk : ∀ a : Nat, a < 4 → v_clash_Back v_law23_both (a : Int) = listOf 4 (backX v_law23_both (ofC v_law23_both) a) := fun a ha => by
    unfold v_clash_Back
    rw [hN, if_pos ⟨by omega, by omega⟩]
    exact listOf_congr fun i _ => by rw [backX_eq, Int.toNat_natCast]
  have b1 : v_clash_Back v_law23_both 1 = [0, 1] := (bk 1 (by decide)).trans (by decide +kernel)
  have b0 : v_clash_Back v_law23_both 0 = [0] := (bk 0 (by decide)).trans (by decide +kernel)
  have b4 : v_clash_Back v_law23_both 4 = [] := by
    unfold v_clash_Back
    rw [hN, if_neg (by omega)]
  unfold k_law23_alive v_law23_alive
  simp only [kp, kb, vp, b1, b0, b4]
  exact ⟨by decide +kernel, by decide +kernel⟩
end Go.Ev
end

section
set_option linter.unusedSectionVars false
set_option linter.unusedVariables false
set_option linter.unusedSimpArgs false
/- The programs that the book makes may be. -/
set_option maxRecDepth 100000
set_option linter.unusedVariables false
set_option linter.unusedSimpArgs false
namespace Go.Ev
open Go
theorem setL_right (i : El T_api_Ins) (ls : List ByteArray) : v_ins_Right (setL i ls) = v_ins_Right i := rfl
theorem setL_to (i : El T_api_Ins) (ls : List ByteArray) : (setL i ls).2.2.2.2.2.1 = i.2.2.2.2.2.1 := rfl
theorem place_book {th : List (List (El T_api_Ins))} {k r s n : Int} (h : k = 3 ∨ k = 4 → placeOK k s n = true) : placeC (symsB, th) (k, (r, (s, n))) = 0 := by
  show placeN 3 _ k s n = 0
  unfold placeN
  by_cases hk : k = 3 ∨ k = 4
  · rw [if_pos hk]
    have := h hk
    unfold placeOK at this
    simp only [Bool.and_eq_true, decide_eq_true_eq, Bool.or_eq_true, beq_iff_eq] at this
    obtain ⟨h0, h3, hn⟩ := this
    rw [if_neg (by omega)]
    have hs : s = 0 ∨ s = 1 ∨ s = 2 := by omega
    rcases hs with rfl | rfl | rfl
    · rw [if_neg]
      rintro ⟨h1, h2⟩
      have h2 : (1 : Int) ≤ n := h2
      rcases hn with hn | hn
      · omega
      · have hn : n < (1 : Int) := hn
        omega
    · rw [if_neg]
      rintro ⟨h1, h2⟩
      have h2 : (2 : Int) ≤ n := h2
      rcases hn with hn | hn
      · omega
      · have hn : n < (2 : Int) := hn
        omega
    · rw [if_neg]
      rintro ⟨h1, h2⟩
      have h2 : (1 : Int) ≤ n := h2
      rcases hn with hn | hn
      · omega
      · have hn : n < (1 : Int) := hn
        omega
  · rw [if_neg hk]
theorem insC_book {th : List (List (El T_api_Ins))} {many : Int} {i : El T_api_Ins} (h : BookOK many i) (ls : List ByteArray) : insC (symsB, th) (setL i ls) = 0 := by
  have hA : placeC (symsB, th) i.2.2.2.1 = 0 := place_book (k := i.2.2.2.1.1) (r := i.2.2.2.1.2.1) (s := i.2.2.2.1.2.2.1) (n := i.2.2.2.1.2.2.2) h.placeA
  have hB : placeC (symsB, th) i.2.2.2.2.1 = 0 := place_book (k := i.2.2.2.2.1.1) (r := i.2.2.2.2.1.2.1) (s := i.2.2.2.2.1.2.2.1) (n := i.2.2.2.2.1.2.2.2) h.placeB
  unfold insC
  rw [setL_right, h.right]
  show (if (0 : Int) ≠ 0 then _ else if placeC (symsB, th) i.2.2.2.1 ≠ 0 then _ else placeC (symsB, th) i.2.2.2.2.1) = 0
  rw [hA, hB]
  rfl
theorem scanI_lab {p : El T_api_Prog} {K : List ByteArray → Int} : ∀ (x : List (El T_api_Ins)) (k : Nat) (seen : List ByteArray),
    (∀ (j : Nat) (i : El T_api_Ins), x[j]? = some i → (i.2.2.2.2.2.2 = [] ∨ i.2.2.2.2.2.2 = [v_book_label ((k + j : Nat) : Int)]) ∧ insC p i = 0) → (∀ l ∈ seen, ∃ k', k' < k ∧ l = v_book_label (k' : Int)) → k + x.length ≤ 100 → scanI p K seen x = K (seen ++ labels x)
  | [], k, seen, _, _, _ => by simp [scanI, labels]
  | i :: r, k, seen, h, hs, hk => by
    obtain ⟨hl, hi⟩ := h 0 i rfl
    rw [List.length_cons] at hk
    have hr := fun seen' hs' => scanI_lab (K := K) r (k + 1) seen' (fun j y hy => by
      have := h (j + 1) y (by simpa using hy)
      rwa [show k + (j + 1) = k + 1 + j by omega] at this) hs' (by omega)
    unfold scanI
    rcases hl with hl | hl
    · rw [hl]
      unfold scanL
      rw [hi]
      simp only [ne_eq, not_true_eq_false, if_false]
      rw [hr seen fun l hl => by obtain ⟨k', h1, h2⟩ := hs l hl; exact ⟨k', by omega, h2⟩]
      unfold labels
      rw [List.flatMap_cons, hl, List.nil_append]
    · rw [hl, Nat.add_zero]
      unfold scanL
      rw [if_neg (by rw [(label_right (k := (k : Int)) (by omega) (by omega)).1]; decide)]
      have hns : seen.contains (v_book_label (k : Int)) = false := by
        rw [Bool.eq_false_iff]
        intro hc
        rw [List.contains_iff_mem] at hc
        obtain ⟨k', h1, h2⟩ := hs _ hc
        have := label_inj (by omega) (by omega) h2
        omega
      rw [if_neg (by rw [hns]; decide)]
      unfold scanL
      rw [hi]
      simp only [ne_eq, not_true_eq_false, if_false]
      rw [hr _ fun l hl => by
        rcases List.mem_append.1 hl with hl | hl
        · obtain ⟨k', h1, h2⟩ := hs l hl; exact ⟨k', by omega, h2⟩
        · rw [List.mem_singleton] at hl; exact ⟨k, by omega, hl⟩]
      unfold labels
      rw [List.flatMap_cons, hl, Nat.add_zero, List.append_assoc]
theorem jumpC_lab {seen : List ByteArray} : ∀ {x : List (El T_api_Ins)}, (∀ i ∈ x, ((i.1 == (10 : Int)) || (i.1 == (11 : Int))) = true → seen.contains i.2.2.2.2.2.1 = true) → jumpC seen x = 0
  | [], _ => rfl
  | i :: r, h => by
    unfold jumpC
    have ih := jumpC_lab fun j hj => h j (List.mem_cons_of_mem _ hj)
    by_cases hj : ((i.1 == (10 : Int)) || (i.1 == (11 : Int))) = true
    · rw [if_pos hj, if_pos (h i (List.mem_cons_self ..) hj)]; exact ih
    · rw [if_neg hj]; exact ih
/-- What stands in a thread of the book. -/
theorem threadB_get {a : List (El T_book_Act)} {n : Nat} (hn : n ≤ 90) (ha : n ≤ a.length) {k : Nat} {i : El T_api_Ins} (h : (threadB a n)[k]? = some i) :
    (k < n ∧ ∃ x, (baseT a n)[k]? = some x ∧ BookOK ((n + 1 : Nat) : Int) x ∧ i = setL x (if sAt (baseT a n) n k then [v_book_label (k : Int)] else [])) ∨ (k = n ∧ i = setL (bare 14) (if sAt (baseT a n) n k then [v_book_label (k : Int)] else [])) := by
  have hl := baseT_len a n ha
  obtain ⟨hk, he⟩ := List.getElem?_eq_some_iff.1 h
  unfold threadB at hk he
  rw [withL_get hk] at he
  rw [withL_len, hl] at hk
  by_cases hkn : k < n
  · obtain ⟨x, h1, h2⟩ := baseT_book hn hkn ha
    obtain ⟨h3, h4⟩ := List.getElem?_eq_some_iff.1 h1
    rw [h4] at he
    exact .inl ⟨hkn, _, h1, h2, he.symm⟩
  · have hkn : k = n := by omega
    subst hkn
    have : (baseT a k)[k]'(by omega) = bare 14 := by
      unfold baseT
      rw [List.getElem_append_right (by simp; omega)]
      simp
    rw [this] at he
    exact .inr ⟨rfl, he.symm⟩
theorem bare14_book (many : Int) (ls : List ByteArray) {th : List (List (El T_api_Ins))} : insC (symsB, th) (setL (bare 14) ls) = 0 := by
  unfold insC
  rw [setL_right, bare_right (.inr (.inr rfl))]
  rfl
theorem labels_get {x : List (El T_api_Ins)} {k : Nat} {i : El T_api_Ins} {l : ByteArray} (h : x[k]? = some i) (hl : l ∈ i.2.2.2.2.2.2) : (labels x).contains l = true := by
  rw [List.contains_iff_mem]
  unfold labels
  exact List.mem_flatMap.2 ⟨i, List.mem_of_getElem? h, hl⟩
theorem threadC_book {a : List (El T_book_Act)} {n : Nat} (hn : n ≤ 90) (ha : n ≤ a.length) {th : List (List (El T_api_Ins))} : threadC (symsB, th) (threadB a n) = 0 := by
  have hlen : (threadB a n).length = n + 1 := by unfold threadB; rw [withL_len, baseT_len a n ha]
  unfold threadC
  have hc := countM_le (threadB a n)
  rw [if_neg (by omega), scanI_lab (threadB a n) 0 [] (fun j i h => by
    rw [Nat.zero_add]
    rcases threadB_get hn ha h with ⟨_, x, _, hx, rfl⟩ | ⟨_, rfl⟩
    · refine ⟨?_, insC_book hx _⟩
      show (if _ then [v_book_label (j : Int)] else []) = [] ∨ (if _ then [v_book_label (j : Int)] else []) = [v_book_label (j : Int)]
      split
      · exact .inr rfl
      · exact .inl rfl
    · refine ⟨?_, bare14_book 0 _⟩
      show (if _ then [v_book_label (j : Int)] else []) = [] ∨ (if _ then [v_book_label (j : Int)] else []) = [v_book_label (j : Int)]
      split
      · exact .inr rfl
      · exact .inl rfl) (fun l hl => by cases hl) (by omega)]
  rw [List.nil_append, endC_eq (by omega)]
  have hlast : (threadB a n)[(threadB a n).length - 1]? = some ((threadB a n)[(threadB a n).length - 1]'(by omega)) := List.getElem?_eq_getElem (by omega)
  have h14 : (((threadB a n)[(threadB a n).length - 1]'(by omega)).1 == (10 : Int) || ((threadB a n)[(threadB a n).length - 1]'(by omega)).1 == (14 : Int)) = true := by
    rcases threadB_get hn ha hlast with ⟨h1, _⟩ | ⟨_, h2⟩
    · omega
    · rw [h2]; rfl
  rw [if_pos h14]
  refine jumpC_lab fun i hi hj => ?_
  obtain ⟨k, hk⟩ := List.getElem?_of_mem hi
  rcases threadB_get hn ha hk with ⟨hkn, x, hx, hb, rfl⟩ | ⟨_, rfl⟩
  · rw [setL_to]
    rcases hb.to with ⟨h1, h2, _⟩ | ⟨_, m, m0, m1, e⟩
    · exfalso
      have hj : ((x.1 == (10 : Int)) || (x.1 == (11 : Int))) = true := hj
      simp only [Bool.or_eq_true, beq_iff_eq] at hj
      rcases hj with hj | hj
      · exact h1 hj
      · exact h2 hj
    · rw [e]
      obtain ⟨q, rfl⟩ : ∃ q : Nat, m = (q : Int) := ⟨m.toNat, by omega⟩
      have hqn : q < n + 1 := by omega
      have hq : (threadB a n)[q]? = some ((threadB a n)[q]'(by omega)) := List.getElem?_eq_getElem (by omega)
      have hs : sAt (baseT a n) n q = true := by
        unfold sAt
        rw [List.any_eq_true]
        exact ⟨x, List.mem_of_getElem? (i := k) (by rw [List.getElem?_take, if_pos hkn]; exact hx), decide_eq_true e⟩
      refine labels_get hq ?_
      rcases threadB_get hn ha hq with ⟨_, y, _, _, h2⟩ | ⟨_, h2⟩
      · rw [h2, hs]; exact List.mem_singleton.2 rfl
      · rw [h2, hs]; exact List.mem_singleton.2 rfl
  · cases hj
theorem small_book {a : List (El T_book_Act)} {n : Nat} (hn : n ≤ 90) (ha : n ≤ a.length) : smallThread (threadB a n) = true := by
  have hlen : (threadB a n).length = n + 1 := by unfold threadB; rw [withL_len, baseT_len a n ha]
  have hlab : ∀ i ∈ threadB a n, smallText i.2.2.2.2.2.1 = true ∧ i.2.2.2.2.2.2.length ≤ 1 ∧ ∀ l ∈ i.2.2.2.2.2.2, smallText l = true := fun i hi => by
    obtain ⟨k, hk⟩ := List.getElem?_of_mem hi
    have hkl := (List.getElem?_eq_some_iff.1 hk).1
    have hls : ∀ b : Bool, (if b = true then [v_book_label (k : Int)] else []).length ≤ 1 ∧ ∀ l ∈ (if b = true then [v_book_label (k : Int)] else []), smallText l = true := fun b => by
      cases b with
      | false => exact ⟨by simp, fun l hl => by simp at hl⟩
      | true => exact ⟨by simp, fun l hl => by
          rw [if_pos rfl, List.mem_singleton] at hl
          rw [hl]; exact (label_right (by omega) (by omega)).2⟩
    rcases threadB_get hn ha hk with ⟨hkn, x, hx, hb, rfl⟩ | ⟨_, rfl⟩
    · exact ⟨hb.small (by omega), hls _⟩
    · exact ⟨(by decide : smallText (bs []) = true), hls _⟩
  have := labels_le (t := threadB a n) (n := 1) fun i hi => (hlab i hi).2.1
  unfold smallThread
  simp only [Bool.and_eq_true, decide_eq_true_eq, List.all_eq_true]
  exact ⟨by omega, by omega, fun i hi => ⟨(hlab i hi).1, (hlab i hi).2.2⟩⟩
theorem symsC_book (K : Int) : symsC K [] symsB = K := by kernel_rfl
theorem thsC_zero {p : El T_api_Prog} : ∀ {th : List (List (El T_api_Ins))}, (∀ t ∈ th, threadC p t = 0) → thsC p th = 0
  | [], _ => rfl
  | t :: r, h => by
    unfold thsC
    rw [h t (List.mem_cons_self ..)]
    simp only [ne_eq, not_true_eq_false, if_false]
    exact thsC_zero fun x hx => h x (List.mem_cons_of_mem _ hx)
theorem book_valid (l : List (List (El T_book_Act))) {threads many : Int} (h0 : 0 ≤ threads) (h1 : threads ≤ 64) (m0 : 0 ≤ many) (m1 : many ≤ 90) : checkC (v_book_Prog l threads many) = 0 ∧ smallProg (v_book_Prog l threads many) = true ∧ k_book_Prog l threads many = true := by
  refine ⟨?_, ?_, ?_⟩
  · unfold checkC v_book_Prog
    show (if 64 < symsB.length ∨ 64 < ((l.take threads.toNat).map fun a => threadB a (min a.length many.toNat)).length then (10 : Int) else symsC (thsC _ ((l.take threads.toNat).map fun a => threadB a (min a.length many.toNat))) [] symsB) = 0
    rw [if_neg, symsC_book]
    · exact thsC_zero fun t ht => by
        obtain ⟨a, _, rfl⟩ := List.mem_map.1 ht
        exact threadC_book (by omega) (by omega)
    · rw [List.length_map, List.length_take]
      have : symsB.length = 3 := rfl
      omega
  · unfold smallProg v_book_Prog
    simp only [Bool.and_eq_true, List.all_eq_true]
    refine ⟨?_, fun t ht => ?_⟩
    · have : symsB.all (fun s => smallText s.1) = true := by decide +kernel
      rw [List.all_eq_true] at this
      exact this
    · obtain ⟨a, _, rfl⟩ := List.mem_map.1 ht
      exact small_book (by omega) (by omega)
  · unfold k_book_Prog
    simp only [Bool.and_eq_true, decide_eq_true_eq]
    omega
end Go.Ev
end

section
set_option linter.unusedSectionVars false
set_option linter.unusedVariables false
set_option linter.unusedSimpArgs false
/- The book's programs are small, all in all. -/
set_option linter.unusedVariables false
namespace Go.Ev
open Go
theorem total_leX {l : List (List (El T_api_Ins))} {n : Nat} (h : ∀ t ∈ l, List.length t ≤ n) : total l ≤ n * l.length := by
  unfold total
  induction l with
  | nil => simp
  | cons t l ih =>
    rw [List.map_cons, List.sum_cons, List.length_cons, Nat.mul_add, Nat.mul_one]
    have h1 := h t (List.mem_cons_self ..)
    have h2 := ih fun x hx => h x (List.mem_cons_of_mem _ hx)
    omega
theorem ofC_le {p : El T_api_Prog} : (ofC p).length ≤ 2 * total p.2 := by
  have := accP_len 0 p.2
  unfold ofC
  split
  · exact this
  · simp
theorem book_few (l : List (List (El T_book_Act))) {threads many : Int} (h0 : 0 ≤ threads) (h1 : threads ≤ 64) (m0 : 0 ≤ many) (m1 : many ≤ 90) :
    smallAll (v_book_Prog l threads many) = true ∧ (v_book_Prog l threads many).2.length ≤ threads.toNat ∧ (ofC (v_book_Prog l threads many)).length ≤ 11648 ∧ checkC (v_book_Prog l threads many) = 0 ∧ k_book_Prog l threads many = true := by
  obtain ⟨hc, hs, hk⟩ := book_valid l h0 h1 m0 m1
  have hl : (v_book_Prog l threads many).2.length ≤ threads.toNat := by
    show ((l.take threads.toNat).map fun a => threadB a (min a.length many.toNat)).length ≤ _
    rw [List.length_map, List.length_take]; omega
  have ht := total_leX (l := (v_book_Prog l threads many).2) (n := 91) fun t hm => by
    obtain ⟨a, _, rfl⟩ := List.mem_map.1 (show t ∈ (l.take threads.toNat).map fun a => threadB a (min a.length many.toNat) from hm)
    show (threadB a _).length ≤ 91
    unfold threadB
    rw [withL_len, baseT_len a _ (by omega)]
    omega
  have ho := @ofC_le (v_book_Prog l threads many)
  refine ⟨?_, hl, by omega, hc, hk⟩
  unfold smallAll
  simp only [Bool.and_eq_true, decide_eq_true_eq]
  exact ⟨hs, by omega, by omega⟩
end Go.Ev
end

section
set_option linter.unusedSectionVars false
set_option linter.unusedVariables false
set_option linter.unusedSimpArgs false
set_option maxRecDepth 100000
set_option linter.unusedVariables false
set_option linter.unusedSimpArgs false
open Go
namespace Go.Ev
def v_law23_ClashTwo (l m : List (El T_book_Act)) : Bool := true
def k_law23_ClashTwo (l m : List (El T_book_Act)) : Bool := true
/-- With two threads a chain is one step, and what follows. -/
theorem two_is {p : El T_api_Prog} {l : List Acc} {a : Nat} (h2 : ∀ i, i < l.length → thA l i = 0 ∨ thA l i = 1) (ha : a < l.length) (k : Nat) : isB p l a k = true ↔ ∃ c, c < l.length ∧ clB l a c = true ∧ behB p l c k = true := by
  constructor
  · intro h0
    have hcome := comeB_iff.1 h0
    clear h0
    induction hcome with
    | @start j h =>
      unfold chS at h
      simp only [Bool.and_eq_true, decide_eq_true_eq] at h
      exact ⟨j, h.1, h.2, behB_self h.1⟩
    | @step i j hi h ih =>
      obtain ⟨c, hc, h1, h3⟩ := ih
      obtain ⟨il, ith⟩ := is_lt (comeB_iff.2 hi)
      unfold chB at h
      simp only [Bool.and_eq_true, decide_eq_true_eq, Bool.not_eq_true', beq_eq_false_iff_ne, Bool.or_eq_true] at h
      obtain ⟨jl, jth, h4 | h4⟩ := h
      · exfalso
        have := clB_th h4
        have e1 := h2 i il
        have e2 := h2 j jl
        have e3 := h2 a ha
        omega
      · exact ⟨c, hc, h1, behB_trans h3 h4⟩
  · rintro ⟨c, hc, h1, h3⟩
    have hs : isB p l a c = true := comeB_iff.2 (.start (by unfold chS; rw [decide_eq_true hc, h1]; rfl))
    refine comeB_iff.2 (.step (comeB_iff.1 hs) ?_)
    obtain ⟨kl, kth⟩ := behB_lt h3
    unfold chB
    simp only [Bool.and_eq_true, decide_eq_true_eq, Bool.not_eq_true', beq_eq_false_iff_ne, Bool.or_eq_true]
    exact ⟨kl, by rw [kth]; exact (is_lt hs).2, .inr h3⟩
/-- Chains of one step, up to a place. -/
noncomputable def twoB (p : El T_api_Prog) (l : List Acc) (a b c d : Nat) : Bool := behB p l c d && (clB l a c && clB l d b)
theorem g_law23_ClashTwo (l m : List (El T_book_Act)) (hk : k_law23_ClashTwo l m = true) : Goes (T_law23_ClashTwo l m) (T0_law23_ClashTwo l m) (v_law23_ClashTwo l m) := by
  obtain ⟨ka, va⟩ := alive23
  obtain ⟨h1, hth, h3, _, hkp⟩ := book_few [l, m] (threads := 2) (many := 4) (by decide) (by decide) (by decide) (by decide)
  have hfac := fun i (hi : i < (ofC (v_book_Prog [l, m] 2 4)).length) => acc_facts h1 hi
  have k1 : k_ref3_Accesses (v_book_Prog [l, m] 2 4) = true := h1
  have v1 : v_ref3_Accesses (v_book_Prog [l, m] 2 4) = ofC (v_book_Prog [l, m] 2 4) := rfl
  have kc : ∀ a, k_clash_Back (v_book_Prog [l, m] 2 4) a = true := fun _ => h1
  have vc : ∀ a : Nat, a < (ofC (v_book_Prog [l, m] 2 4)).length → v_clash_Back (v_book_Prog [l, m] 2 4) (a : Int) = listOf (ofC (v_book_Prog [l, m] 2 4)).length (backB (v_book_Prog [l, m] 2 4) (ofC (v_book_Prog [l, m] 2 4)) a) := fun a ha => by
    unfold v_clash_Back
    rw [if_pos ⟨by omega, by omega⟩, Int.toNat_natCast]
  obtain ⟨T, hT⟩ : ∃ T, T = T_law23_ClashTwo l m := ⟨_, rfl⟩
  rw [← hT]
  unfold T0_law23_ClashTwo v_law23_ClashTwo
  rw [goes_br, if_pos hkp, goes_br, if_pos k1]
  generalize hp : v_book_Prog [l, m] 2 4 = p at *
  generalize hA : ofC p = A at *
  have h2 : ∀ i, i < A.length → thA A i = 0 ∨ thA A i = 1 := fun i hi => by
    obtain ⟨i0, i1, _⟩ := hfac i hi
    have : p.2.length ≤ 2 := hth
    omega
  have lt1 : ∀ {x : Nat}, x < A.length → decide ((x : Int) < Int.ofNat A.length) = true := fun h => decide_eq_true (by simpa using h)
  have ge1 : ∀ {x : Nat}, ¬ x < A.length → decide ((x : Int) < Int.ofNat A.length) = false := fun h => decide_eq_false (by simpa using h)
  have ex : ∀ x : Nat, List.getD A x (dflt T_api_Access) = accA A x := fun _ => rfl
  have tx : ∀ x : Nat, (accA A x).1 = thA A x := fun _ => rfl
  have nx : ∀ x : Nat, (accA A x).2.1 = inA A x := fun _ => rfl
  have px : ∀ x : Nat, (accA A x).2.2.1 = paA A x := fun _ => rfl
  have hh : ∀ x : Nat, List.getD p.2 (Int.toNat (thA A x)) (dflt (.sl T_api_Ins)) = thrOf p A x := fun _ => rfl
  have kF : ∀ c, c < A.length → k_ref3_From (thrOf p A c) (inA A c) = true := fun c hc => by
    have hf : flowOK (thrOf p A c) = true := (hfac c hc).2.2.1
    have a1 : k_ref3_from (thrOf p A c) (inA A c) = true := hf
    have a2 : k_ref3_List (v_ref3_from (thrOf p A c) (inA A c)) = true := decide_eq_true (by unfold v_ref3_from; rw [rowOf_length]; exact flowOK_len hf)
    unfold k_ref3_From; rw [a1, a2]; rfl
  have vF : ∀ c, c < A.length → v_ref3_From (thrOf p A c) (inA A c) = listOf (thrOf p A c).length (fromB (thrOf p A c) (inA A c)) := fun c hc => by
    have hf : flowOK (thrOf p A c) = true := (hfac c hc).2.2.1
    have a1 : k_ref3_from (thrOf p A c) (inA A c) = true := hf
    have a2 : k_ref3_List (v_ref3_from (thrOf p A c) (inA A c)) = true := decide_eq_true (by unfold v_ref3_from; rw [rowOf_length]; exact flowOK_len hf)
    unfold v_ref3_From; rw [a1, a2]; exact list_rowX
  have kI : ∀ c x, c < A.length → k_ref3_In (v_ref3_From (thrOf p A c) (inA A c)) x = true := fun c x hc => by
    have hf : flowOK (thrOf p A c) = true := (hfac c hc).2.2.1
    have := flowOK_len hf
    exact decide_eq_true (by rw [vF c hc]; have := @listOf_leX (thrOf p A c).length (fromB (thrOf p A c) (inA A c)); omega)
  have vI : ∀ c d : Nat, c < A.length → v_ref3_In (v_ref3_From (thrOf p A c) (inA A c)) (inA A d) = (decide (0 ≤ inA A d) && fromB (thrOf p A c) (inA A c) (inA A d).toNat) := fun c d hc => by
    show List.contains _ _ = _
    rw [vF c hc, listOf_has, Bool.eq_iff_iff]
    simp only [Bool.and_eq_true, decide_eq_true_eq]
    exact ⟨fun h => ⟨h.1.1, h.2⟩, fun h => ⟨⟨h.1, by have := fromB_lt h.2; omega⟩, h.2⟩⟩
  have hbeh : ∀ c d : Nat, d < A.length → behB p A c d = (thA A c == thA A d && (c == d || ((inA A c == inA A d && decide (paA A c < paA A d)) || (decide (0 ≤ inA A d) && fromB (thrOf p A c) (inA A c) (inA A d).toNat)))) := fun c d hd => by
    unfold behB
    rw [decide_eq_true hd, Bool.true_and, Bool.beq_comm (a := thA A d), Bool.beq_comm (a := d), Bool.beq_comm (a := inA A d)]
  have cd : ∀ c d : Nat, ((c : Int) == (d : Int)) = (c == d) := fun c d => by
    by_cases e : c = d
    · subst e; simp
    · have : (c == d) = false := by simpa using e
      rw [this]; simp; omega
  have loop : ∀ a, a ≤ A.length → Goes T (.jmp (.l5 (a : Int))) true := by
    refine down ?_ fun a ha iha => ?_
    · rw [goes_jmp, hT, T_law23_ClashTwo, ← hT, hp, v1, goes_br, ge1 (Nat.lt_irrefl _), if_neg (by decide), goes_br, if_pos ka, va]
      exact .leaf
    · rw [goes_jmp, hT, T_law23_ClashTwo, ← hT, hp, v1, goes_br, lt1 ha, if_pos rfl, goes_br, if_pos (kc _), vc a ha]
      have kin : ∀ x, k_ref3_In (listOf A.length (backB p A a)) x = true := fun x => decide_eq_true (by have := @listOf_leX A.length (backB p A a); omega)
      have hB : ∀ b, b ≤ A.length → Goes T (.jmp (.l11 (b : Int) (a : Int) (listOf A.length (backB p A a)))) true := by
        refine down ?_ fun b hb ihb => ?_
        · rw [goes_jmp, hT, T_law23_ClashTwo, ← hT, hp, v1, goes_br, ge1 (Nat.lt_irrefl _), if_neg (by decide), wrap_succ (by omega)]
          exact iha
        · rw [goes_jmp, hT, T_law23_ClashTwo, ← hT, hp, v1, goes_br, lt1 hb, if_pos rfl]
          have hin : v_ref3_In (listOf A.length (backB p A a)) (b : Int) = backB p A a b := by
            show List.contains _ _ = _
            rw [listOf_has, Int.toNat_natCast, decide_eq_true ⟨by omega, by omega⟩, Bool.true_and]
          have hC : ∀ c, c ≤ A.length → Goes T (.jmp (.l18 (c : Int) (b : Int) (a : Int) (listOf A.length (backB p A a)) ((List.range c).any fun c => (List.range A.length).any fun d => twoB p A a b c d))) true := by
            refine down ?_ fun c hc ihc => ?_
            · generalize hq : ((List.range A.length).any fun c => (List.range A.length).any fun d => twoB p A a b c d) = q
              have hkey : backB p A a b = (q && (thA A a == thA A b)) := by
                have hc1 : ∀ k, isB p A a k = true ↔ ∃ c, c < A.length ∧ clB A a c = true ∧ behB p A c k = true := two_is h2 ha
                rw [← hq, Bool.eq_iff_iff]
                unfold backB twoB
                simp only [Bool.and_eq_true, beq_iff_eq, List.any_eq_true, List.mem_range, hc1]
                constructor
                · rintro ⟨e, k, hk, ⟨c, hc, e1, e2⟩, e3⟩
                  exact ⟨⟨c, hc, k, hk, e2, e1, e3⟩, e.symm⟩
                · rintro ⟨⟨c, hc, k, hk, e2, e1, e3⟩, e⟩
                  exact ⟨e.symm, k, hk, ⟨c, hc, e1, e2⟩, e3⟩
              rw [goes_jmp, hT, T_law23_ClashTwo, ← hT, hp, v1, goes_br, ge1 (Nat.lt_irrefl _), if_neg (by decide), goes_br, if_pos (kin _), goes_br]
              simp only [goes_br, lt1 ha, lt1 hb, nng, Bool.and_self, if_true, Int.toNat_natCast, hin, ex, tx, wrap_succ (k := b) (by omega)]
              cases q with
              | true =>
                rw [if_pos rfl, hkey, Bool.true_and, if_neg (by simp)]
                exact ihb
              | false =>
                rw [if_neg (by decide), hkey, Bool.false_and, if_neg (by simp)]
                exact ihb
            · have hD : ∀ d, d ≤ A.length → ∀ is, is = (((List.range c).any fun c => (List.range A.length).any fun d => twoB p A a b c d) || (List.range d).any fun d => twoB p A a b c d) → Goes T (.jmp (.l23 is (d : Int) (c : Int) (b : Int) (a : Int) (listOf A.length (backB p A a)))) true := by
                refine down ?_ fun d hd ihd => ?_
                · intro is his
                  rw [goes_jmp, hT, T_law23_ClashTwo, ← hT, hp, v1, goes_br, ge1 (Nat.lt_irrefl _), if_neg (by decide), wrap_succ (by omega), his, ← any_succ (P := fun c => (List.range A.length).any fun d => twoB p A a b c d)]
                  exact ihc
                · intro is his
                  have key : ∀ is', is' = (is || twoB p A a b c d) → Goes T (.jmp (.l23 is' ((d + 1 : Nat) : Int) (c : Int) (b : Int) (a : Int) (listOf A.length (backB p A a)))) true := fun is' h' => ihd is' (by rw [h', his, any_succ, Bool.or_assoc])
                  unfold twoB at key
                  rw [hbeh c d hd] at key
                  have htr : decide ((0 : Int) ≤ thA A c) = true ∧ decide (thA A c < Int.ofNat p.2.length) = true := ⟨decide_eq_true (hfac c hc).1, decide_eq_true (hfac c hc).2.1⟩
                  rw [goes_jmp, hT, T_law23_ClashTwo, ← hT, hp, v1]
                  simp only [goes_br, lt1 ha, lt1 hb, lt1 hc, lt1 hd, nng, Bool.and_self, if_true, Int.toNat_natCast, ex, tx, nx, px, hh, htr.1, htr.2, kF c hc, kI c _ hc, vI c d hc, refClash_eq, cd, wrap_succ (k := d) (by omega)]
                  generalize (thA A c == thA A d) = b1 at *
                  generalize (c == d) = b2 at *
                  generalize (inA A c == inA A d) = b3 at *
                  generalize decide (paA A c < paA A d) = b4 at *
                  generalize (decide (0 ≤ inA A d) && fromB (thrOf p A c) (inA A c) (inA A d).toNat) = b5 at *
                  generalize clB A a c = b6 at *
                  generalize clB A d b = b7 at *
                  clear his ihd
                  cases is <;> cases b1 <;> cases b2 <;> cases b3 <;> cases b4 <;> cases b5 <;> cases b6 <;> simp only [Bool.false_eq_true, if_true, if_false, Bool.and_true, Bool.true_and, Bool.false_and, Bool.and_false, Bool.or_false, Bool.false_or, Bool.or_true, Bool.true_or, Bool.not_true, Bool.not_false] at key ⊢ <;> exact key _ rfl
              have := hD 0 (Nat.zero_le _) _ rfl
              rw [List.range_zero, List.any_nil, Bool.or_false] at this
              rw [goes_jmp, hT, T_law23_ClashTwo, ← hT, hp, v1, goes_br, lt1 hc, if_pos rfl]
              exact this
          have := hC 0 (Nat.zero_le _)
          exact this
      exact hB 0 (Nat.zero_le _)
  exact loop 0 (Nat.zero_le _)
end Go.Ev
end

section
set_option linter.unusedSectionVars false
set_option linter.unusedVariables false
set_option linter.unusedSimpArgs false
set_option maxRecDepth 100000
set_option linter.unusedVariables false
open Go Go.Ev
namespace Go.Ev
noncomputable section
theorem co_law23_ClashTwo (l : List (El T_book_Act)) (m : List (El T_book_Act)) (hk : k_law23_ClashTwo l m = true) : CallOK Go.Proofs.Tryz.prog 6 (toForms sg_law23_ClashTwo (l, m, ())) (R_law23_ClashTwo (v_law23_ClashTwo l m), tps (toForms sg_law23_ClashTwo (l, m, ()))) := by
  obtain ⟨h1, h2⟩ := clOf_ok tk_law23_ClashTwo
  obtain ⟨n, hn⟩ := evF_goes (c := c_law23_ClashTwo) (K := fun v => (R_law23_ClashTwo v, tps (toForms sg_law23_ClashTwo (l, m, ())))) (S := S_law23_ClashTwo l m) (by kernel_rfl) (en_law23_ClashTwo l m) (lp_law23_ClashTwo l m) (g_law23_ClashTwo l m hk)
  exact evF_sound (f := 6) (c := c_law23_ClashTwo) h1 h2 (by kernel_rfl) (by kernel_rfl) (by kernel_rfl) hn
end
end Go.Ev
end

section
set_option linter.unusedSectionVars false
set_option linter.unusedVariables false
set_option linter.unusedSimpArgs false
set_option maxRecDepth 100000
set_option linter.unusedVariables false
namespace Go.Ev
open Go
theorem call_law23_ClashTwo (a : Args sg_law23_ClashTwo) (ha : smallArgs sg_law23_ClashTwo a) : CallOK Go.Proofs.Tryz.prog fid_law23_ClashTwo (toForms sg_law23_ClashTwo a) (.d .bool true, tps (toForms sg_law23_ClashTwo a)) := by
  obtain ⟨l, m, _⟩ := a
  exact co_law23_ClashTwo l m rfl
end Go.Ev
end

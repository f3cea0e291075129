/- Part of the proof of: A fence laid in ahead of an instruction does what the point ahead of it does: for every input the law answers true. -/
import Derived.Test.YtcojpeeoodchoaaGreatDoorCon1
section
set_option linter.unusedSectionVars false
set_option linter.unusedVariables false
set_option linter.unusedSimpArgs false
set_option maxRecDepth 100000
set_option linter.unusedVariables false
set_option linter.unusedSimpArgs false
open Go
namespace Go.Ev
noncomputable def v_road_Ends (t : List (El T_api_Ins)) (points : List Int) (s : Int) : List Int := listOf t.length (endsB t points s)
def k_road_Ends (t : List (El T_api_Ins)) (points : List Int) (s : Int) : Bool := flowOK t && decide (points.length < 4611686018427387904)
def goB (t : List (El T_api_Ins)) (points : List Int) (x : Int) (j : Nat) : Bool := nextB t x j && !points.contains (j : Int)
def nodeP (t : List (El T_api_Ins)) (s : Int) (M : Nat → Bool) (x : Int) : Prop := x = s ∨ ∃ j : Nat, x = (j : Int) ∧ M j = true ∧ fenceAtT t j = false
structure EInv (t : List (El T_api_Ins)) (points : List Int) (s : Int) (M : Nat → Bool) (o : List Int) (x0 : Int) (r : List Int) : Prop where
  a : ∀ j, M j = true → Come (stepB t points) (firstB t points s) j
  b : ∀ x ∈ o, nodeP t s M x
  c : ∀ x, nodeP t s M x → x ∈ o ∨ ∀ j, goB t points x j = true → M j = true ∨ (x = x0 ∧ (j : Int) ∈ r)
  d : o.length ≤ card t.length M + 1
theorem take_pred' {l : List Int} {n : Nat} (h : n + 1 ≤ l.length) : l.take (n + 1) = l.take n ++ [l.getD n 0] := by
  have hn : n < l.length := by omega
  rw [List.take_succ_eq_append_getElem hn, getD_lt hn]
theorem g_road_Ends (t : List (El T_api_Ins)) (points : List Int) (s : Int) (hk : k_road_Ends t points s = true) : Goes (T_road_Ends t points s) (T0_road_Ends t points s) (v_road_Ends t points s) := by
  unfold k_road_Ends at hk
  rw [Bool.and_eq_true] at hk
  obtain ⟨hf, hpl⟩ := hk
  have hpl := of_decide_eq_true hpl
  have hlen := flowOK_len hf
  generalize hn : t.length = n at hlen
  have kfe : ∀ k, k < n → k_ins_Fence (List.getD t k (dflt T_api_Ins)) = true := fun k hk => by
    have hmem : t.getD k (dflt T_api_Ins) ∈ t := by rw [getD_lt (by omega)]; exact List.getElem_mem (by omega)
    exact k_fence (flowOK_text hf hmem)
  -- the main part
  have main : ∀ (C : Nat → Bool) (cl : Int × List (Int × Int)), SetOK cl n C → (∀ j, j < n → C j = points.contains (j : Int)) → ∀ m, ∀ (M : Nat → Bool) (se : Int × List (Int × Int)) (open_ : List Int) (len : Nat), len ≤ open_.length → 2 * (n - card n M) + len = m → SetOK se n M →
      (∀ j, M j = true → Come (stepB t points) (firstB t points s) j) → (∀ x ∈ open_.take len, nodeP t s M x) → (∀ x, nodeP t s M x → x ∈ open_.take len ∨ ∀ j, goB t points x j = true → M j = true) → len ≤ card n M + 1 →
      Goes (T_road_Ends t points s) (.jmp (.l11 cl.1 cl.2 len se.1 open_ se.2)) (v_road_Ends t points s) := by
    intro C cl hcl hC m
    induction m using Nat.strongRecOn with
    | _ m ih =>
    intro M se open_ len hl hm hs h1 h2 h3 h5
    cases len with
    | zero =>
      rw [goes_jmp, T_road_Ends, goes_br, if_neg (by decide)]
      have hkl : k_bits_Set_List (se.1, se.2) = true := Nat.ble_eq_true_of_le (by have := hs.few; unfold limit; show se.2.length * 512 ≤ _; omega)
      rw [goes_br, if_pos hkl]
      have hv : (v_bits_Set_List (se.1, se.2)).1 = v_road_Ends t points s := by
        show listS se = _
        rw [hs.list (by omega)]
        unfold v_road_Ends endsB
        rw [hn]
        refine listOf_congr fun j _ => comeB_eq (fun j hj => ?_) (fun k j hk hj => ?_) h1 j
        · rcases h3 s (.inl rfl) with h | h
          · simp at h
          · exact h j hj
        · unfold stepB at hj
          rw [Bool.and_eq_true] at hj
          rcases h3 (k : Int) (.inr ⟨k, rfl, hk, by simpa using hj.1⟩) with h | h
          · simp at h
          · exact h j hj.2
      rw [hv]; exact .leaf
    | succ len =>
      have hc := @card_le n M
      have e : IntKind.i64.wrap (Int.ofNat (len + 1) - 1) = (len : Int) := by
        rw [wrap_i64 (by simp <;> omega) (by simp <;> omega)]; simp
      have g1 : decide (Int.ofNat (len + 1) > (0 : Int)) = true := decide_eq_true (by simp <;> omega)
      have g2 : (decide ((0 : Int) ≤ (len : Int)) && decide ((len : Int) < Int.ofNat (len + 1))) = true := bound_len (by omega)
      have g3 : (decide ((0 : Int) ≤ (len : Int)) && decide ((len : Int) ≤ Int.ofNat (len + 1))) = true := by simp; omega
      rw [goes_jmp, T_road_Ends, e, goes_br, if_pos g1, goes_br, if_pos g2, goes_br, if_pos g3, Int.toNat_natCast]
      have htk := take_pred' hl
      generalize hx0 : open_.getD len 0 = x0 at htk
      have hd : open_.getD len (dflt (.int .i64)) = x0 := hx0
      rw [hd]
      have kn : k_flow_Next t x0 = true := hf
      rw [goes_br, if_pos kn]
      have hnode := h2 x0 (by rw [htk]; simp)
      generalize hr : v_flow_Next t x0 = r
      have hrm : ∀ y ∈ r, ∃ j : Nat, j < n ∧ nextB t x0 j = true ∧ y = (j : Int) := fun y hy => by
        rw [← hr] at hy
        unfold v_flow_Next at hy
        rw [hn] at hy
        exact listOf_mem.1 hy
      have hrl : r.length ≤ n := by rw [← hr]; unfold v_flow_Next; rw [listOf_length, hn]; exact card_le
      have hin : ∀ j : Nat, nextB t x0 j = true → (j : Int) ∈ r := fun j hj => by rw [← hr]; exact listOf_mem.2 ⟨j, nextB_lt hj, hj, rfl⟩
      have inner : ∀ h, h ≤ r.length → ∀ (M1 : Nat → Bool) (se1 : Int × List (Int × Int)) (op1 : List Int) (len1 : Nat), len1 ≤ op1.length → 2 * (n - card n M1) + len1 < m → SetOK se1 n M1 → nodeP t s M1 x0 →
          (∀ j, M1 j = true → Come (stepB t points) (firstB t points s) j) → (∀ x ∈ op1.take len1, nodeP t s M1 x) → (∀ x, nodeP t s M1 x → x ∈ op1.take len1 ∨ ∀ j, goB t points x j = true → M1 j = true ∨ (x = x0 ∧ (j : Int) ∈ r.drop h)) → len1 ≤ card n M1 + 1 →
          Goes (T_road_Ends t points s) (.jmp (.l17 cl.1 cl.2 len1 (h : Int) se1.1 op1 se1.2 (Int.ofNat r.length) r)) (v_road_Ends t points s) := by
        refine down ?_ fun h hh ih2 => ?_
        · intro M1 se1 op1 len1 i1 i2 i3 i4 i5 i6 i7 i8
          rw [goes_jmp, T_road_Ends, goes_br, if_neg (by rw [lt_len_not (Nat.lt_irrefl _)]; decide)]
          refine ih _ i2 M1 se1 op1 len1 i1 rfl i3 i5 i6 (fun x hx => (i7 x hx).imp id fun h j hj => (h j hj).resolve_right (by simp)) i8
        · intro M1 se1 op1 len1 i1 i2 i3 i4 i5 i6 i7 i8
          obtain ⟨y, hy, hyN, hxy⟩ := hrm r[h] (List.getElem_mem hh)
          have hdy : List.getD r h (dflt (.int .i64)) = (y : Int) := by rw [← hxy]; exact getD_lt hh
          have hhas : (v_bits_Set_Has (cl.1, cl.2) (y : Int)).1 = points.contains (y : Int) := by
            show hasS cl (y : Int) = _
            rw [hcl.has (by omega), Int.toNat_natCast, decide_eq_true (by omega), Bool.true_and, hC y hy]
          have hhas2 : (v_bits_Set_Has (cl.1, cl.2) (y : Int)).2 = cl := rfl
          have hput : v_bits_Set_Put (se1.1, se1.2) (y : Int) = putS se1 (y : Int) := rfl
          have hdr : ∀ z, z ∈ r.drop h ↔ z = (y : Int) ∨ z ∈ r.drop (h + 1) := fun z => by rw [drop_cons hh, List.mem_cons, hxy]
          rw [goes_jmp, T_road_Ends, goes_br, if_pos (lt_len hh), goes_br, if_pos (bound_len hh), goes_br, Int.toNat_natCast, hdy, hhas, hhas2, hput, wrap_succ (by omega)]
          -- nothing is done with y
          have skip : (goB t points x0 y = true → M1 y = true) → Goes (T_road_Ends t points s) (.jmp (.l17 cl.1 cl.2 len1 ((h + 1 : Nat) : Int) se1.1 op1 se1.2 (Int.ofNat r.length) r)) (v_road_Ends t points s) := fun hsk =>
            ih2 M1 se1 op1 len1 i1 i2 i3 i4 i5 i6 (fun x hx => (i7 x hx).imp id fun hg j hj => by
              rcases hg j hj with h | ⟨hx0, h⟩
              · exact .inl h
              · rcases (hdr _).1 h with h | h
                · have : j = y := by omega
                  subst this
                  rw [hx0] at hj
                  exact .inl (hsk hj)
                · exact .inr ⟨hx0, h⟩) i8
          cases hpt : points.contains (y : Int) with
          | true =>
            rw [if_neg (by decide)]
            exact skip fun h => by unfold goB at h; rw [hpt, Bool.not_true, Bool.and_false] at h; cases h
          | false =>
            rw [if_pos (by decide), goes_br]
            cases hMy : M1 y with
            | true =>
              have hno := i3.put_no (by omega) (i := (y : Int)) (fun h => by rw [Int.toNat_natCast, hMy] at h; cases h.2.2)
              rw [hno, if_neg (by simp)]
              exact skip fun _ => hMy
            | false =>
              obtain ⟨p1, p2⟩ := i3.put (by omega) hy hMy
              have hgo : goB t points x0 y = true := by unfold goB; rw [hyN, hpt]; rfl
              have hcome : Come (stepB t points) (firstB t points s) y := by
                rcases i4 with h | ⟨k, hk, hMk, hfk⟩
                · subst h; exact .start hgo
                · subst hk; exact .step (i5 k hMk) (by unfold stepB; rw [hfk]; exact hgo)
              have hcard := card_add hMy hy
              have hcl2 := @card_le n (fun k => M1 k || (k == y))
              have mono : ∀ x, nodeP t s M1 x → nodeP t s (fun k => M1 k || (k == y)) x := fun x hx => hx.imp id fun ⟨k, h1, h2, h3⟩ => ⟨k, h1, by show (M1 k || (k == y)) = true; rw [h2]; rfl, h3⟩
              have hcc : ∀ k, (M1 k || (k == y)) = true → Come (stepB t points) (firstB t points s) k := fun k hk => by
                simp only [Bool.or_eq_true, beq_iff_eq] at hk
                rcases hk with hk | hk
                · exact i5 k hk
                · subst hk; exact hcome
              have keep : ∀ (o : List Int), (∀ x ∈ op1.take len1, x ∈ o) → (fenceAtT t y = false → (y : Int) ∈ o) → ∀ x, nodeP t s (fun k => M1 k || (k == y)) x → x ∈ o ∨ ∀ j, goB t points x j = true → (M1 j || (j == y)) = true ∨ (x = x0 ∧ (j : Int) ∈ r.drop (h + 1)) := fun o ho hyo x hx => by
                have old : nodeP t s M1 x → x ∈ o ∨ ∀ j, goB t points x j = true → (M1 j || (j == y)) = true ∨ (x = x0 ∧ (j : Int) ∈ r.drop (h + 1)) := fun hx => by
                  rcases i7 x hx with h | h
                  · exact .inl (ho x h)
                  · refine .inr fun j hj => ?_
                    rcases h j hj with h | ⟨hx0, h⟩
                    · exact .inl (by rw [h]; rfl)
                    · rcases (hdr _).1 h with h | h
                      · have : j = y := by omega
                        subst this; exact .inl (by simp)
                      · exact .inr ⟨hx0, h⟩
                rcases hx with hx | ⟨k, hk, hMk, hfk⟩
                · exact old (.inl hx)
                · have hMk : (M1 k || (k == y)) = true := hMk
                  simp only [Bool.or_eq_true, beq_iff_eq] at hMk
                  rcases hMk with hMk | hMk
                  · exact old (.inr ⟨k, hk, hMk, hfk⟩)
                  · subst hMk; subst hk; exact .inl (hyo hfk)
              have vf : v_ins_Fence (List.getD t y (dflt T_api_Ins)) = fenceAtT t y := rfl
              rw [p1, if_pos rfl, goes_br, hn, if_pos (bound_len hy), goes_br, Int.toNat_natCast, if_pos (kfe y hy), goes_br, vf]
              cases hfy : fenceAtT t y with
              | true =>
                rw [if_neg (by decide)]
                exact ih2 _ _ op1 len1 i1 (by omega) p2 (mono x0 i4) hcc (fun x hx => mono x (i6 x hx)) (keep _ (fun x hx => hx) (fun h => by rw [hfy] at h; cases h)) (by omega)
              | false =>
                have htl : (op1.take len1).length = len1 := by rw [List.length_take]; omega
                rw [if_pos (by decide), goes_br, if_pos (Nat.ble_eq_true_of_le (by rw [htl]; unfold limit; omega))]
                have htake : (op1.take len1 ++ [(y : Int)]).take (op1.take len1 ++ [(y : Int)]).length = op1.take len1 ++ [(y : Int)] := List.take_length
                have hl2 : (op1.take len1 ++ [(y : Int)]).length = len1 + 1 := by rw [List.length_append, htl]; rfl
                refine ih2 _ _ (op1.take len1 ++ [(y : Int)]) _ (Nat.le_refl _) (by omega) p2 (mono x0 i4) hcc (fun x hx => ?_) ?_ (by omega)
                · rw [htake, List.mem_append] at hx
                  rcases hx with hx | hx
                  · exact mono x (i6 x hx)
                  · simp only [List.mem_singleton] at hx
                    exact .inr ⟨y, hx, by simp, hfy⟩
                · rw [htake]
                  exact keep _ (fun x hx => List.mem_append_left _ hx) (fun _ => List.mem_append_right _ (by simp))
      refine inner 0 (Nat.zero_le _) M se open_ len (by omega) (by omega) hs hnode h1 (fun x hx => h2 x (by rw [htk]; simp [hx])) (fun x hx => ?_) (by omega)
      rcases h3 x hx with h | h
      · rw [htk, List.mem_append] at h
        rcases h with h | h
        · exact .inl h
        · simp only [List.mem_singleton] at h
          refine .inr fun j hj => .inr ⟨h, ?_⟩
          subst h
          unfold goB at hj
          rw [Bool.and_eq_true] at hj
          rw [List.drop_zero]
          exact hin j hj.1
      · exact .inr fun j hj => .inl (h j hj)
  have hnew : v_bits_New (Int.ofNat (List.length t)) = ((n : Int), []) := by
    rw [hn]
    unfold v_bits_New
    simp
    omega
  have first : ∀ h, h ≤ points.length → ∀ (C : Nat → Bool) (cl : Int × List (Int × Int)), SetOK cl n C → (∀ j : Nat, j < n → ((C j = true ∨ (j : Int) ∈ points.drop h) ↔ (j : Int) ∈ points)) → Goes (T_road_Ends t points s) (.jmp (.l4 (h : Int) cl.1 cl.2)) (v_road_Ends t points s) := by
    refine down ?_ fun h hh ih => ?_
    · intro C cl hcl hC
      rw [goes_jmp, T_road_Ends, goes_br, if_neg (by rw [lt_len_not (Nat.lt_irrefl _)]; decide), hnew]
      refine main C cl hcl (fun j hj => ?_) _ (fun _ => false) ((n : Int), []) [s] 1 (by simp) rfl (SetOK.new n) (fun j h => by cases h) (fun x hx => .inl (by simpa using hx)) (fun x hx => .inl ?_) (by omega)
      · have := hC j hj
        rw [List.drop_length] at this
        rw [Bool.eq_iff_iff, List.contains_iff_mem, ← this]
        simp
      · rcases hx with hx | ⟨j, _, h, _⟩
        · simpa using hx
        · cases h
    · intro C cl hcl hC
      rw [goes_jmp, T_road_Ends, goes_br, if_pos (lt_len hh), goes_br, if_pos (bound_len hh), Int.toNat_natCast, wrap_succ (by omega)]
      have hd : points.getD h (dflt (.int .i64)) = points[h] := getD_lt hh
      rw [hd]
      have hput : v_bits_Set_Put (cl.1, cl.2) points[h] = putS cl points[h] := rfl
      rw [hput]
      have hdr : ∀ z, z ∈ points.drop h ↔ z = points[h] ∨ z ∈ points.drop (h + 1) := fun z => by rw [drop_cons hh, List.mem_cons]
      generalize points[h] = x at hdr
      by_cases hx : 0 ≤ x ∧ x < n ∧ C x.toNat = false
      · obtain ⟨y, rfl⟩ := Int.eq_ofNat_of_zero_le hx.1
        rw [Int.toNat_natCast] at hx
        obtain ⟨_, p2⟩ := hcl.put (by omega) (show y < n by omega) hx.2.2
        refine ih _ _ p2 fun j hj => ?_
        rw [← hC j hj, hdr]
        simp only [Bool.or_eq_true, beq_iff_eq]
        constructor
        · rintro ((h | h) | h)
          · exact .inl h
          · exact .inr (.inl (by omega))
          · exact .inr (.inr h)
        · rintro (h | h | h)
          · exact .inl (.inl h)
          · exact .inl (.inr (by omega))
          · exact .inr h
      · rw [hcl.put_no (by omega) hx]
        refine ih C cl hcl fun j hj => ?_
        rw [← hC j hj, hdr]
        constructor
        · rintro (h | h)
          · exact .inl h
          · exact .inr (.inr h)
        · rintro (h | h | h)
          · exact .inl h
          · left
            cases hCj : C j with
            | true => rfl
            | false => exact absurd ⟨by omega, by omega, by rw [← h, Int.toNat_natCast]; exact hCj⟩ hx
          · exact .inr h
  unfold T0_road_Ends
  rw [hnew]
  exact first 0 (Nat.zero_le _) (fun _ => false) ((n : Int), []) (SetOK.new n) fun j _ => by simp
end Go.Ev
end

section
set_option linter.unusedSectionVars false
set_option linter.unusedVariables false
set_option linter.unusedSimpArgs false
set_option maxRecDepth 100000
set_option linter.unusedVariables false
open Go Go.Ev
namespace Go.Ev
noncomputable section
noncomputable def e_road_Ends : Run := entG sg_road_Ends R_road_Ends (fun a => k_road_Ends a.1 a.2.1 a.2.2.1) (fun a => v_road_Ends a.1 a.2.1 a.2.2.1)
theorem ok_road_Ends : EntOK Go.Proofs.Tryz.prog 18 e_road_Ends := entG_ok (tb := tb_road_Ends) (c := c_road_Ends) tk_road_Ends (by kernel_rfl) (by kernel_rfl) (by kernel_rfl) (fun a => by kernel_rfl) fun ⟨t, points, s, _⟩ hk => evF_goes (c := c_road_Ends) (K := fun v => (R_road_Ends v, tps (toForms sg_road_Ends (t, points, s, ())))) (S := S_road_Ends t points s) (by kernel_rfl) (en_road_Ends t points s) (lp_road_Ends t points s) (g_road_Ends t points s hk)
end
end Go.Ev
end

section
set_option linter.unusedSectionVars false
set_option linter.unusedVariables false
set_option linter.unusedSimpArgs false
set_option maxRecDepth 100000
set_option linter.unusedVariables false
open Go Go.Ev
namespace Go.Ev
noncomputable section
/-! ### slices.Index[[]int,int] -/
def sg_slices_Index___int_int_ : Sig := [(false, (.sl (.int .i64))), (false, (.int .i64))]
noncomputable def t_slices_Index___int_int_ : Tbl := []
theorem tk_slices_Index___int_int_ : ∀ p ∈ t_slices_Index___int_int_, EntOK Go.Proofs.Tryz.prog p.1 p.2 := tbl_nil
noncomputable def c_slices_Index___int_int_ : Code := Go.Proofs.Tryz.f25.body.getD .skip
def tb_slices_Index___int_int_ : Tb := [(3, ⟨[0, 1, 7, 8], []⟩)]
inductive J_slices_Index___int_int_ where
  | l3 (h : Int)
def T_slices_Index___int_int_ (s : List Int) (v_ : Int) : J_slices_Index___int_int_ → JT J_slices_Index___int_int_ (Int)
  | .l3 h =>
    .br (decide (h < (Int.ofNat (List.length s))))
      (.br ((decide ((0 : Int) ≤ h)) && (decide (h < (Int.ofNat (List.length s)))))
        (.br (v_ == (List.getD s (Int.toNat h) (dflt (.int .i64))))
          (.leaf h)
        (.jmp (.l3 (IntKind.i64.wrap (h + (1 : Int))))))
      (.no))
    (.leaf (-1 : Int))
def T0_slices_Index___int_int_ (s : List Int) (v_ : Int) : JT J_slices_Index___int_int_ (Int) :=
  .jmp (.l3 (0 : Int))
def R_slices_Index___int_int_ : Int → AV := fun (r : Int) => .d (.int .i64) r
def S_slices_Index___int_int_ (s : List Int) (v_ : Int) : J_slices_Index___int_int_ → Nat × St
  | .l3 h => (3, ⟨mkTm 19 [(0, .d (.sl (.int .i64)) s), (1, .d (.int .i64) v_), (7, .d (.int .i64) (Int.ofNat (List.length s))), (8, .d (.int .i64) h)], []⟩)
theorem en_slices_Index___int_int_ (s : List Int) (v_ : Int) (L : Lt) : entryA Go.Proofs.Tryz.prog (clOf t_slices_Index___int_int_) tb_slices_Index___int_int_ Go.Proofs.Tryz.f25 c_slices_Index___int_int_ L (toForms sg_slices_Index___int_int_ (s, v_, ())) = (T0_slices_Index___int_int_ s v_).run (fun v => some (R_slices_Index___int_int_ v, tps (toForms sg_slices_Index___int_int_ (s, v_, ())))) fun j => L (S_slices_Index___int_int_ s v_ j).1 (S_slices_Index___int_int_ s v_ j).2 := by kernel_rfl
theorem lp_slices_Index___int_int_ (s : List Int) (v_ : Int) : ∀ (L : Lt) (j : J_slices_Index___int_int_), procOf (procsF Go.Proofs.Tryz.prog (clOf t_slices_Index___int_int_) tb_slices_Index___int_int_ Go.Proofs.Tryz.f25 c_slices_Index___int_int_ (toForms sg_slices_Index___int_int_ (s, v_, ()))) (S_slices_Index___int_int_ s v_ j).1 L (S_slices_Index___int_int_ s v_ j).2 = (T_slices_Index___int_int_ s v_ j).run (fun v => some (R_slices_Index___int_int_ v, tps (toForms sg_slices_Index___int_int_ (s, v_, ())))) fun j => L (S_slices_Index___int_int_ s v_ j).1 (S_slices_Index___int_int_ s v_ j).2
  | L, .l3 h => by kernel_rfl
end
end Go.Ev
end

section
set_option linter.unusedSectionVars false
set_option linter.unusedVariables false
set_option linter.unusedSimpArgs false
set_option linter.unusedVariables false
set_option linter.unusedSimpArgs false
open Go
namespace Go.Ev
def indexI (v : Int) : List Int → Nat → Int
  | [], _ => -1
  | x :: r, k => if v = x then (k : Int) else indexI v r (k + 1)
theorem indexI_ge {v : Int} : ∀ {l : List Int} {k : Nat}, decide (indexI v l k ≥ 0) = l.contains v
  | [], k => rfl
  | x :: r, k => by
    unfold indexI
    rw [List.contains_cons]
    by_cases h : v = x
    · subst h; rw [if_pos rfl]; simp
    · rw [if_neg h, indexI_ge]
      have : (v == x) = false := by simpa using h
      rw [this, Bool.false_or]
def v_slices_Index___int_int_ (s : List Int) (v : Int) : Int := indexI v s 0
def k_slices_Index___int_int_ (s : List Int) (v : Int) : Bool := decide (s.length < 4611686018427387904)
theorem g_slices_Index___int_int_ (s : List Int) (v : Int) (hk : k_slices_Index___int_int_ s v = true) : Goes (T_slices_Index___int_int_ s v) (T0_slices_Index___int_int_ s v) (v_slices_Index___int_int_ s v) := by
  have hn : s.length < 4611686018427387904 := of_decide_eq_true hk
  have loop : ∀ k, k ≤ s.length → Goes (T_slices_Index___int_int_ s v) (.jmp (.l3 (k : Int))) (indexI v (s.drop k) k) := by
    refine down ?_ fun k hk ih => ?_
    · rw [goes_jmp, T_slices_Index___int_int_, goes_br, if_neg (by rw [lt_len_not (Nat.lt_irrefl _)]; decide), List.drop_length]
      exact .leaf
    · have hd : s.getD k (dflt (.int .i64)) = s[k] := getD_lt hk
      rw [goes_jmp, T_slices_Index___int_int_, goes_br, if_pos (lt_len hk), goes_br, if_pos (bound_len hk), goes_br, Int.toNat_natCast, hd, drop_cons hk, indexI, wrap_succ (by omega)]
      by_cases h : v = s[k]
      · rw [if_pos h, if_pos (by simpa using h)]; exact .leaf
      · rw [if_neg h, if_neg (by simpa using h)]; exact ih
  exact loop 0 (Nat.zero_le _)
end Go.Ev
end

section
set_option linter.unusedSectionVars false
set_option linter.unusedVariables false
set_option linter.unusedSimpArgs false
set_option maxRecDepth 100000
set_option linter.unusedVariables false
open Go Go.Ev
namespace Go.Ev
noncomputable section
noncomputable def e_slices_Index___int_int_ : Run := entG sg_slices_Index___int_int_ R_slices_Index___int_int_ (fun a => k_slices_Index___int_int_ a.1 a.2.1) (fun a => v_slices_Index___int_int_ a.1 a.2.1)
theorem ok_slices_Index___int_int_ : EntOK Go.Proofs.Tryz.prog 25 e_slices_Index___int_int_ := entG_ok (tb := tb_slices_Index___int_int_) (c := c_slices_Index___int_int_) tk_slices_Index___int_int_ (by kernel_rfl) (by kernel_rfl) (by kernel_rfl) (fun a => by kernel_rfl) fun ⟨s, v_, _⟩ hk => evF_goes (c := c_slices_Index___int_int_) (K := fun v => (R_slices_Index___int_int_ v, tps (toForms sg_slices_Index___int_int_ (s, v_, ())))) (S := S_slices_Index___int_int_ s v_) (by kernel_rfl) (en_slices_Index___int_int_ s v_) (lp_slices_Index___int_int_ s v_) (g_slices_Index___int_int_ s v_ hk)
end
end Go.Ev
end

section
set_option linter.unusedSectionVars false
set_option linter.unusedVariables false
set_option linter.unusedSimpArgs false
set_option maxRecDepth 100000
set_option linter.unusedVariables false
open Go Go.Ev
namespace Go.Ev
noncomputable section
/-! ### slices.Contains[[]int,int] -/
def sg_slices_Contains___int_int_ : Sig := [(false, (.sl (.int .i64))), (false, (.int .i64))]
noncomputable def t_slices_Contains___int_int_ : Tbl := [(25, e_slices_Index___int_int_)]
theorem tk_slices_Contains___int_int_ : ∀ p ∈ t_slices_Contains___int_int_, EntOK Go.Proofs.Tryz.prog p.1 p.2 := tbl_cons ok_slices_Index___int_int_ (tbl_nil)
noncomputable def c_slices_Contains___int_int_ : Code := Go.Proofs.Tryz.f17.body.getD .skip
def tb_slices_Contains___int_int_ : Tb := []
def T_slices_Contains___int_int_ (s : List Int) (v_ : Int) : Empty → JT Empty (Bool) := fun j => nomatch j
def T0_slices_Contains___int_int_ (s : List Int) (v_ : Int) : JT Empty (Bool) :=
  .br (k_slices_Index___int_int_ s v_)
    (.leaf (decide ((v_slices_Index___int_int_ s v_) ≥ (0 : Int))))
  (.no)
def v_slices_Contains___int_int_ (s : List Int) (v_ : Int) : Bool :=
  bif (k_slices_Index___int_int_ s v_) then
    (decide ((v_slices_Index___int_int_ s v_) ≥ (0 : Int)))
  else false
def k_slices_Contains___int_int_ (s : List Int) (v_ : Int) : Bool :=
  bif (k_slices_Index___int_int_ s v_) then
    true
  else false
theorem g_slices_Contains___int_int_ (s : List Int) (v_ : Int) (hk : k_slices_Contains___int_int_ s v_ = true) : Goes (T_slices_Contains___int_int_ s v_) (T0_slices_Contains___int_int_ s v_) (v_slices_Contains___int_int_ s v_) :=
  Goes.brk hk (fun hk =>
    Goes.leaf) (fun hk =>
    Goes.nok hk)
def R_slices_Contains___int_int_ : Bool → AV := fun (r : Bool) => .d .bool r
def S_slices_Contains___int_int_ (s : List Int) (v_ : Int) : Empty → Nat × St := fun j => nomatch j
theorem en_slices_Contains___int_int_ (s : List Int) (v_ : Int) (L : Lt) : entryA Go.Proofs.Tryz.prog (clOf t_slices_Contains___int_int_) tb_slices_Contains___int_int_ Go.Proofs.Tryz.f17 c_slices_Contains___int_int_ L (toForms sg_slices_Contains___int_int_ (s, v_, ())) = (T0_slices_Contains___int_int_ s v_).run (fun v => some (R_slices_Contains___int_int_ v, tps (toForms sg_slices_Contains___int_int_ (s, v_, ())))) fun j => L (S_slices_Contains___int_int_ s v_ j).1 (S_slices_Contains___int_int_ s v_ j).2 := by kernel_rfl
theorem lp_slices_Contains___int_int_ (s : List Int) (v_ : Int) : ∀ (L : Lt) (j : Empty), procOf (procsF Go.Proofs.Tryz.prog (clOf t_slices_Contains___int_int_) tb_slices_Contains___int_int_ Go.Proofs.Tryz.f17 c_slices_Contains___int_int_ (toForms sg_slices_Contains___int_int_ (s, v_, ()))) (S_slices_Contains___int_int_ s v_ j).1 L (S_slices_Contains___int_int_ s v_ j).2 = (T_slices_Contains___int_int_ s v_ j).run (fun v => some (R_slices_Contains___int_int_ v, tps (toForms sg_slices_Contains___int_int_ (s, v_, ())))) fun j => L (S_slices_Contains___int_int_ s v_ j).1 (S_slices_Contains___int_int_ s v_ j).2 := fun L j => nomatch j
noncomputable def e_slices_Contains___int_int_ : Run := entG sg_slices_Contains___int_int_ R_slices_Contains___int_int_ (fun a => k_slices_Contains___int_int_ a.1 a.2.1) (fun a => v_slices_Contains___int_int_ a.1 a.2.1)
theorem ok_slices_Contains___int_int_ : EntOK Go.Proofs.Tryz.prog 17 e_slices_Contains___int_int_ := entG_ok (tb := tb_slices_Contains___int_int_) (c := c_slices_Contains___int_int_) tk_slices_Contains___int_int_ (by kernel_rfl) (by kernel_rfl) (by kernel_rfl) (fun a => by kernel_rfl) fun ⟨s, v_, _⟩ hk => evF_goes (c := c_slices_Contains___int_int_) (K := fun v => (R_slices_Contains___int_int_ v, tps (toForms sg_slices_Contains___int_int_ (s, v_, ())))) (S := S_slices_Contains___int_int_ s v_) (by kernel_rfl) (en_slices_Contains___int_int_ s v_) (lp_slices_Contains___int_int_ s v_) (g_slices_Contains___int_int_ s v_ hk)
end
end Go.Ev
end

section
set_option linter.unusedSectionVars false
set_option linter.unusedVariables false
set_option linter.unusedSimpArgs false
set_option maxRecDepth 100000
set_option linter.unusedVariables false
open Go Go.Ev
namespace Go.Ev
noncomputable section
/-! ### paling/road.Free -/
def sg_road_Free : Sig := [(true, (.sl T_api_Ins)), (false, (.sl (.int .i64))), (false, (.int .i64)), (false, (.int .i64))]
noncomputable def t_road_Free : Tbl := [(18, e_road_Ends), (17, e_slices_Contains___int_int_)]
theorem tk_road_Free : ∀ p ∈ t_road_Free, EntOK Go.Proofs.Tryz.prog p.1 p.2 := tbl_cons ok_road_Ends (tbl_cons ok_slices_Contains___int_int_ (tbl_nil))
noncomputable def c_road_Free : Code := Go.Proofs.Tryz.f7.body.getD .skip
def tb_road_Free : Tb := []
def T_road_Free (t : List (El T_api_Ins)) (points : List Int) (s : Int) (l : Int) : Empty → JT Empty (Bool) := fun j => nomatch j
def T0_road_Free (t : List (El T_api_Ins)) (points : List Int) (s : Int) (l : Int) : JT Empty (Bool) :=
  .br (k_road_Ends t points s)
    (.br (k_slices_Contains___int_int_ (v_road_Ends t points s) l)
      (.leaf (v_slices_Contains___int_int_ (v_road_Ends t points s) l))
    (.no))
  (.no)
def v_road_Free (t : List (El T_api_Ins)) (points : List Int) (s : Int) (l : Int) : Bool :=
  bif (k_road_Ends t points s) then
    bif (k_slices_Contains___int_int_ (v_road_Ends t points s) l) then
      (v_slices_Contains___int_int_ (v_road_Ends t points s) l)
    else false
  else false
def k_road_Free (t : List (El T_api_Ins)) (points : List Int) (s : Int) (l : Int) : Bool :=
  bif (k_road_Ends t points s) then
    bif (k_slices_Contains___int_int_ (v_road_Ends t points s) l) then
      true
    else false
  else false
theorem g_road_Free (t : List (El T_api_Ins)) (points : List Int) (s : Int) (l : Int) (hk : k_road_Free t points s l = true) : Goes (T_road_Free t points s l) (T0_road_Free t points s l) (v_road_Free t points s l) :=
  Goes.brk hk (fun hk =>
    Goes.brk hk (fun hk =>
      Goes.leaf) (fun hk =>
      Goes.nok hk)) (fun hk =>
    Goes.nok hk)
def R_road_Free : Bool → AV := fun (r : Bool) => .d .bool r
def S_road_Free (t : List (El T_api_Ins)) (points : List Int) (s : Int) (l : Int) : Empty → Nat × St := fun j => nomatch j
theorem en_road_Free (t : List (El T_api_Ins)) (points : List Int) (s : Int) (l : Int) (L : Lt) : entryA Go.Proofs.Tryz.prog (clOf t_road_Free) tb_road_Free Go.Proofs.Tryz.f7 c_road_Free L (toForms sg_road_Free (t, points, s, l, ())) = (T0_road_Free t points s l).run (fun v => some (R_road_Free v, tps (toForms sg_road_Free (t, points, s, l, ())))) fun j => L (S_road_Free t points s l j).1 (S_road_Free t points s l j).2 := by kernel_rfl
theorem lp_road_Free (t : List (El T_api_Ins)) (points : List Int) (s : Int) (l : Int) : ∀ (L : Lt) (j : Empty), procOf (procsF Go.Proofs.Tryz.prog (clOf t_road_Free) tb_road_Free Go.Proofs.Tryz.f7 c_road_Free (toForms sg_road_Free (t, points, s, l, ()))) (S_road_Free t points s l j).1 L (S_road_Free t points s l j).2 = (T_road_Free t points s l j).run (fun v => some (R_road_Free v, tps (toForms sg_road_Free (t, points, s, l, ())))) fun j => L (S_road_Free t points s l j).1 (S_road_Free t points s l j).2 := fun L j => nomatch j
noncomputable def e_road_Free : Run := entG sg_road_Free R_road_Free (fun a => k_road_Free a.1 a.2.1 a.2.2.1 a.2.2.2.1) (fun a => v_road_Free a.1 a.2.1 a.2.2.1 a.2.2.2.1)
theorem ok_road_Free : EntOK Go.Proofs.Tryz.prog 7 e_road_Free := entG_ok (tb := tb_road_Free) (c := c_road_Free) tk_road_Free (by kernel_rfl) (by kernel_rfl) (by kernel_rfl) (fun a => by kernel_rfl) fun ⟨t, points, s, l, _⟩ hk => evF_goes (c := c_road_Free) (K := fun v => (R_road_Free v, tps (toForms sg_road_Free (t, points, s, l, ())))) (S := S_road_Free t points s l) (by kernel_rfl) (en_road_Free t points s l) (lp_road_Free t points s l) (g_road_Free t points s l hk)
end
end Go.Ev
end

section
set_option linter.unusedSectionVars false
set_option linter.unusedVariables false
set_option linter.unusedSimpArgs false
set_option maxRecDepth 100000
set_option linter.unusedVariables false
open Go Go.Ev
namespace Go.Ev
noncomputable section
/-! ### paling/palingref3.There -/
def sg_ref3_There : Sig := [(false, (.sl (.int .i64))), (false, (.int .i64))]
noncomputable def t_ref3_There : Tbl := [(14, e_ref3_Rising)]
theorem tk_ref3_There : ∀ p ∈ t_ref3_There, EntOK Go.Proofs.Tryz.prog p.1 p.2 := tbl_cons ok_ref3_Rising (tbl_nil)
noncomputable def c_ref3_There : Code := Go.Proofs.Tryz.f8.body.getD .skip
def tb_ref3_There : Tb := [(7, ⟨[0, 1, 5, 6], []⟩)]
inductive J_ref3_There where
  | l7 (n : Int) (k : Int)
def T_ref3_There (points : List Int) (i : Int) : J_ref3_There → JT J_ref3_There (Int)
  | .l7 n k =>
    .br (decide (k < (Int.ofNat (List.length points))))
      (.br ((decide ((0 : Int) ≤ k)) && (decide (k < (Int.ofNat (List.length points)))))
        (.br (decide ((List.getD points (Int.toNat k) (dflt (.int .i64))) ≤ i))
          (.jmp (.l7 (IntKind.i64.wrap (n + (1 : Int))) (IntKind.i64.wrap (k + (1 : Int)))))
        (.jmp (.l7 n (IntKind.i64.wrap (k + (1 : Int))))))
      (.no))
    (.leaf (IntKind.i64.wrap (i + n)))
def T0_ref3_There (points : List Int) (i : Int) : JT J_ref3_There (Int) :=
  .br (k_ref3_Rising points)
    (.br (! (v_ref3_Rising points))
      (.leaf i)
    (.br (decide (i < (0 : Int)))
      (.leaf i)
    (.br (decide (i ≥ (2147483648 : Int)))
      (.leaf i)
    (.jmp (.l7 (0 : Int) (0 : Int))))))
  (.no)
def R_ref3_There : Int → AV := fun (r : Int) => .d (.int .i64) r
def S_ref3_There (points : List Int) (i : Int) : J_ref3_There → Nat × St
  | .l7 n k => (7, ⟨mkTm 36 [(0, .d (.sl (.int .i64)) points), (1, .d (.int .i64) i), (5, .d (.int .i64) n), (6, .d (.int .i64) k)], []⟩)
theorem en_ref3_There (points : List Int) (i : Int) (L : Lt) : entryA Go.Proofs.Tryz.prog (clOf t_ref3_There) tb_ref3_There Go.Proofs.Tryz.f8 c_ref3_There L (toForms sg_ref3_There (points, i, ())) = (T0_ref3_There points i).run (fun v => some (R_ref3_There v, tps (toForms sg_ref3_There (points, i, ())))) fun j => L (S_ref3_There points i j).1 (S_ref3_There points i j).2 := by kernel_rfl
theorem lp_ref3_There (points : List Int) (i : Int) : ∀ (L : Lt) (j : J_ref3_There), procOf (procsF Go.Proofs.Tryz.prog (clOf t_ref3_There) tb_ref3_There Go.Proofs.Tryz.f8 c_ref3_There (toForms sg_ref3_There (points, i, ()))) (S_ref3_There points i j).1 L (S_ref3_There points i j).2 = (T_ref3_There points i j).run (fun v => some (R_ref3_There v, tps (toForms sg_ref3_There (points, i, ())))) fun j => L (S_ref3_There points i j).1 (S_ref3_There points i j).2
  | L, .l7 n k => by kernel_rfl
end
end Go.Ev
end

section
set_option linter.unusedSectionVars false
set_option linter.unusedVariables false
set_option linter.unusedSimpArgs false
set_option linter.unusedVariables false
set_option linter.unusedSimpArgs false
open Go
namespace Go.Ev
def v_ref3_There (points : List Int) (i : Int) : Int := thereC points i
def k_ref3_There (points : List Int) (i : Int) : Bool := decide (points.length < 4611686018427387904)
theorem g_ref3_There (l : List Int) (i : Int) (hk : k_ref3_There l i = true) : Goes (T_ref3_There l i) (T0_ref3_There l i) (v_ref3_There l i) := by
  have hn : l.length < 4611686018427387904 := of_decide_eq_true hk
  have hko : k_ref3_Rising l = true := hk
  have loop : 0 ≤ i → i ≤ 2147483647 → ∀ k, k ≤ l.length → ∀ n : Nat, n ≤ k → Goes (T_ref3_There l i) (.jmp (.l7 (n : Int) (k : Int))) (i + ((n + upTo (l.drop k) i : Nat) : Int)) := by
    intro h0 h1
    refine down ?_ fun k hk ih => ?_
    · intro n hnk
      rw [goes_jmp]
      simp only [T_ref3_There, goes_br, lt_len_not (Nat.lt_irrefl _), List.drop_length, if_false, Bool.false_eq_true]
      rw [show upTo [] i = 0 from rfl, Nat.add_zero, wrap_i64 (by omega) (by omega)]
      exact .leaf
    · intro n hnk
      rw [goes_jmp, drop_cons hk]
      simp only [T_ref3_There, goes_br, lt_len hk, nng, Bool.and_self, if_true, Int.toNat_natCast, getD_lt hk, wrap_succ (k := k) (by omega), wrap_succ (k := n) (by omega)]
      have e : upTo (l[k] :: List.drop (k + 1) l) i = (if decide (l[k] ≤ i) = true then 1 else 0) + upTo (List.drop (k + 1) l) i := by
        unfold upTo
        rw [List.countP_cons, Nat.add_comm]
      split
      · rename_i h
        rw [e, if_pos h, ← Nat.add_assoc]
        exact ih (n + 1) (by omega)
      · rename_i h
        rw [e, if_neg h, Nat.zero_add]
        exact ih n (by omega)
  unfold T0_ref3_There v_ref3_There thereC
  by_cases h0 : i < 0
  · rw [if_pos (.inl h0)]
    simp only [goes_br, hko, decide_eq_true h0, if_true]
    split <;> exact .leaf
  · by_cases h1 : 2147483647 < i
    · rw [if_pos (.inr (.inl h1))]
      have h2 : decide (i ≥ 2147483648) = true := decide_eq_true (by omega)
      simp only [goes_br, hko, decide_eq_false h0, h2, if_true]
      split
      · exact .leaf
      · exact .leaf
    · have := loop (by omega) (by omega) 0 (Nat.zero_le _) 0 (Nat.le_refl _)
      rw [Nat.zero_add, List.drop_zero] at this
      have h2 : decide (i ≥ 2147483648) = false := decide_eq_false (by omega)
      simp only [goes_br, decide_eq_false h0, h2, hko, if_true, v_ref3_Rising, if_false, Bool.false_eq_true]
      by_cases hr : rising l = true
      · rw [if_neg (by simp [hr]), if_neg (by simp [hr]; omega)]
        exact this
      · have hr' : rising l = false := by simpa using hr
        rw [if_pos (by simp [hr']), if_pos (.inr (.inr hr'))]
        exact .leaf
end Go.Ev
end

section
set_option linter.unusedSectionVars false
set_option linter.unusedVariables false
set_option linter.unusedSimpArgs false
set_option maxRecDepth 100000
set_option linter.unusedVariables false
open Go Go.Ev
namespace Go.Ev
noncomputable section
noncomputable def e_ref3_There : Run := entG sg_ref3_There R_ref3_There (fun a => k_ref3_There a.1 a.2.1) (fun a => v_ref3_There a.1 a.2.1)
theorem ok_ref3_There : EntOK Go.Proofs.Tryz.prog 8 e_ref3_There := entG_ok (tb := tb_ref3_There) (c := c_ref3_There) tk_ref3_There (by kernel_rfl) (by kernel_rfl) (by kernel_rfl) (fun a => by kernel_rfl) fun ⟨points, i, _⟩ hk => evF_goes (c := c_ref3_There) (K := fun v => (R_ref3_There v, tps (toForms sg_ref3_There (points, i, ())))) (S := S_ref3_There points i) (by kernel_rfl) (en_ref3_There points i) (lp_ref3_There points i) (g_ref3_There points i hk)
end
end Go.Ev
end

section
set_option linter.unusedSectionVars false
set_option linter.unusedVariables false
set_option linter.unusedSimpArgs false
set_option maxRecDepth 100000
set_option linter.unusedVariables false
open Go Go.Ev
namespace Go.Ev
noncomputable section
/-! ### paling/palingbook.SameInts -/
def sg_book_SameInts : Sig := [(false, (.sl (.int .i64))), (false, (.sl (.int .i64)))]
noncomputable def t_book_SameInts : Tbl := []
theorem tk_book_SameInts : ∀ p ∈ t_book_SameInts, EntOK Go.Proofs.Tryz.prog p.1 p.2 := tbl_nil
noncomputable def c_book_SameInts : Code := Go.Proofs.Tryz.f19.body.getD .skip
def tb_book_SameInts : Tb := [(6, ⟨[0, 1, 5], []⟩)]
inductive J_book_SameInts where
  | l6 (i : Int)
def T_book_SameInts (a : List Int) (b : List Int) : J_book_SameInts → JT J_book_SameInts (Bool)
  | .l6 i =>
    .br (decide (i < (Int.ofNat (List.length a))))
      (.br ((decide ((0 : Int) ≤ i)) && (decide (i < (Int.ofNat (List.length a)))))
        (.br ((decide ((0 : Int) ≤ i)) && (decide (i < (Int.ofNat (List.length b)))))
          (.br ((List.getD a (Int.toNat i) (dflt (.int .i64))) != (List.getD b (Int.toNat i) (dflt (.int .i64))))
            (.leaf false)
          (.jmp (.l6 (IntKind.i64.wrap (i + (1 : Int))))))
        (.no))
      (.no))
    (.leaf true)
def T0_book_SameInts (a : List Int) (b : List Int) : JT J_book_SameInts (Bool) :=
  .br ((Int.ofNat (List.length a)) != (Int.ofNat (List.length b)))
    (.leaf false)
  (.jmp (.l6 (0 : Int)))
def R_book_SameInts : Bool → AV := fun (r : Bool) => .d .bool r
def S_book_SameInts (a : List Int) (b : List Int) : J_book_SameInts → Nat × St
  | .l6 i => (6, ⟨mkTm 26 [(0, .d (.sl (.int .i64)) a), (1, .d (.sl (.int .i64)) b), (5, .d (.int .i64) i)], []⟩)
theorem en_book_SameInts (a : List Int) (b : List Int) (L : Lt) : entryA Go.Proofs.Tryz.prog (clOf t_book_SameInts) tb_book_SameInts Go.Proofs.Tryz.f19 c_book_SameInts L (toForms sg_book_SameInts (a, b, ())) = (T0_book_SameInts a b).run (fun v => some (R_book_SameInts v, tps (toForms sg_book_SameInts (a, b, ())))) fun j => L (S_book_SameInts a b j).1 (S_book_SameInts a b j).2 := by kernel_rfl
theorem lp_book_SameInts (a : List Int) (b : List Int) : ∀ (L : Lt) (j : J_book_SameInts), procOf (procsF Go.Proofs.Tryz.prog (clOf t_book_SameInts) tb_book_SameInts Go.Proofs.Tryz.f19 c_book_SameInts (toForms sg_book_SameInts (a, b, ()))) (S_book_SameInts a b j).1 L (S_book_SameInts a b j).2 = (T_book_SameInts a b j).run (fun v => some (R_book_SameInts v, tps (toForms sg_book_SameInts (a, b, ())))) fun j => L (S_book_SameInts a b j).1 (S_book_SameInts a b j).2
  | L, .l6 i => by kernel_rfl
end
end Go.Ev
end

section
set_option linter.unusedSectionVars false
set_option linter.unusedVariables false
set_option linter.unusedSimpArgs false
set_option linter.unusedVariables false
set_option linter.unusedSimpArgs false
open Go
namespace Go.Ev
theorem intB_eq {a b : Int} : (a == b) = decide (a = b) := by rw [Bool.eq_iff_iff]; simp

def v_book_SameInts (a b : List Int) : Bool := decide (a = b)
def k_book_SameInts (a b : List Int) : Bool := decide (a.length < 4611686018427387904)
theorem g_book_SameInts (a b : List Int) (hk : k_book_SameInts a b = true) : Goes (T_book_SameInts a b) (T0_book_SameInts a b) (v_book_SameInts a b) := by
  have hn : a.length < 4611686018427387904 := of_decide_eq_true hk
  have loop : a.length = b.length → ∀ k, k ≤ a.length → Goes (T_book_SameInts a b) (.jmp (.l6 (k : Int))) (decide (a.drop k = b.drop k)) := by
    intro he
    refine down ?_ fun k hk ih => ?_
    · rw [goes_jmp]
      simp [T_book_SameInts, goes_br, goes_leaf, he]
    · rw [goes_jmp]
      have hkb : k < b.length := he ▸ hk
      simp only [T_book_SameInts, goes_br, lt_len hk, lt_len hkb, nng, Bool.and_self, if_true, Int.toNat_natCast, getD_lt hk, getD_lt hkb, wrap_succ (k := k) (by omega)]
      rw [drop_cons hk, drop_cons hkb]
      split
      · rename_i h1
        have h2 : (! decide (a[k] = b[k])) = true := (congrArg Bool.not intB_eq).symm.trans h1
        have h3 : ¬ a[k] = b[k] := by simpa using h2
        rw [decide_eq_false (fun e => h3 (List.cons.inj e).1)]
        exact .leaf
      · rename_i h1
        have h2 : ¬ (! decide (a[k] = b[k])) = true := fun h => h1 ((congrArg Bool.not intB_eq).trans h)
        have h3 : a[k] = b[k] := by simpa using h2
        rw [show decide (a[k] :: List.drop (k + 1) a = b[k] :: List.drop (k + 1) b) = decide (List.drop (k + 1) a = List.drop (k + 1) b) from decide_eq_decide.2 ⟨fun e => (List.cons.inj e).2, fun e => by rw [h3, e]⟩]
        exact ih
  unfold T0_book_SameInts v_book_SameInts
  rw [goes_br]
  by_cases h : a.length = b.length
  · have := loop h 0 (Nat.zero_le _)
    simpa [h] using this
  · have : a ≠ b := fun e => h (congrArg _ e)
    rw [if_pos (by simp; omega), decide_eq_false this]
    exact .leaf

end Go.Ev
end

section
set_option linter.unusedSectionVars false
set_option linter.unusedVariables false
set_option linter.unusedSimpArgs false
set_option maxRecDepth 100000
set_option linter.unusedVariables false
open Go Go.Ev
namespace Go.Ev
noncomputable section
noncomputable def e_book_SameInts : Run := entG sg_book_SameInts R_book_SameInts (fun a => k_book_SameInts a.1 a.2.1) (fun a => v_book_SameInts a.1 a.2.1)
theorem ok_book_SameInts : EntOK Go.Proofs.Tryz.prog 19 e_book_SameInts := entG_ok (tb := tb_book_SameInts) (c := c_book_SameInts) tk_book_SameInts (by kernel_rfl) (by kernel_rfl) (by kernel_rfl) (fun a => by kernel_rfl) fun ⟨a, b, _⟩ hk => evF_goes (c := c_book_SameInts) (K := fun v => (R_book_SameInts v, tps (toForms sg_book_SameInts (a, b, ())))) (S := S_book_SameInts a b) (by kernel_rfl) (en_book_SameInts a b) (lp_book_SameInts a b) (g_book_SameInts a b hk)
end
end Go.Ev
end

section
set_option linter.unusedSectionVars false
set_option linter.unusedVariables false
set_option linter.unusedSimpArgs false
set_option maxRecDepth 100000
set_option linter.unusedVariables false
open Go Go.Ev
namespace Go.Ev
noncomputable section
/-! ### paling/palinglaw21.alive -/
def sg_law21_alive : Sig := []
noncomputable def t_law21_alive : Tbl := [(7, e_road_Free), (18, e_road_Ends), (19, e_book_SameInts)]
theorem tk_law21_alive : ∀ p ∈ t_law21_alive, EntOK Go.Proofs.Tryz.prog p.1 p.2 := tbl_cons ok_road_Free (tbl_cons ok_road_Ends (tbl_cons ok_book_SameInts (tbl_nil)))
noncomputable def c_law21_alive : Code := Go.Proofs.Tryz.f9.body.getD .skip
def tb_law21_alive : Tb := []
def T_law21_alive : Empty → JT Empty (Bool) := fun j => nomatch j
def T0_law21_alive : JT Empty (Bool) :=
  .br (k_road_Free [((1 : Int), (false, ((0 : Int), (((3 : Int), ((0 : Int), ((0 : Int), (0 : Int)))), (((2 : Int), ((0 : Int), ((0 : Int), (1 : Int)))), ((bs []), [])))))), ((1 : Int), (false, ((0 : Int), (((1 : Int), ((0 : Int), ((0 : Int), (0 : Int)))), (((3 : Int), ((0 : Int), ((0 : Int), (0 : Int)))), ((bs []), [])))))), ((14 : Int), (false, ((0 : Int), (((0 : Int), ((0 : Int), ((0 : Int), (0 : Int)))), (((0 : Int), ((0 : Int), ((0 : Int), (0 : Int)))), ((bs []), []))))))] [] (0 : Int) (1 : Int))
    (.br (v_road_Free [((1 : Int), (false, ((0 : Int), (((3 : Int), ((0 : Int), ((0 : Int), (0 : Int)))), (((2 : Int), ((0 : Int), ((0 : Int), (1 : Int)))), ((bs []), [])))))), ((1 : Int), (false, ((0 : Int), (((1 : Int), ((0 : Int), ((0 : Int), (0 : Int)))), (((3 : Int), ((0 : Int), ((0 : Int), (0 : Int)))), ((bs []), [])))))), ((14 : Int), (false, ((0 : Int), (((0 : Int), ((0 : Int), ((0 : Int), (0 : Int)))), (((0 : Int), ((0 : Int), ((0 : Int), (0 : Int)))), ((bs []), []))))))] [] (0 : Int) (1 : Int))
      (.br (k_road_Free [((1 : Int), (false, ((0 : Int), (((3 : Int), ((0 : Int), ((0 : Int), (0 : Int)))), (((2 : Int), ((0 : Int), ((0 : Int), (1 : Int)))), ((bs []), [])))))), ((1 : Int), (false, ((0 : Int), (((1 : Int), ((0 : Int), ((0 : Int), (0 : Int)))), (((3 : Int), ((0 : Int), ((0 : Int), (0 : Int)))), ((bs []), [])))))), ((14 : Int), (false, ((0 : Int), (((0 : Int), ((0 : Int), ((0 : Int), (0 : Int)))), (((0 : Int), ((0 : Int), ((0 : Int), (0 : Int)))), ((bs []), []))))))] [(1 : Int)] (0 : Int) (1 : Int))
        (.br (! (v_road_Free [((1 : Int), (false, ((0 : Int), (((3 : Int), ((0 : Int), ((0 : Int), (0 : Int)))), (((2 : Int), ((0 : Int), ((0 : Int), (1 : Int)))), ((bs []), [])))))), ((1 : Int), (false, ((0 : Int), (((1 : Int), ((0 : Int), ((0 : Int), (0 : Int)))), (((3 : Int), ((0 : Int), ((0 : Int), (0 : Int)))), ((bs []), [])))))), ((14 : Int), (false, ((0 : Int), (((0 : Int), ((0 : Int), ((0 : Int), (0 : Int)))), (((0 : Int), ((0 : Int), ((0 : Int), (0 : Int)))), ((bs []), []))))))] [(1 : Int)] (0 : Int) (1 : Int)))
          (.br (k_road_Free [((1 : Int), (false, ((0 : Int), (((3 : Int), ((0 : Int), ((0 : Int), (0 : Int)))), (((2 : Int), ((0 : Int), ((0 : Int), (1 : Int)))), ((bs []), [])))))), ((1 : Int), (false, ((0 : Int), (((1 : Int), ((0 : Int), ((0 : Int), (0 : Int)))), (((3 : Int), ((0 : Int), ((0 : Int), (0 : Int)))), ((bs []), [])))))), ((14 : Int), (false, ((0 : Int), (((0 : Int), ((0 : Int), ((0 : Int), (0 : Int)))), (((0 : Int), ((0 : Int), ((0 : Int), (0 : Int)))), ((bs []), []))))))] [] (1 : Int) (0 : Int))
            (.br (! (v_road_Free [((1 : Int), (false, ((0 : Int), (((3 : Int), ((0 : Int), ((0 : Int), (0 : Int)))), (((2 : Int), ((0 : Int), ((0 : Int), (1 : Int)))), ((bs []), [])))))), ((1 : Int), (false, ((0 : Int), (((1 : Int), ((0 : Int), ((0 : Int), (0 : Int)))), (((3 : Int), ((0 : Int), ((0 : Int), (0 : Int)))), ((bs []), [])))))), ((14 : Int), (false, ((0 : Int), (((0 : Int), ((0 : Int), ((0 : Int), (0 : Int)))), (((0 : Int), ((0 : Int), ((0 : Int), (0 : Int)))), ((bs []), []))))))] [] (1 : Int) (0 : Int)))
              (.br (k_road_Ends [((1 : Int), (false, ((0 : Int), (((3 : Int), ((0 : Int), ((0 : Int), (0 : Int)))), (((2 : Int), ((0 : Int), ((0 : Int), (1 : Int)))), ((bs []), [])))))), ((1 : Int), (false, ((0 : Int), (((1 : Int), ((0 : Int), ((0 : Int), (0 : Int)))), (((3 : Int), ((0 : Int), ((0 : Int), (0 : Int)))), ((bs []), [])))))), ((14 : Int), (false, ((0 : Int), (((0 : Int), ((0 : Int), ((0 : Int), (0 : Int)))), (((0 : Int), ((0 : Int), ((0 : Int), (0 : Int)))), ((bs []), []))))))] [(2 : Int)] (0 : Int))
                (.br (k_book_SameInts (v_road_Ends [((1 : Int), (false, ((0 : Int), (((3 : Int), ((0 : Int), ((0 : Int), (0 : Int)))), (((2 : Int), ((0 : Int), ((0 : Int), (1 : Int)))), ((bs []), [])))))), ((1 : Int), (false, ((0 : Int), (((1 : Int), ((0 : Int), ((0 : Int), (0 : Int)))), (((3 : Int), ((0 : Int), ((0 : Int), (0 : Int)))), ((bs []), [])))))), ((14 : Int), (false, ((0 : Int), (((0 : Int), ((0 : Int), ((0 : Int), (0 : Int)))), (((0 : Int), ((0 : Int), ((0 : Int), (0 : Int)))), ((bs []), []))))))] [(2 : Int)] (0 : Int)) [(1 : Int)])
                  (.leaf (v_book_SameInts (v_road_Ends [((1 : Int), (false, ((0 : Int), (((3 : Int), ((0 : Int), ((0 : Int), (0 : Int)))), (((2 : Int), ((0 : Int), ((0 : Int), (1 : Int)))), ((bs []), [])))))), ((1 : Int), (false, ((0 : Int), (((1 : Int), ((0 : Int), ((0 : Int), (0 : Int)))), (((3 : Int), ((0 : Int), ((0 : Int), (0 : Int)))), ((bs []), [])))))), ((14 : Int), (false, ((0 : Int), (((0 : Int), ((0 : Int), ((0 : Int), (0 : Int)))), (((0 : Int), ((0 : Int), ((0 : Int), (0 : Int)))), ((bs []), []))))))] [(2 : Int)] (0 : Int)) [(1 : Int)]))
                (.no))
              (.no))
            (.leaf false))
          (.no))
        (.leaf false))
      (.no))
    (.leaf false))
  (.no)
def v_law21_alive : Bool :=
  bif (k_road_Free [((1 : Int), (false, ((0 : Int), (((3 : Int), ((0 : Int), ((0 : Int), (0 : Int)))), (((2 : Int), ((0 : Int), ((0 : Int), (1 : Int)))), ((bs []), [])))))), ((1 : Int), (false, ((0 : Int), (((1 : Int), ((0 : Int), ((0 : Int), (0 : Int)))), (((3 : Int), ((0 : Int), ((0 : Int), (0 : Int)))), ((bs []), [])))))), ((14 : Int), (false, ((0 : Int), (((0 : Int), ((0 : Int), ((0 : Int), (0 : Int)))), (((0 : Int), ((0 : Int), ((0 : Int), (0 : Int)))), ((bs []), []))))))] [] (0 : Int) (1 : Int)) then
    bif (v_road_Free [((1 : Int), (false, ((0 : Int), (((3 : Int), ((0 : Int), ((0 : Int), (0 : Int)))), (((2 : Int), ((0 : Int), ((0 : Int), (1 : Int)))), ((bs []), [])))))), ((1 : Int), (false, ((0 : Int), (((1 : Int), ((0 : Int), ((0 : Int), (0 : Int)))), (((3 : Int), ((0 : Int), ((0 : Int), (0 : Int)))), ((bs []), [])))))), ((14 : Int), (false, ((0 : Int), (((0 : Int), ((0 : Int), ((0 : Int), (0 : Int)))), (((0 : Int), ((0 : Int), ((0 : Int), (0 : Int)))), ((bs []), []))))))] [] (0 : Int) (1 : Int)) then
      bif (k_road_Free [((1 : Int), (false, ((0 : Int), (((3 : Int), ((0 : Int), ((0 : Int), (0 : Int)))), (((2 : Int), ((0 : Int), ((0 : Int), (1 : Int)))), ((bs []), [])))))), ((1 : Int), (false, ((0 : Int), (((1 : Int), ((0 : Int), ((0 : Int), (0 : Int)))), (((3 : Int), ((0 : Int), ((0 : Int), (0 : Int)))), ((bs []), [])))))), ((14 : Int), (false, ((0 : Int), (((0 : Int), ((0 : Int), ((0 : Int), (0 : Int)))), (((0 : Int), ((0 : Int), ((0 : Int), (0 : Int)))), ((bs []), []))))))] [(1 : Int)] (0 : Int) (1 : Int)) then
        bif (! (v_road_Free [((1 : Int), (false, ((0 : Int), (((3 : Int), ((0 : Int), ((0 : Int), (0 : Int)))), (((2 : Int), ((0 : Int), ((0 : Int), (1 : Int)))), ((bs []), [])))))), ((1 : Int), (false, ((0 : Int), (((1 : Int), ((0 : Int), ((0 : Int), (0 : Int)))), (((3 : Int), ((0 : Int), ((0 : Int), (0 : Int)))), ((bs []), [])))))), ((14 : Int), (false, ((0 : Int), (((0 : Int), ((0 : Int), ((0 : Int), (0 : Int)))), (((0 : Int), ((0 : Int), ((0 : Int), (0 : Int)))), ((bs []), []))))))] [(1 : Int)] (0 : Int) (1 : Int))) then
          bif (k_road_Free [((1 : Int), (false, ((0 : Int), (((3 : Int), ((0 : Int), ((0 : Int), (0 : Int)))), (((2 : Int), ((0 : Int), ((0 : Int), (1 : Int)))), ((bs []), [])))))), ((1 : Int), (false, ((0 : Int), (((1 : Int), ((0 : Int), ((0 : Int), (0 : Int)))), (((3 : Int), ((0 : Int), ((0 : Int), (0 : Int)))), ((bs []), [])))))), ((14 : Int), (false, ((0 : Int), (((0 : Int), ((0 : Int), ((0 : Int), (0 : Int)))), (((0 : Int), ((0 : Int), ((0 : Int), (0 : Int)))), ((bs []), []))))))] [] (1 : Int) (0 : Int)) then
            bif (! (v_road_Free [((1 : Int), (false, ((0 : Int), (((3 : Int), ((0 : Int), ((0 : Int), (0 : Int)))), (((2 : Int), ((0 : Int), ((0 : Int), (1 : Int)))), ((bs []), [])))))), ((1 : Int), (false, ((0 : Int), (((1 : Int), ((0 : Int), ((0 : Int), (0 : Int)))), (((3 : Int), ((0 : Int), ((0 : Int), (0 : Int)))), ((bs []), [])))))), ((14 : Int), (false, ((0 : Int), (((0 : Int), ((0 : Int), ((0 : Int), (0 : Int)))), (((0 : Int), ((0 : Int), ((0 : Int), (0 : Int)))), ((bs []), []))))))] [] (1 : Int) (0 : Int))) then
              bif (k_road_Ends [((1 : Int), (false, ((0 : Int), (((3 : Int), ((0 : Int), ((0 : Int), (0 : Int)))), (((2 : Int), ((0 : Int), ((0 : Int), (1 : Int)))), ((bs []), [])))))), ((1 : Int), (false, ((0 : Int), (((1 : Int), ((0 : Int), ((0 : Int), (0 : Int)))), (((3 : Int), ((0 : Int), ((0 : Int), (0 : Int)))), ((bs []), [])))))), ((14 : Int), (false, ((0 : Int), (((0 : Int), ((0 : Int), ((0 : Int), (0 : Int)))), (((0 : Int), ((0 : Int), ((0 : Int), (0 : Int)))), ((bs []), []))))))] [(2 : Int)] (0 : Int)) then
                bif (k_book_SameInts (v_road_Ends [((1 : Int), (false, ((0 : Int), (((3 : Int), ((0 : Int), ((0 : Int), (0 : Int)))), (((2 : Int), ((0 : Int), ((0 : Int), (1 : Int)))), ((bs []), [])))))), ((1 : Int), (false, ((0 : Int), (((1 : Int), ((0 : Int), ((0 : Int), (0 : Int)))), (((3 : Int), ((0 : Int), ((0 : Int), (0 : Int)))), ((bs []), [])))))), ((14 : Int), (false, ((0 : Int), (((0 : Int), ((0 : Int), ((0 : Int), (0 : Int)))), (((0 : Int), ((0 : Int), ((0 : Int), (0 : Int)))), ((bs []), []))))))] [(2 : Int)] (0 : Int)) [(1 : Int)]) then
                  (v_book_SameInts (v_road_Ends [((1 : Int), (false, ((0 : Int), (((3 : Int), ((0 : Int), ((0 : Int), (0 : Int)))), (((2 : Int), ((0 : Int), ((0 : Int), (1 : Int)))), ((bs []), [])))))), ((1 : Int), (false, ((0 : Int), (((1 : Int), ((0 : Int), ((0 : Int), (0 : Int)))), (((3 : Int), ((0 : Int), ((0 : Int), (0 : Int)))), ((bs []), [])))))), ((14 : Int), (false, ((0 : Int), (((0 : Int), ((0 : Int), ((0 : Int), (0 : Int)))), (((0 : Int), ((0 : Int), ((0 : Int), (0 : Int)))), ((bs []), []))))))] [(2 : Int)] (0 : Int)) [(1 : Int)])
                else false
              else false
            else false
          else false
        else false
      else false
    else false
  else false
def k_law21_alive : Bool :=
  bif (k_road_Free [((1 : Int), (false, ((0 : Int), (((3 : Int), ((0 : Int), ((0 : Int), (0 : Int)))), (((2 : Int), ((0 : Int), ((0 : Int), (1 : Int)))), ((bs []), [])))))), ((1 : Int), (false, ((0 : Int), (((1 : Int), ((0 : Int), ((0 : Int), (0 : Int)))), (((3 : Int), ((0 : Int), ((0 : Int), (0 : Int)))), ((bs []), [])))))), ((14 : Int), (false, ((0 : Int), (((0 : Int), ((0 : Int), ((0 : Int), (0 : Int)))), (((0 : Int), ((0 : Int), ((0 : Int), (0 : Int)))), ((bs []), []))))))] [] (0 : Int) (1 : Int)) then
    bif (v_road_Free [((1 : Int), (false, ((0 : Int), (((3 : Int), ((0 : Int), ((0 : Int), (0 : Int)))), (((2 : Int), ((0 : Int), ((0 : Int), (1 : Int)))), ((bs []), [])))))), ((1 : Int), (false, ((0 : Int), (((1 : Int), ((0 : Int), ((0 : Int), (0 : Int)))), (((3 : Int), ((0 : Int), ((0 : Int), (0 : Int)))), ((bs []), [])))))), ((14 : Int), (false, ((0 : Int), (((0 : Int), ((0 : Int), ((0 : Int), (0 : Int)))), (((0 : Int), ((0 : Int), ((0 : Int), (0 : Int)))), ((bs []), []))))))] [] (0 : Int) (1 : Int)) then
      bif (k_road_Free [((1 : Int), (false, ((0 : Int), (((3 : Int), ((0 : Int), ((0 : Int), (0 : Int)))), (((2 : Int), ((0 : Int), ((0 : Int), (1 : Int)))), ((bs []), [])))))), ((1 : Int), (false, ((0 : Int), (((1 : Int), ((0 : Int), ((0 : Int), (0 : Int)))), (((3 : Int), ((0 : Int), ((0 : Int), (0 : Int)))), ((bs []), [])))))), ((14 : Int), (false, ((0 : Int), (((0 : Int), ((0 : Int), ((0 : Int), (0 : Int)))), (((0 : Int), ((0 : Int), ((0 : Int), (0 : Int)))), ((bs []), []))))))] [(1 : Int)] (0 : Int) (1 : Int)) then
        bif (! (v_road_Free [((1 : Int), (false, ((0 : Int), (((3 : Int), ((0 : Int), ((0 : Int), (0 : Int)))), (((2 : Int), ((0 : Int), ((0 : Int), (1 : Int)))), ((bs []), [])))))), ((1 : Int), (false, ((0 : Int), (((1 : Int), ((0 : Int), ((0 : Int), (0 : Int)))), (((3 : Int), ((0 : Int), ((0 : Int), (0 : Int)))), ((bs []), [])))))), ((14 : Int), (false, ((0 : Int), (((0 : Int), ((0 : Int), ((0 : Int), (0 : Int)))), (((0 : Int), ((0 : Int), ((0 : Int), (0 : Int)))), ((bs []), []))))))] [(1 : Int)] (0 : Int) (1 : Int))) then
          bif (k_road_Free [((1 : Int), (false, ((0 : Int), (((3 : Int), ((0 : Int), ((0 : Int), (0 : Int)))), (((2 : Int), ((0 : Int), ((0 : Int), (1 : Int)))), ((bs []), [])))))), ((1 : Int), (false, ((0 : Int), (((1 : Int), ((0 : Int), ((0 : Int), (0 : Int)))), (((3 : Int), ((0 : Int), ((0 : Int), (0 : Int)))), ((bs []), [])))))), ((14 : Int), (false, ((0 : Int), (((0 : Int), ((0 : Int), ((0 : Int), (0 : Int)))), (((0 : Int), ((0 : Int), ((0 : Int), (0 : Int)))), ((bs []), []))))))] [] (1 : Int) (0 : Int)) then
            bif (! (v_road_Free [((1 : Int), (false, ((0 : Int), (((3 : Int), ((0 : Int), ((0 : Int), (0 : Int)))), (((2 : Int), ((0 : Int), ((0 : Int), (1 : Int)))), ((bs []), [])))))), ((1 : Int), (false, ((0 : Int), (((1 : Int), ((0 : Int), ((0 : Int), (0 : Int)))), (((3 : Int), ((0 : Int), ((0 : Int), (0 : Int)))), ((bs []), [])))))), ((14 : Int), (false, ((0 : Int), (((0 : Int), ((0 : Int), ((0 : Int), (0 : Int)))), (((0 : Int), ((0 : Int), ((0 : Int), (0 : Int)))), ((bs []), []))))))] [] (1 : Int) (0 : Int))) then
              bif (k_road_Ends [((1 : Int), (false, ((0 : Int), (((3 : Int), ((0 : Int), ((0 : Int), (0 : Int)))), (((2 : Int), ((0 : Int), ((0 : Int), (1 : Int)))), ((bs []), [])))))), ((1 : Int), (false, ((0 : Int), (((1 : Int), ((0 : Int), ((0 : Int), (0 : Int)))), (((3 : Int), ((0 : Int), ((0 : Int), (0 : Int)))), ((bs []), [])))))), ((14 : Int), (false, ((0 : Int), (((0 : Int), ((0 : Int), ((0 : Int), (0 : Int)))), (((0 : Int), ((0 : Int), ((0 : Int), (0 : Int)))), ((bs []), []))))))] [(2 : Int)] (0 : Int)) then
                bif (k_book_SameInts (v_road_Ends [((1 : Int), (false, ((0 : Int), (((3 : Int), ((0 : Int), ((0 : Int), (0 : Int)))), (((2 : Int), ((0 : Int), ((0 : Int), (1 : Int)))), ((bs []), [])))))), ((1 : Int), (false, ((0 : Int), (((1 : Int), ((0 : Int), ((0 : Int), (0 : Int)))), (((3 : Int), ((0 : Int), ((0 : Int), (0 : Int)))), ((bs []), [])))))), ((14 : Int), (false, ((0 : Int), (((0 : Int), ((0 : Int), ((0 : Int), (0 : Int)))), (((0 : Int), ((0 : Int), ((0 : Int), (0 : Int)))), ((bs []), []))))))] [(2 : Int)] (0 : Int)) [(1 : Int)]) then
                  true
                else false
              else false
            else true
          else false
        else true
      else false
    else true
  else false
theorem g_law21_alive (hk : k_law21_alive = true) : Goes (T_law21_alive) (T0_law21_alive) (v_law21_alive) :=
  Goes.brk hk (fun hk =>
    Goes.brk hk (fun hk =>
      Goes.brk hk (fun hk =>
        Goes.brk hk (fun hk =>
          Goes.brk hk (fun hk =>
            Goes.brk hk (fun hk =>
              Goes.brk hk (fun hk =>
                Goes.brk hk (fun hk =>
                  Goes.leaf) (fun hk =>
                  Goes.nok hk)) (fun hk =>
                Goes.nok hk)) (fun hk =>
              Goes.leaf)) (fun hk =>
            Goes.nok hk)) (fun hk =>
          Goes.leaf)) (fun hk =>
        Goes.nok hk)) (fun hk =>
      Goes.leaf)) (fun hk =>
    Goes.nok hk)
def R_law21_alive : Bool → AV := fun (r : Bool) => .d .bool r
def S_law21_alive : Empty → Nat × St := fun j => nomatch j
theorem en_law21_alive (L : Lt) : entryA Go.Proofs.Tryz.prog (clOf t_law21_alive) tb_law21_alive Go.Proofs.Tryz.f9 c_law21_alive L (toForms sg_law21_alive (())) = (T0_law21_alive).run (fun v => some (R_law21_alive v, tps (toForms sg_law21_alive (())))) fun j => L (S_law21_alive j).1 (S_law21_alive j).2 := by kernel_rfl
theorem lp_law21_alive : ∀ (L : Lt) (j : Empty), procOf (procsF Go.Proofs.Tryz.prog (clOf t_law21_alive) tb_law21_alive Go.Proofs.Tryz.f9 c_law21_alive (toForms sg_law21_alive (()))) (S_law21_alive j).1 L (S_law21_alive j).2 = (T_law21_alive j).run (fun v => some (R_law21_alive v, tps (toForms sg_law21_alive (())))) fun j => L (S_law21_alive j).1 (S_law21_alive j).2 := fun L j => nomatch j
noncomputable def e_law21_alive : Run := entG sg_law21_alive R_law21_alive (fun a => k_law21_alive) (fun a => v_law21_alive)
theorem ok_law21_alive : EntOK Go.Proofs.Tryz.prog 9 e_law21_alive := entG_ok (tb := tb_law21_alive) (c := c_law21_alive) tk_law21_alive (by kernel_rfl) (by kernel_rfl) (by kernel_rfl) (fun a => by kernel_rfl) fun _ hk => evF_goes (c := c_law21_alive) (K := fun v => (R_law21_alive v, tps (toForms sg_law21_alive (())))) (S := S_law21_alive) (by kernel_rfl) (en_law21_alive) (lp_law21_alive) (g_law21_alive hk)
theorem co_law21_alive (hk : k_law21_alive = true) : CallOK Go.Proofs.Tryz.prog 9 (toForms sg_law21_alive (())) (R_law21_alive (v_law21_alive), tps (toForms sg_law21_alive (()))) := by
  obtain ⟨h1, h2⟩ := clOf_ok tk_law21_alive
  obtain ⟨n, hn⟩ := evF_goes (c := c_law21_alive) (K := fun v => (R_law21_alive v, tps (toForms sg_law21_alive (())))) (S := S_law21_alive) (by kernel_rfl) (en_law21_alive) (lp_law21_alive) (g_law21_alive hk)
  exact evF_sound (f := 9) (c := c_law21_alive) h1 h2 (by kernel_rfl) (by kernel_rfl) (by kernel_rfl) hn
end
end Go.Ev
end

section
set_option linter.unusedSectionVars false
set_option linter.unusedVariables false
set_option linter.unusedSimpArgs false
set_option maxRecDepth 100000
set_option linter.unusedVariables false
open Go Go.Ev
namespace Go.Ev
noncomputable section
/-! ### paling/palinglaw21.RoadFences -/
def sg_law21_RoadFences : Sig := [(false, (.sl T_book_Act)), (false, (.int .i64)), (false, (.int .i64)), (false, (.int .i64))]
noncomputable def t_law21_RoadFences : Tbl := [(4, e_book_Prog), (5, e_book_Pick), (6, e_ref3_Weave), (7, e_road_Free), (8, e_ref3_There), (9, e_law21_alive)]
theorem tk_law21_RoadFences : ∀ p ∈ t_law21_RoadFences, EntOK Go.Proofs.Tryz.prog p.1 p.2 := tbl_cons ok_book_Prog (tbl_cons ok_book_Pick (tbl_cons ok_ref3_Weave (tbl_cons ok_road_Free (tbl_cons ok_ref3_There (tbl_cons ok_law21_alive (tbl_nil))))))
noncomputable def c_law21_RoadFences : Code := Go.Proofs.Tryz.f3.body.getD .skip
def tb_law21_RoadFences : Tb := []
def T_law21_RoadFences (l : List (El T_book_Act)) (at_ : Int) (s : Int) (e : Int) : Empty → JT Empty (Bool) := fun j => nomatch j
def T0_law21_RoadFences (l : List (El T_book_Act)) (at_ : Int) (s : Int) (e : Int) : JT Empty (Bool) :=
  .br (k_book_Prog [l] (1 : Int) (9 : Int))
    (.br (decide ((0 : Int) < (Int.ofNat (List.length (v_book_Prog [l] (1 : Int) (9 : Int)).2))))
      (.br (k_book_Pick at_ (Int.ofNat (List.length (List.getD (v_book_Prog [l] (1 : Int) (9 : Int)).2 0 (dflt (.sl T_api_Ins))))))
        (.br (k_book_Pick s (Int.ofNat (List.length (List.getD (v_book_Prog [l] (1 : Int) (9 : Int)).2 0 (dflt (.sl T_api_Ins))))))
          (.br (k_book_Pick e (Int.ofNat (List.length (List.getD (v_book_Prog [l] (1 : Int) (9 : Int)).2 0 (dflt (.sl T_api_Ins))))))
            (.br (k_ref3_Weave (v_book_Prog [l] (1 : Int) (9 : Int)) [[(v_book_Pick at_ (Int.ofNat (List.length (List.getD (v_book_Prog [l] (1 : Int) (9 : Int)).2 0 (dflt (.sl T_api_Ins))))))]])
              (.br (! (v_ref3_Weave (v_book_Prog [l] (1 : Int) (9 : Int)) [[(v_book_Pick at_ (Int.ofNat (List.length (List.getD (v_book_Prog [l] (1 : Int) (9 : Int)).2 0 (dflt (.sl T_api_Ins))))))]]).2)
                (.leaf false)
              (.br (k_road_Free (List.getD (v_book_Prog [l] (1 : Int) (9 : Int)).2 0 (dflt (.sl T_api_Ins))) [(v_book_Pick at_ (Int.ofNat (List.length (List.getD (v_book_Prog [l] (1 : Int) (9 : Int)).2 0 (dflt (.sl T_api_Ins))))))] (v_book_Pick s (Int.ofNat (List.length (List.getD (v_book_Prog [l] (1 : Int) (9 : Int)).2 0 (dflt (.sl T_api_Ins)))))) (v_book_Pick e (Int.ofNat (List.length (List.getD (v_book_Prog [l] (1 : Int) (9 : Int)).2 0 (dflt (.sl T_api_Ins)))))))
                (.br (decide ((0 : Int) < (Int.ofNat (List.length (v_ref3_Weave (v_book_Prog [l] (1 : Int) (9 : Int)) [[(v_book_Pick at_ (Int.ofNat (List.length (List.getD (v_book_Prog [l] (1 : Int) (9 : Int)).2 0 (dflt (.sl T_api_Ins))))))]]).1.2))))
                  (.br (k_ref3_There [(v_book_Pick at_ (Int.ofNat (List.length (List.getD (v_book_Prog [l] (1 : Int) (9 : Int)).2 0 (dflt (.sl T_api_Ins))))))] (v_book_Pick s (Int.ofNat (List.length (List.getD (v_book_Prog [l] (1 : Int) (9 : Int)).2 0 (dflt (.sl T_api_Ins)))))))
                    (.br (k_ref3_There [(v_book_Pick at_ (Int.ofNat (List.length (List.getD (v_book_Prog [l] (1 : Int) (9 : Int)).2 0 (dflt (.sl T_api_Ins))))))] (v_book_Pick e (Int.ofNat (List.length (List.getD (v_book_Prog [l] (1 : Int) (9 : Int)).2 0 (dflt (.sl T_api_Ins)))))))
                      (.br (k_road_Free (List.getD (v_ref3_Weave (v_book_Prog [l] (1 : Int) (9 : Int)) [[(v_book_Pick at_ (Int.ofNat (List.length (List.getD (v_book_Prog [l] (1 : Int) (9 : Int)).2 0 (dflt (.sl T_api_Ins))))))]]).1.2 0 (dflt (.sl T_api_Ins))) [] (v_ref3_There [(v_book_Pick at_ (Int.ofNat (List.length (List.getD (v_book_Prog [l] (1 : Int) (9 : Int)).2 0 (dflt (.sl T_api_Ins))))))] (v_book_Pick s (Int.ofNat (List.length (List.getD (v_book_Prog [l] (1 : Int) (9 : Int)).2 0 (dflt (.sl T_api_Ins))))))) (v_ref3_There [(v_book_Pick at_ (Int.ofNat (List.length (List.getD (v_book_Prog [l] (1 : Int) (9 : Int)).2 0 (dflt (.sl T_api_Ins))))))] (v_book_Pick e (Int.ofNat (List.length (List.getD (v_book_Prog [l] (1 : Int) (9 : Int)).2 0 (dflt (.sl T_api_Ins))))))))
                        (.br ((v_road_Free (List.getD (v_book_Prog [l] (1 : Int) (9 : Int)).2 0 (dflt (.sl T_api_Ins))) [(v_book_Pick at_ (Int.ofNat (List.length (List.getD (v_book_Prog [l] (1 : Int) (9 : Int)).2 0 (dflt (.sl T_api_Ins))))))] (v_book_Pick s (Int.ofNat (List.length (List.getD (v_book_Prog [l] (1 : Int) (9 : Int)).2 0 (dflt (.sl T_api_Ins)))))) (v_book_Pick e (Int.ofNat (List.length (List.getD (v_book_Prog [l] (1 : Int) (9 : Int)).2 0 (dflt (.sl T_api_Ins))))))) == (v_road_Free (List.getD (v_ref3_Weave (v_book_Prog [l] (1 : Int) (9 : Int)) [[(v_book_Pick at_ (Int.ofNat (List.length (List.getD (v_book_Prog [l] (1 : Int) (9 : Int)).2 0 (dflt (.sl T_api_Ins))))))]]).1.2 0 (dflt (.sl T_api_Ins))) [] (v_ref3_There [(v_book_Pick at_ (Int.ofNat (List.length (List.getD (v_book_Prog [l] (1 : Int) (9 : Int)).2 0 (dflt (.sl T_api_Ins))))))] (v_book_Pick s (Int.ofNat (List.length (List.getD (v_book_Prog [l] (1 : Int) (9 : Int)).2 0 (dflt (.sl T_api_Ins))))))) (v_ref3_There [(v_book_Pick at_ (Int.ofNat (List.length (List.getD (v_book_Prog [l] (1 : Int) (9 : Int)).2 0 (dflt (.sl T_api_Ins))))))] (v_book_Pick e (Int.ofNat (List.length (List.getD (v_book_Prog [l] (1 : Int) (9 : Int)).2 0 (dflt (.sl T_api_Ins)))))))))
                          (.br k_law21_alive
                            (.leaf v_law21_alive)
                          (.no))
                        (.leaf false))
                      (.no))
                    (.no))
                  (.no))
                (.no))
              (.no)))
            (.no))
          (.no))
        (.no))
      (.no))
    (.no))
  (.no)
def v_law21_RoadFences (l : List (El T_book_Act)) (at_ : Int) (s : Int) (e : Int) : Bool :=
  bif (k_book_Prog [l] (1 : Int) (9 : Int)) then
    bif (decide ((0 : Int) < (Int.ofNat (List.length (v_book_Prog [l] (1 : Int) (9 : Int)).2)))) then
      bif (k_book_Pick at_ (Int.ofNat (List.length (List.getD (v_book_Prog [l] (1 : Int) (9 : Int)).2 0 (dflt (.sl T_api_Ins)))))) then
        bif (k_book_Pick s (Int.ofNat (List.length (List.getD (v_book_Prog [l] (1 : Int) (9 : Int)).2 0 (dflt (.sl T_api_Ins)))))) then
          bif (k_book_Pick e (Int.ofNat (List.length (List.getD (v_book_Prog [l] (1 : Int) (9 : Int)).2 0 (dflt (.sl T_api_Ins)))))) then
            bif (k_ref3_Weave (v_book_Prog [l] (1 : Int) (9 : Int)) [[(v_book_Pick at_ (Int.ofNat (List.length (List.getD (v_book_Prog [l] (1 : Int) (9 : Int)).2 0 (dflt (.sl T_api_Ins))))))]]) then
              bif (! (v_ref3_Weave (v_book_Prog [l] (1 : Int) (9 : Int)) [[(v_book_Pick at_ (Int.ofNat (List.length (List.getD (v_book_Prog [l] (1 : Int) (9 : Int)).2 0 (dflt (.sl T_api_Ins))))))]]).2) then
                false
              else bif (k_road_Free (List.getD (v_book_Prog [l] (1 : Int) (9 : Int)).2 0 (dflt (.sl T_api_Ins))) [(v_book_Pick at_ (Int.ofNat (List.length (List.getD (v_book_Prog [l] (1 : Int) (9 : Int)).2 0 (dflt (.sl T_api_Ins))))))] (v_book_Pick s (Int.ofNat (List.length (List.getD (v_book_Prog [l] (1 : Int) (9 : Int)).2 0 (dflt (.sl T_api_Ins)))))) (v_book_Pick e (Int.ofNat (List.length (List.getD (v_book_Prog [l] (1 : Int) (9 : Int)).2 0 (dflt (.sl T_api_Ins))))))) then
                bif (decide ((0 : Int) < (Int.ofNat (List.length (v_ref3_Weave (v_book_Prog [l] (1 : Int) (9 : Int)) [[(v_book_Pick at_ (Int.ofNat (List.length (List.getD (v_book_Prog [l] (1 : Int) (9 : Int)).2 0 (dflt (.sl T_api_Ins))))))]]).1.2)))) then
                  bif (k_ref3_There [(v_book_Pick at_ (Int.ofNat (List.length (List.getD (v_book_Prog [l] (1 : Int) (9 : Int)).2 0 (dflt (.sl T_api_Ins))))))] (v_book_Pick s (Int.ofNat (List.length (List.getD (v_book_Prog [l] (1 : Int) (9 : Int)).2 0 (dflt (.sl T_api_Ins))))))) then
                    bif (k_ref3_There [(v_book_Pick at_ (Int.ofNat (List.length (List.getD (v_book_Prog [l] (1 : Int) (9 : Int)).2 0 (dflt (.sl T_api_Ins))))))] (v_book_Pick e (Int.ofNat (List.length (List.getD (v_book_Prog [l] (1 : Int) (9 : Int)).2 0 (dflt (.sl T_api_Ins))))))) then
                      bif (k_road_Free (List.getD (v_ref3_Weave (v_book_Prog [l] (1 : Int) (9 : Int)) [[(v_book_Pick at_ (Int.ofNat (List.length (List.getD (v_book_Prog [l] (1 : Int) (9 : Int)).2 0 (dflt (.sl T_api_Ins))))))]]).1.2 0 (dflt (.sl T_api_Ins))) [] (v_ref3_There [(v_book_Pick at_ (Int.ofNat (List.length (List.getD (v_book_Prog [l] (1 : Int) (9 : Int)).2 0 (dflt (.sl T_api_Ins))))))] (v_book_Pick s (Int.ofNat (List.length (List.getD (v_book_Prog [l] (1 : Int) (9 : Int)).2 0 (dflt (.sl T_api_Ins))))))) (v_ref3_There [(v_book_Pick at_ (Int.ofNat (List.length (List.getD (v_book_Prog [l] (1 : Int) (9 : Int)).2 0 (dflt (.sl T_api_Ins))))))] (v_book_Pick e (Int.ofNat (List.length (List.getD (v_book_Prog [l] (1 : Int) (9 : Int)).2 0 (dflt (.sl T_api_Ins)))))))) then
                        bif ((v_road_Free (List.getD (v_book_Prog [l] (1 : Int) (9 : Int)).2 0 (dflt (.sl T_api_Ins))) [(v_book_Pick at_ (Int.ofNat (List.length (List.getD (v_book_Prog [l] (1 : Int) (9 : Int)).2 0 (dflt (.sl T_api_Ins))))))] (v_book_Pick s (Int.ofNat (List.length (List.getD (v_book_Prog [l] (1 : Int) (9 : Int)).2 0 (dflt (.sl T_api_Ins)))))) (v_book_Pick e (Int.ofNat (List.length (List.getD (v_book_Prog [l] (1 : Int) (9 : Int)).2 0 (dflt (.sl T_api_Ins))))))) == (v_road_Free (List.getD (v_ref3_Weave (v_book_Prog [l] (1 : Int) (9 : Int)) [[(v_book_Pick at_ (Int.ofNat (List.length (List.getD (v_book_Prog [l] (1 : Int) (9 : Int)).2 0 (dflt (.sl T_api_Ins))))))]]).1.2 0 (dflt (.sl T_api_Ins))) [] (v_ref3_There [(v_book_Pick at_ (Int.ofNat (List.length (List.getD (v_book_Prog [l] (1 : Int) (9 : Int)).2 0 (dflt (.sl T_api_Ins))))))] (v_book_Pick s (Int.ofNat (List.length (List.getD (v_book_Prog [l] (1 : Int) (9 : Int)).2 0 (dflt (.sl T_api_Ins))))))) (v_ref3_There [(v_book_Pick at_ (Int.ofNat (List.length (List.getD (v_book_Prog [l] (1 : Int) (9 : Int)).2 0 (dflt (.sl T_api_Ins))))))] (v_book_Pick e (Int.ofNat (List.length (List.getD (v_book_Prog [l] (1 : Int) (9 : Int)).2 0 (dflt (.sl T_api_Ins))))))))) then
                          bif k_law21_alive then
                            v_law21_alive
                          else false
                        else false
                      else false
                    else false
                  else false
                else false
              else false
            else false
          else false
        else false
      else false
    else false
  else false
def k_law21_RoadFences (l : List (El T_book_Act)) (at_ : Int) (s : Int) (e : Int) : Bool :=
  bif (k_book_Prog [l] (1 : Int) (9 : Int)) then
    bif (decide ((0 : Int) < (Int.ofNat (List.length (v_book_Prog [l] (1 : Int) (9 : Int)).2)))) then
      bif (k_book_Pick at_ (Int.ofNat (List.length (List.getD (v_book_Prog [l] (1 : Int) (9 : Int)).2 0 (dflt (.sl T_api_Ins)))))) then
        bif (k_book_Pick s (Int.ofNat (List.length (List.getD (v_book_Prog [l] (1 : Int) (9 : Int)).2 0 (dflt (.sl T_api_Ins)))))) then
          bif (k_book_Pick e (Int.ofNat (List.length (List.getD (v_book_Prog [l] (1 : Int) (9 : Int)).2 0 (dflt (.sl T_api_Ins)))))) then
            bif (k_ref3_Weave (v_book_Prog [l] (1 : Int) (9 : Int)) [[(v_book_Pick at_ (Int.ofNat (List.length (List.getD (v_book_Prog [l] (1 : Int) (9 : Int)).2 0 (dflt (.sl T_api_Ins))))))]]) then
              bif (! (v_ref3_Weave (v_book_Prog [l] (1 : Int) (9 : Int)) [[(v_book_Pick at_ (Int.ofNat (List.length (List.getD (v_book_Prog [l] (1 : Int) (9 : Int)).2 0 (dflt (.sl T_api_Ins))))))]]).2) then
                true
              else bif (k_road_Free (List.getD (v_book_Prog [l] (1 : Int) (9 : Int)).2 0 (dflt (.sl T_api_Ins))) [(v_book_Pick at_ (Int.ofNat (List.length (List.getD (v_book_Prog [l] (1 : Int) (9 : Int)).2 0 (dflt (.sl T_api_Ins))))))] (v_book_Pick s (Int.ofNat (List.length (List.getD (v_book_Prog [l] (1 : Int) (9 : Int)).2 0 (dflt (.sl T_api_Ins)))))) (v_book_Pick e (Int.ofNat (List.length (List.getD (v_book_Prog [l] (1 : Int) (9 : Int)).2 0 (dflt (.sl T_api_Ins))))))) then
                bif (decide ((0 : Int) < (Int.ofNat (List.length (v_ref3_Weave (v_book_Prog [l] (1 : Int) (9 : Int)) [[(v_book_Pick at_ (Int.ofNat (List.length (List.getD (v_book_Prog [l] (1 : Int) (9 : Int)).2 0 (dflt (.sl T_api_Ins))))))]]).1.2)))) then
                  bif (k_ref3_There [(v_book_Pick at_ (Int.ofNat (List.length (List.getD (v_book_Prog [l] (1 : Int) (9 : Int)).2 0 (dflt (.sl T_api_Ins))))))] (v_book_Pick s (Int.ofNat (List.length (List.getD (v_book_Prog [l] (1 : Int) (9 : Int)).2 0 (dflt (.sl T_api_Ins))))))) then
                    bif (k_ref3_There [(v_book_Pick at_ (Int.ofNat (List.length (List.getD (v_book_Prog [l] (1 : Int) (9 : Int)).2 0 (dflt (.sl T_api_Ins))))))] (v_book_Pick e (Int.ofNat (List.length (List.getD (v_book_Prog [l] (1 : Int) (9 : Int)).2 0 (dflt (.sl T_api_Ins))))))) then
                      bif (k_road_Free (List.getD (v_ref3_Weave (v_book_Prog [l] (1 : Int) (9 : Int)) [[(v_book_Pick at_ (Int.ofNat (List.length (List.getD (v_book_Prog [l] (1 : Int) (9 : Int)).2 0 (dflt (.sl T_api_Ins))))))]]).1.2 0 (dflt (.sl T_api_Ins))) [] (v_ref3_There [(v_book_Pick at_ (Int.ofNat (List.length (List.getD (v_book_Prog [l] (1 : Int) (9 : Int)).2 0 (dflt (.sl T_api_Ins))))))] (v_book_Pick s (Int.ofNat (List.length (List.getD (v_book_Prog [l] (1 : Int) (9 : Int)).2 0 (dflt (.sl T_api_Ins))))))) (v_ref3_There [(v_book_Pick at_ (Int.ofNat (List.length (List.getD (v_book_Prog [l] (1 : Int) (9 : Int)).2 0 (dflt (.sl T_api_Ins))))))] (v_book_Pick e (Int.ofNat (List.length (List.getD (v_book_Prog [l] (1 : Int) (9 : Int)).2 0 (dflt (.sl T_api_Ins)))))))) then
                        bif ((v_road_Free (List.getD (v_book_Prog [l] (1 : Int) (9 : Int)).2 0 (dflt (.sl T_api_Ins))) [(v_book_Pick at_ (Int.ofNat (List.length (List.getD (v_book_Prog [l] (1 : Int) (9 : Int)).2 0 (dflt (.sl T_api_Ins))))))] (v_book_Pick s (Int.ofNat (List.length (List.getD (v_book_Prog [l] (1 : Int) (9 : Int)).2 0 (dflt (.sl T_api_Ins)))))) (v_book_Pick e (Int.ofNat (List.length (List.getD (v_book_Prog [l] (1 : Int) (9 : Int)).2 0 (dflt (.sl T_api_Ins))))))) == (v_road_Free (List.getD (v_ref3_Weave (v_book_Prog [l] (1 : Int) (9 : Int)) [[(v_book_Pick at_ (Int.ofNat (List.length (List.getD (v_book_Prog [l] (1 : Int) (9 : Int)).2 0 (dflt (.sl T_api_Ins))))))]]).1.2 0 (dflt (.sl T_api_Ins))) [] (v_ref3_There [(v_book_Pick at_ (Int.ofNat (List.length (List.getD (v_book_Prog [l] (1 : Int) (9 : Int)).2 0 (dflt (.sl T_api_Ins))))))] (v_book_Pick s (Int.ofNat (List.length (List.getD (v_book_Prog [l] (1 : Int) (9 : Int)).2 0 (dflt (.sl T_api_Ins))))))) (v_ref3_There [(v_book_Pick at_ (Int.ofNat (List.length (List.getD (v_book_Prog [l] (1 : Int) (9 : Int)).2 0 (dflt (.sl T_api_Ins))))))] (v_book_Pick e (Int.ofNat (List.length (List.getD (v_book_Prog [l] (1 : Int) (9 : Int)).2 0 (dflt (.sl T_api_Ins))))))))) then
                          bif k_law21_alive then
                            true
                          else false
                        else true
                      else false
                    else false
                  else false
                else false
              else false
            else false
          else false
        else false
      else false
    else false
  else false
theorem g_law21_RoadFences (l : List (El T_book_Act)) (at_ : Int) (s : Int) (e : Int) (hk : k_law21_RoadFences l at_ s e = true) : Goes (T_law21_RoadFences l at_ s e) (T0_law21_RoadFences l at_ s e) (v_law21_RoadFences l at_ s e) :=
  Goes.brk hk (fun hk =>
    Goes.brk hk (fun hk =>
      Goes.brk hk (fun hk =>
        Goes.brk hk (fun hk =>
          Goes.brk hk (fun hk =>
            Goes.brk hk (fun hk =>
              Goes.brk hk (fun hk =>
                Goes.leaf) (fun hk =>
                Goes.brk hk (fun hk =>
                  Goes.brk hk (fun hk =>
                    Goes.brk hk (fun hk =>
                      Goes.brk hk (fun hk =>
                        Goes.brk hk (fun hk =>
                          Goes.brk hk (fun hk =>
                            Goes.brk hk (fun hk =>
                              Goes.leaf) (fun hk =>
                              Goes.nok hk)) (fun hk =>
                            Goes.leaf)) (fun hk =>
                          Goes.nok hk)) (fun hk =>
                        Goes.nok hk)) (fun hk =>
                      Goes.nok hk)) (fun hk =>
                    Goes.nok hk)) (fun hk =>
                  Goes.nok hk))) (fun hk =>
              Goes.nok hk)) (fun hk =>
            Goes.nok hk)) (fun hk =>
          Goes.nok hk)) (fun hk =>
        Goes.nok hk)) (fun hk =>
      Goes.nok hk)) (fun hk =>
    Goes.nok hk)
def R_law21_RoadFences : Bool → AV := fun (r : Bool) => .d .bool r
def S_law21_RoadFences (l : List (El T_book_Act)) (at_ : Int) (s : Int) (e : Int) : Empty → Nat × St := fun j => nomatch j
theorem en_law21_RoadFences (l : List (El T_book_Act)) (at_ : Int) (s : Int) (e : Int) (L : Lt) : entryA Go.Proofs.Tryz.prog (clOf t_law21_RoadFences) tb_law21_RoadFences Go.Proofs.Tryz.f3 c_law21_RoadFences L (toForms sg_law21_RoadFences (l, at_, s, e, ())) = (T0_law21_RoadFences l at_ s e).run (fun v => some (R_law21_RoadFences v, tps (toForms sg_law21_RoadFences (l, at_, s, e, ())))) fun j => L (S_law21_RoadFences l at_ s e j).1 (S_law21_RoadFences l at_ s e j).2 := by kernel_rfl
theorem lp_law21_RoadFences (l : List (El T_book_Act)) (at_ : Int) (s : Int) (e : Int) : ∀ (L : Lt) (j : Empty), procOf (procsF Go.Proofs.Tryz.prog (clOf t_law21_RoadFences) tb_law21_RoadFences Go.Proofs.Tryz.f3 c_law21_RoadFences (toForms sg_law21_RoadFences (l, at_, s, e, ()))) (S_law21_RoadFences l at_ s e j).1 L (S_law21_RoadFences l at_ s e j).2 = (T_law21_RoadFences l at_ s e j).run (fun v => some (R_law21_RoadFences v, tps (toForms sg_law21_RoadFences (l, at_, s, e, ())))) fun j => L (S_law21_RoadFences l at_ s e j).1 (S_law21_RoadFences l at_ s e j).2 := fun L j => nomatch j
noncomputable def e_law21_RoadFences : Run := entG sg_law21_RoadFences R_law21_RoadFences (fun a => k_law21_RoadFences a.1 a.2.1 a.2.2.1 a.2.2.2.1) (fun a => v_law21_RoadFences a.1 a.2.1 a.2.2.1 a.2.2.2.1)
theorem ok_law21_RoadFences : EntOK Go.Proofs.Tryz.prog 3 e_law21_RoadFences := entG_ok (tb := tb_law21_RoadFences) (c := c_law21_RoadFences) tk_law21_RoadFences (by kernel_rfl) (by kernel_rfl) (by kernel_rfl) (fun a => by kernel_rfl) fun ⟨l, at_, s, e, _⟩ hk => evF_goes (c := c_law21_RoadFences) (K := fun v => (R_law21_RoadFences v, tps (toForms sg_law21_RoadFences (l, at_, s, e, ())))) (S := S_law21_RoadFences l at_ s e) (by kernel_rfl) (en_law21_RoadFences l at_ s e) (lp_law21_RoadFences l at_ s e) (g_law21_RoadFences l at_ s e hk)
theorem co_law21_RoadFences (l : List (El T_book_Act)) (at_ : Int) (s : Int) (e : Int) (hk : k_law21_RoadFences l at_ s e = true) : CallOK Go.Proofs.Tryz.prog 3 (toForms sg_law21_RoadFences (l, at_, s, e, ())) (R_law21_RoadFences (v_law21_RoadFences l at_ s e), tps (toForms sg_law21_RoadFences (l, at_, s, e, ()))) := by
  obtain ⟨h1, h2⟩ := clOf_ok tk_law21_RoadFences
  obtain ⟨n, hn⟩ := evF_goes (c := c_law21_RoadFences) (K := fun v => (R_law21_RoadFences v, tps (toForms sg_law21_RoadFences (l, at_, s, e, ())))) (S := S_law21_RoadFences l at_ s e) (by kernel_rfl) (en_law21_RoadFences l at_ s e) (lp_law21_RoadFences l at_ s e) (g_law21_RoadFences l at_ s e hk)
  exact evF_sound (f := 3) (c := c_law21_RoadFences) h1 h2 (by kernel_rfl) (by kernel_rfl) (by kernel_rfl) hn
end
end Go.Ev
end

section
set_option linter.unusedSectionVars false
set_option linter.unusedVariables false
set_option linter.unusedSimpArgs false
/- The programs that the book makes may be. -/
set_option maxRecDepth 100000
set_option linter.unusedVariables false
set_option linter.unusedSimpArgs false
namespace Go.Ev
open Go
theorem setL_right (i : El T_api_Ins) (ls : List ByteArray) : v_ins_Right (setL i ls) = v_ins_Right i := rfl
theorem setL_to (i : El T_api_Ins) (ls : List ByteArray) : (setL i ls).2.2.2.2.2.1 = i.2.2.2.2.2.1 := rfl
theorem place_book {th : List (List (El T_api_Ins))} {k r s n : Int} (h : k = 3 ∨ k = 4 → placeOK k s n = true) : placeC (symsB, th) (k, (r, (s, n))) = 0 := by
  show placeN 3 _ k s n = 0
  unfold placeN
  by_cases hk : k = 3 ∨ k = 4
  · rw [if_pos hk]
    have := h hk
    unfold placeOK at this
    simp only [Bool.and_eq_true, decide_eq_true_eq, Bool.or_eq_true, beq_iff_eq] at this
    obtain ⟨h0, h3, hn⟩ := this
    rw [if_neg (by omega)]
    have hs : s = 0 ∨ s = 1 ∨ s = 2 := by omega
    rcases hs with rfl | rfl | rfl
    · rw [if_neg]
      rintro ⟨h1, h2⟩
      have h2 : (1 : Int) ≤ n := h2
      rcases hn with hn | hn
      · omega
      · have hn : n < (1 : Int) := hn
        omega
    · rw [if_neg]
      rintro ⟨h1, h2⟩
      have h2 : (2 : Int) ≤ n := h2
      rcases hn with hn | hn
      · omega
      · have hn : n < (2 : Int) := hn
        omega
    · rw [if_neg]
      rintro ⟨h1, h2⟩
      have h2 : (1 : Int) ≤ n := h2
      rcases hn with hn | hn
      · omega
      · have hn : n < (1 : Int) := hn
        omega
  · rw [if_neg hk]
theorem insC_book {th : List (List (El T_api_Ins))} {many : Int} {i : El T_api_Ins} (h : BookOK many i) (ls : List ByteArray) : insC (symsB, th) (setL i ls) = 0 := by
  have hA : placeC (symsB, th) i.2.2.2.1 = 0 := place_book (k := i.2.2.2.1.1) (r := i.2.2.2.1.2.1) (s := i.2.2.2.1.2.2.1) (n := i.2.2.2.1.2.2.2) h.placeA
  have hB : placeC (symsB, th) i.2.2.2.2.1 = 0 := place_book (k := i.2.2.2.2.1.1) (r := i.2.2.2.2.1.2.1) (s := i.2.2.2.2.1.2.2.1) (n := i.2.2.2.2.1.2.2.2) h.placeB
  unfold insC
  rw [setL_right, h.right]
  show (if (0 : Int) ≠ 0 then _ else if placeC (symsB, th) i.2.2.2.1 ≠ 0 then _ else placeC (symsB, th) i.2.2.2.2.1) = 0
  rw [hA, hB]
  rfl
theorem scanI_lab {p : El T_api_Prog} {K : List ByteArray → Int} : ∀ (x : List (El T_api_Ins)) (k : Nat) (seen : List ByteArray),
    (∀ (j : Nat) (i : El T_api_Ins), x[j]? = some i → (i.2.2.2.2.2.2 = [] ∨ i.2.2.2.2.2.2 = [v_book_label ((k + j : Nat) : Int)]) ∧ insC p i = 0) → (∀ l ∈ seen, ∃ k', k' < k ∧ l = v_book_label (k' : Int)) → k + x.length ≤ 100 → scanI p K seen x = K (seen ++ labels x)
  | [], k, seen, _, _, _ => by simp [scanI, labels]
  | i :: r, k, seen, h, hs, hk => by
    obtain ⟨hl, hi⟩ := h 0 i rfl
    rw [List.length_cons] at hk
    have hr := fun seen' hs' => scanI_lab (K := K) r (k + 1) seen' (fun j y hy => by
      have := h (j + 1) y (by simpa using hy)
      rwa [show k + (j + 1) = k + 1 + j by omega] at this) hs' (by omega)
    unfold scanI
    rcases hl with hl | hl
    · rw [hl]
      unfold scanL
      rw [hi]
      simp only [ne_eq, not_true_eq_false, if_false]
      rw [hr seen fun l hl => by obtain ⟨k', h1, h2⟩ := hs l hl; exact ⟨k', by omega, h2⟩]
      unfold labels
      rw [List.flatMap_cons, hl, List.nil_append]
    · rw [hl, Nat.add_zero]
      unfold scanL
      rw [if_neg (by rw [(label_right (k := (k : Int)) (by omega) (by omega)).1]; decide)]
      have hns : seen.contains (v_book_label (k : Int)) = false := by
        rw [Bool.eq_false_iff]
        intro hc
        rw [List.contains_iff_mem] at hc
        obtain ⟨k', h1, h2⟩ := hs _ hc
        have := label_inj (by omega) (by omega) h2
        omega
      rw [if_neg (by rw [hns]; decide)]
      unfold scanL
      rw [hi]
      simp only [ne_eq, not_true_eq_false, if_false]
      rw [hr _ fun l hl => by
        rcases List.mem_append.1 hl with hl | hl
        · obtain ⟨k', h1, h2⟩ := hs l hl; exact ⟨k', by omega, h2⟩
        · rw [List.mem_singleton] at hl; exact ⟨k, by omega, hl⟩]
      unfold labels
      rw [List.flatMap_cons, hl, Nat.add_zero, List.append_assoc]
theorem jumpC_lab {seen : List ByteArray} : ∀ {x : List (El T_api_Ins)}, (∀ i ∈ x, ((i.1 == (10 : Int)) || (i.1 == (11 : Int))) = true → seen.contains i.2.2.2.2.2.1 = true) → jumpC seen x = 0
  | [], _ => rfl
  | i :: r, h => by
    unfold jumpC
    have ih := jumpC_lab fun j hj => h j (List.mem_cons_of_mem _ hj)
    by_cases hj : ((i.1 == (10 : Int)) || (i.1 == (11 : Int))) = true
    · rw [if_pos hj, if_pos (h i (List.mem_cons_self ..) hj)]; exact ih
    · rw [if_neg hj]; exact ih
/-- What stands in a thread of the book. -/
theorem threadB_get {a : List (El T_book_Act)} {n : Nat} (hn : n ≤ 90) (ha : n ≤ a.length) {k : Nat} {i : El T_api_Ins} (h : (threadB a n)[k]? = some i) :
    (k < n ∧ ∃ x, (baseT a n)[k]? = some x ∧ BookOK ((n + 1 : Nat) : Int) x ∧ i = setL x (if sAt (baseT a n) n k then [v_book_label (k : Int)] else [])) ∨ (k = n ∧ i = setL (bare 14) (if sAt (baseT a n) n k then [v_book_label (k : Int)] else [])) := by
  have hl := baseT_len a n ha
  obtain ⟨hk, he⟩ := List.getElem?_eq_some_iff.1 h
  unfold threadB at hk he
  rw [withL_get hk] at he
  rw [withL_len, hl] at hk
  by_cases hkn : k < n
  · obtain ⟨x, h1, h2⟩ := baseT_book hn hkn ha
    obtain ⟨h3, h4⟩ := List.getElem?_eq_some_iff.1 h1
    rw [h4] at he
    exact .inl ⟨hkn, _, h1, h2, he.symm⟩
  · have hkn : k = n := by omega
    subst hkn
    have : (baseT a k)[k]'(by omega) = bare 14 := by
      unfold baseT
      rw [List.getElem_append_right (by simp; omega)]
      simp
    rw [this] at he
    exact .inr ⟨rfl, he.symm⟩
theorem bare14_book (many : Int) (ls : List ByteArray) {th : List (List (El T_api_Ins))} : insC (symsB, th) (setL (bare 14) ls) = 0 := by
  unfold insC
  rw [setL_right, bare_right (.inr (.inr rfl))]
  rfl
theorem labels_get {x : List (El T_api_Ins)} {k : Nat} {i : El T_api_Ins} {l : ByteArray} (h : x[k]? = some i) (hl : l ∈ i.2.2.2.2.2.2) : (labels x).contains l = true := by
  rw [List.contains_iff_mem]
  unfold labels
  exact List.mem_flatMap.2 ⟨i, List.mem_of_getElem? h, hl⟩
theorem threadC_book {a : List (El T_book_Act)} {n : Nat} (hn : n ≤ 90) (ha : n ≤ a.length) {th : List (List (El T_api_Ins))} : threadC (symsB, th) (threadB a n) = 0 := by
  have hlen : (threadB a n).length = n + 1 := by unfold threadB; rw [withL_len, baseT_len a n ha]
  unfold threadC
  have hc := countM_le (threadB a n)
  rw [if_neg (by omega), scanI_lab (threadB a n) 0 [] (fun j i h => by
    rw [Nat.zero_add]
    rcases threadB_get hn ha h with ⟨_, x, _, hx, rfl⟩ | ⟨_, rfl⟩
    · refine ⟨?_, insC_book hx _⟩
      show (if _ then [v_book_label (j : Int)] else []) = [] ∨ (if _ then [v_book_label (j : Int)] else []) = [v_book_label (j : Int)]
      split
      · exact .inr rfl
      · exact .inl rfl
    · refine ⟨?_, bare14_book 0 _⟩
      show (if _ then [v_book_label (j : Int)] else []) = [] ∨ (if _ then [v_book_label (j : Int)] else []) = [v_book_label (j : Int)]
      split
      · exact .inr rfl
      · exact .inl rfl) (fun l hl => by cases hl) (by omega)]
  rw [List.nil_append, endC_eq (by omega)]
  have hlast : (threadB a n)[(threadB a n).length - 1]? = some ((threadB a n)[(threadB a n).length - 1]'(by omega)) := List.getElem?_eq_getElem (by omega)
  have h14 : (((threadB a n)[(threadB a n).length - 1]'(by omega)).1 == (10 : Int) || ((threadB a n)[(threadB a n).length - 1]'(by omega)).1 == (14 : Int)) = true := by
    rcases threadB_get hn ha hlast with ⟨h1, _⟩ | ⟨_, h2⟩
    · omega
    · rw [h2]; rfl
  rw [if_pos h14]
  refine jumpC_lab fun i hi hj => ?_
  obtain ⟨k, hk⟩ := List.getElem?_of_mem hi
  rcases threadB_get hn ha hk with ⟨hkn, x, hx, hb, rfl⟩ | ⟨_, rfl⟩
  · rw [setL_to]
    rcases hb.to with ⟨h1, h2, _⟩ | ⟨_, m, m0, m1, e⟩
    · exfalso
      have hj : ((x.1 == (10 : Int)) || (x.1 == (11 : Int))) = true := hj
      simp only [Bool.or_eq_true, beq_iff_eq] at hj
      rcases hj with hj | hj
      · exact h1 hj
      · exact h2 hj
    · rw [e]
      obtain ⟨q, rfl⟩ : ∃ q : Nat, m = (q : Int) := ⟨m.toNat, by omega⟩
      have hqn : q < n + 1 := by omega
      have hq : (threadB a n)[q]? = some ((threadB a n)[q]'(by omega)) := List.getElem?_eq_getElem (by omega)
      have hs : sAt (baseT a n) n q = true := by
        unfold sAt
        rw [List.any_eq_true]
        exact ⟨x, List.mem_of_getElem? (i := k) (by rw [List.getElem?_take, if_pos hkn]; exact hx), decide_eq_true e⟩
      refine labels_get hq ?_
      rcases threadB_get hn ha hq with ⟨_, y, _, _, h2⟩ | ⟨_, h2⟩
      · rw [h2, hs]; exact List.mem_singleton.2 rfl
      · rw [h2, hs]; exact List.mem_singleton.2 rfl
  · cases hj
theorem small_book {a : List (El T_book_Act)} {n : Nat} (hn : n ≤ 90) (ha : n ≤ a.length) : smallThread (threadB a n) = true := by
  have hlen : (threadB a n).length = n + 1 := by unfold threadB; rw [withL_len, baseT_len a n ha]
  have hlab : ∀ i ∈ threadB a n, smallText i.2.2.2.2.2.1 = true ∧ i.2.2.2.2.2.2.length ≤ 1 ∧ ∀ l ∈ i.2.2.2.2.2.2, smallText l = true := fun i hi => by
    obtain ⟨k, hk⟩ := List.getElem?_of_mem hi
    have hkl := (List.getElem?_eq_some_iff.1 hk).1
    have hls : ∀ b : Bool, (if b = true then [v_book_label (k : Int)] else []).length ≤ 1 ∧ ∀ l ∈ (if b = true then [v_book_label (k : Int)] else []), smallText l = true := fun b => by
      cases b with
      | false => exact ⟨by simp, fun l hl => by simp at hl⟩
      | true => exact ⟨by simp, fun l hl => by
          rw [if_pos rfl, List.mem_singleton] at hl
          rw [hl]; exact (label_right (by omega) (by omega)).2⟩
    rcases threadB_get hn ha hk with ⟨hkn, x, hx, hb, rfl⟩ | ⟨_, rfl⟩
    · exact ⟨hb.small (by omega), hls _⟩
    · exact ⟨(by decide : smallText (bs []) = true), hls _⟩
  have := labels_le (t := threadB a n) (n := 1) fun i hi => (hlab i hi).2.1
  unfold smallThread
  simp only [Bool.and_eq_true, decide_eq_true_eq, List.all_eq_true]
  exact ⟨by omega, by omega, fun i hi => ⟨(hlab i hi).1, (hlab i hi).2.2⟩⟩
theorem symsC_book (K : Int) : symsC K [] symsB = K := by kernel_rfl
theorem thsC_zero {p : El T_api_Prog} : ∀ {th : List (List (El T_api_Ins))}, (∀ t ∈ th, threadC p t = 0) → thsC p th = 0
  | [], _ => rfl
  | t :: r, h => by
    unfold thsC
    rw [h t (List.mem_cons_self ..)]
    simp only [ne_eq, not_true_eq_false, if_false]
    exact thsC_zero fun x hx => h x (List.mem_cons_of_mem _ hx)
theorem book_valid (l : List (List (El T_book_Act))) {threads many : Int} (h0 : 0 ≤ threads) (h1 : threads ≤ 64) (m0 : 0 ≤ many) (m1 : many ≤ 90) : checkC (v_book_Prog l threads many) = 0 ∧ smallProg (v_book_Prog l threads many) = true ∧ k_book_Prog l threads many = true := by
  refine ⟨?_, ?_, ?_⟩
  · unfold checkC v_book_Prog
    show (if 64 < symsB.length ∨ 64 < ((l.take threads.toNat).map fun a => threadB a (min a.length many.toNat)).length then (10 : Int) else symsC (thsC _ ((l.take threads.toNat).map fun a => threadB a (min a.length many.toNat))) [] symsB) = 0
    rw [if_neg, symsC_book]
    · exact thsC_zero fun t ht => by
        obtain ⟨a, _, rfl⟩ := List.mem_map.1 ht
        exact threadC_book (by omega) (by omega)
    · rw [List.length_map, List.length_take]
      have : symsB.length = 3 := rfl
      omega
  · unfold smallProg v_book_Prog
    simp only [Bool.and_eq_true, List.all_eq_true]
    refine ⟨?_, fun t ht => ?_⟩
    · have : symsB.all (fun s => smallText s.1) = true := by decide +kernel
      rw [List.all_eq_true] at this
      exact this
    · obtain ⟨a, _, rfl⟩ := List.mem_map.1 ht
      exact small_book (by omega) (by omega)
  · unfold k_book_Prog
    simp only [Bool.and_eq_true, decide_eq_true_eq]
    omega
end Go.Ev
end

section
set_option linter.unusedSectionVars false
set_option linter.unusedVariables false
set_option linter.unusedSimpArgs false
/- The one thread that the book makes. -/
set_option maxRecDepth 100000
set_option linter.unusedVariables false
set_option linter.unusedSimpArgs false
open Go
namespace Go.Ev
theorem small_flow' {t : List (El T_api_Ins)} (h : smallThread t = true) : flowOK t = true := by
  unfold smallThread at h
  simp only [Bool.and_eq_true, List.all_eq_true, decide_eq_true_eq] at h
  unfold flowOK
  simp only [Bool.and_eq_true, List.all_eq_true, decide_eq_true_eq]
  refine ⟨h.1, fun i hi => ⟨(h.2.2 i hi).1, ?_⟩⟩
  have := labels_mem hi
  omega
theorem book_one (l : List (El T_book_Act)) {many : Int} (m0 : 0 ≤ many) (m1 : many ≤ 90) : ∃ t : List (El T_api_Ins), (v_book_Prog [l] (1 : Int) many).2 = [t] ∧ 1 ≤ t.length ∧ (t.length : Int) ≤ many + 1 ∧ smallThread t = true ∧ flowOK t = true ∧ k_book_Prog [l] (1 : Int) many = true := by
  obtain ⟨_, hs, hk⟩ := book_valid [l] (threads := 1) (many := many) (by omega) (by omega) m0 m1
  have e : (v_book_Prog [l] (1 : Int) many).2 = [threadB l (min l.length many.toNat)] := rfl
  have hl : (threadB l (min l.length many.toNat)).length = min l.length many.toNat + 1 := by unfold threadB; rw [withL_len, baseT_len l _ (Nat.min_le_left _ _)]
  have hsm : smallThread (threadB l (min l.length many.toNat)) = true := by
    unfold smallProg at hs
    rw [Bool.and_eq_true, e] at hs
    exact List.all_eq_true.1 hs.2 _ (by simp)
  exact ⟨_, e, by omega, by omega, hsm, small_flow' hsm, hk⟩
end Go.Ev
end

section
set_option linter.unusedSectionVars false
set_option linter.unusedVariables false
set_option linter.unusedSimpArgs false
/- Free ways: the program's own answers. -/
set_option maxRecDepth 100000
set_option linter.unusedVariables false
set_option linter.unusedSimpArgs false
open Go
namespace Go.Ev
theorem listOf_le {n : Nat} {M : Nat → Bool} : (listOf n M).length ≤ n := by rw [listOf_length]; exact card_le
theorem listOf_contains {n : Nat} {M : Nat → Bool} {x : Int} : (listOf n M).contains x = (decide (0 ≤ x ∧ x < (n : Int)) && M x.toNat) := by
  rw [Bool.eq_iff_iff, List.contains_iff_mem, listOf_mem]
  simp only [Bool.and_eq_true, decide_eq_true_eq]
  constructor
  · rintro ⟨i, h1, h2, rfl⟩; exact ⟨by omega, by rw [Int.toNat_natCast]; exact h2⟩
  · rintro ⟨h1, h2⟩; exact ⟨x.toNat, by omega, h2, by omega⟩
theorem same_self {l : List Int} (h : l.length < 1099511627776) : k_book_SameInts l l = true ∧ v_book_SameInts l l = true := ⟨decide_eq_true (by omega), decide_eq_true rfl⟩
theorem ends_road {t : List (El T_api_Ins)} {points : List Int} (h : flowOK t = true) (hp : points.length < 4611686018427387904) (s : Int) :
    k_road_Ends t points s = true ∧ k_book_SameInts (v_road_Ends t points s) (v_road_Ends t points s) = true ∧ v_book_SameInts (v_road_Ends t points s) (v_road_Ends t points s) = true := by
  have k1 : k_road_Ends t points s = true := by unfold k_road_Ends; rw [h, decide_eq_true hp]; rfl
  have hl := flowOK_len h
  exact ⟨k1, same_self (by unfold v_road_Ends; have := @listOf_le t.length (endsB t points s); omega)⟩
theorem free_road {t : List (El T_api_Ins)} {points : List Int} (h : flowOK t = true) (hp : points.length < 4611686018427387904) (s l : Int) :
    k_road_Free t points s l = true ∧ v_road_Free t points s l = (decide (0 ≤ l ∧ l < (t.length : Int)) && endsB t points s l.toNat) := by
  obtain ⟨k1, _⟩ := ends_road h hp s
  have hl := flowOK_len h
  have ki : k_slices_Index___int_int_ (v_road_Ends t points s) l = true := decide_eq_true (by unfold v_road_Ends; have := @listOf_le t.length (endsB t points s); omega)
  have vr : v_road_Free t points s l = (decide (0 ≤ l ∧ l < (t.length : Int)) && endsB t points s l.toNat) := by
    unfold v_road_Free k_slices_Contains___int_int_ v_slices_Contains___int_int_
    rw [k1, ki]
    simp only [cond_true]
    unfold v_slices_Index___int_int_
    rw [indexI_ge]
    unfold v_road_Ends
    exact listOf_contains
  refine ⟨?_, vr⟩
  unfold k_road_Free k_slices_Contains___int_int_; rw [k1, ki]; rfl
end Go.Ev
end

section
set_option linter.unusedSectionVars false
set_option linter.unusedVariables false
set_option linter.unusedSimpArgs false
/- The first call's text of law21_alive. -/
set_option maxRecDepth 100000
open Go
namespace Go.Ev
noncomputable section
def lit_law21_alive : List (El T_api_Ins) := [((1 : Int), (false, ((0 : Int), (((3 : Int), ((0 : Int), ((0 : Int), (0 : Int)))), (((2 : Int), ((0 : Int), ((0 : Int), (1 : Int)))), ((bs []), [])))))), ((1 : Int), (false, ((0 : Int), (((1 : Int), ((0 : Int), ((0 : Int), (0 : Int)))), (((3 : Int), ((0 : Int), ((0 : Int), (0 : Int)))), ((bs []), [])))))), ((14 : Int), (false, ((0 : Int), (((0 : Int), ((0 : Int), ((0 : Int), (0 : Int)))), (((0 : Int), ((0 : Int), ((0 : Int), (0 : Int)))), ((bs []), []))))))]
def ka_law21_alive (t : List (El T_api_Ins)) : Bool :=
  bif (k_road_Free t [] (0 : Int) (1 : Int)) then
    bif (v_road_Free t [] (0 : Int) (1 : Int)) then
      bif (k_road_Free t [(1 : Int)] (0 : Int) (1 : Int)) then
        bif (! (v_road_Free t [(1 : Int)] (0 : Int) (1 : Int))) then
          bif (k_road_Free t [] (1 : Int) (0 : Int)) then
            bif (! (v_road_Free t [] (1 : Int) (0 : Int))) then
              bif (k_road_Ends t [(2 : Int)] (0 : Int)) then
                bif (k_book_SameInts (v_road_Ends t [(2 : Int)] (0 : Int)) [(1 : Int)]) then
                  true
                else false
              else false
            else true
          else false
        else true
      else false
    else true
  else false
def va_law21_alive (t : List (El T_api_Ins)) : Bool :=
  bif (k_road_Free t [] (0 : Int) (1 : Int)) then
    bif (v_road_Free t [] (0 : Int) (1 : Int)) then
      bif (k_road_Free t [(1 : Int)] (0 : Int) (1 : Int)) then
        bif (! (v_road_Free t [(1 : Int)] (0 : Int) (1 : Int))) then
          bif (k_road_Free t [] (1 : Int) (0 : Int)) then
            bif (! (v_road_Free t [] (1 : Int) (0 : Int))) then
              bif (k_road_Ends t [(2 : Int)] (0 : Int)) then
                bif (k_book_SameInts (v_road_Ends t [(2 : Int)] (0 : Int)) [(1 : Int)]) then
                  (v_book_SameInts (v_road_Ends t [(2 : Int)] (0 : Int)) [(1 : Int)])
                else false
              else false
            else false
          else false
        else false
      else false
    else false
  else false
theorem ka_law21_alive_eq : k_law21_alive = ka_law21_alive lit_law21_alive := rfl
theorem va_law21_alive_eq : v_law21_alive = va_law21_alive lit_law21_alive := rfl
end
end Go.Ev
end

section
set_option linter.unusedSectionVars false
set_option linter.unusedVariables false
set_option linter.unusedSimpArgs false
/- Chapter 21's first calls. -/
set_option maxRecDepth 100000
set_option linter.unusedVariables false
set_option linter.unusedSimpArgs false
open Go
namespace Go.Ev
theorem alive21 : k_law21_alive = true ∧ v_law21_alive = true := by
  rw [ka_law21_alive_eq, va_law21_alive_eq]
  have hk : flowOK lit_law21_alive = true := by decide +kernel
  have hl3 : lit_law21_alive.length = 3 := rfl
  have nx : ∀ i, i < 3 → ∀ j, j < 3 → nextB lit_law21_alive ((i : Nat) : Int) j = decide (j = i + 1) := by decide +kernel
  have hlt : ∀ (k j : Nat), nextB lit_law21_alive (k : Int) j = true → j < 3 ∧ k < 3 := fun k j h => by
    refine ⟨nextB_lt h, ?_⟩
    unfold nextB at h
    rw [Bool.and_eq_true] at h
    have := (of_decide_eq_true h.1).2.1
    rw [hl3] at this
    omega
  have nx1 : ∀ (k j : Nat), nextB lit_law21_alive (k : Int) j = true → j = k + 1 ∧ j < 3 := fun k j h => by
    obtain ⟨h1, h2⟩ := hlt k j h
    rw [nx k h2 j h1] at h
    exact ⟨of_decide_eq_true h, h1⟩
  have first : ∀ {points : List Int} {s j : Nat}, firstB lit_law21_alive points (s : Int) j = true → j = s + 1 ∧ j < 3 ∧ points.contains (j : Int) = false := fun {points s j} h => by
    unfold firstB at h
    rw [Bool.and_eq_true] at h
    obtain ⟨h1, h2⟩ := nx1 s j h.1
    exact ⟨h1, h2, by simpa using h.2⟩
  have step : ∀ {points : List Int} {k j : Nat}, stepB lit_law21_alive points k j = true → j = k + 1 ∧ j < 3 ∧ points.contains (j : Int) = false := fun {points k j} h => by
    unfold stepB at h
    rw [Bool.and_eq_true, Bool.and_eq_true] at h
    obtain ⟨h1, h2⟩ := nx1 k j h.2.1
    exact ⟨h1, h2, by simpa using h.2.2⟩
  have e1 : endsB lit_law21_alive [] ((0 : Nat) : Int) 1 = true := comeB_iff.2 (.start (by decide +kernel))
  have e2 : ∀ j, endsB lit_law21_alive [1] ((0 : Nat) : Int) j = false := fun j => by
    refine (comeB_eq (M := fun _ => false) (fun j hj => ?_) (fun k j hk => by cases hk) (fun j hj => by cases hj) j).symm
    obtain ⟨h1, _, h3⟩ := first hj
    subst h1
    exact absurd h3 (by decide)
  have e3 : endsB lit_law21_alive [] ((1 : Nat) : Int) 0 = false := by
    have := (comeB_eq (N := stepB lit_law21_alive []) (A := firstB lit_law21_alive [] ((1 : Nat) : Int)) (M := fun j => decide (j = 2)) (fun j hj => ?_) (fun k j hk hj => ?_) (fun j hj => ?_) 0).symm
    · exact this
    · obtain ⟨h1, _⟩ := first hj; exact decide_eq_true (by omega)
    · obtain ⟨h1, h2, _⟩ := step hj
      have := of_decide_eq_true hk
      omega
    · have := of_decide_eq_true hj
      subst this
      exact .start (by decide +kernel)
  have e4 : ∀ j, endsB lit_law21_alive [2] ((0 : Nat) : Int) j = decide (j = 1) := fun j => by
    refine (comeB_eq (M := fun j => decide (j = 1)) (fun j hj => ?_) (fun k j hk hj => ?_) (fun j hj => ?_) j).symm
    · obtain ⟨h1, _⟩ := first hj; exact decide_eq_true (by omega)
    · obtain ⟨h1, h2, h3⟩ := step hj
      have := of_decide_eq_true hk
      subst this
      subst h1
      exact absurd h3 (by decide)
    · have := of_decide_eq_true hj
      subst this
      exact .start (by decide +kernel)
  obtain ⟨a1, a2⟩ := free_road (points := []) hk (by simp) 0 1
  obtain ⟨b1, b2⟩ := free_road (points := [1]) hk (by simp) 0 1
  obtain ⟨c1, c2⟩ := free_road (points := []) hk (by simp) 1 0
  obtain ⟨d1, d3, d4⟩ := ends_road (points := [2]) hk (by simp) 0
  have a3 : v_road_Free lit_law21_alive [] 0 1 = true := by
    rw [a2, hl3, show endsB lit_law21_alive [] 0 (Int.toNat 1) = true from e1]; rfl
  have b3 : v_road_Free lit_law21_alive [1] 0 1 = false := by
    rw [b2, show endsB lit_law21_alive [1] 0 (Int.toNat 1) = false from e2 1, Bool.and_false]
  have c3 : v_road_Free lit_law21_alive [] 1 0 = false := by
    rw [c2, show endsB lit_law21_alive [] 1 (Int.toNat 0) = false from e3, Bool.and_false]
  have d2 : v_road_Ends lit_law21_alive [2] 0 = [1] := by
    unfold v_road_Ends
    rw [show endsB lit_law21_alive [2] 0 = fun j => decide (j = 1) from funext e4, hl3]
    rfl
  rw [d2] at d3 d4
  unfold ka_law21_alive va_law21_alive
  rw [a1, a3, b1, b3, c1, c3, d1, d2]
  exact ⟨by decide +kernel, by decide +kernel⟩
end Go.Ev
end

section
set_option linter.unusedSectionVars false
set_option linter.unusedVariables false
set_option linter.unusedSimpArgs false
/- Fences taken out of programs: over lists. -/
set_option linter.unusedVariables false
set_option linter.unusedSimpArgs false
namespace Go.Ev
open Go
def outT (l : List Int) : Nat → List ByteArray → List (El T_api_Ins) → List (El T_api_Ins)
  | _, _, [] => []
  | k, ls, i :: r => if l.contains (k : Int) then outT l (k + 1) (ls ++ labsOf i) r else withLs i (ls ++ labsOf i) :: outT l (k + 1) [] r
theorem outT_len (l : List Int) : ∀ (x : List (El T_api_Ins)) (k : Nat) (ls : List ByteArray), (outT l k ls x).length ≤ x.length
  | [], _, _ => Nat.zero_le _
  | i :: r, k, ls => by
    unfold outT
    split
    · have := outT_len l r (k + 1) (ls ++ labsOf i)
      rw [List.length_cons]; omega
    · have := outT_len l r (k + 1) []
      rw [List.length_cons, List.length_cons]; omega
theorem outT_nil : ∀ (x : List (El T_api_Ins)) (k : Nat), outT [] k [] x = x
  | [], _ => rfl
  | i :: r, k => by
    unfold outT
    rw [outT_nil r (k + 1), if_neg (by simp)]
    rfl
def outP : List (List Int) → List (List (El T_api_Ins)) → List (List (El T_api_Ins))
  | _, [] => []
  | [], x :: xs => x :: xs
  | l :: ls, x :: xs => outT l 0 [] x :: outP ls xs
theorem outP_len : ∀ (ls : List (List Int)) (xs : List (List (El T_api_Ins))), (outP ls xs).length = xs.length
  | _, [] => by cases ‹List (List Int)› <;> rfl
  | [], x :: xs => rfl
  | l :: ls, x :: xs => by unfold outP; rw [List.length_cons, List.length_cons, outP_len ls xs]
theorem outP_get : ∀ (ls : List (List Int)) (xs : List (List (El T_api_Ins))) (t : Nat) (h : t < xs.length), (outP ls xs)[t]? = some (outT (ls.getD t []) 0 [] xs[t])
  | [], x :: xs, t, h => by
    unfold outP
    rw [List.getElem?_eq_getElem h]
    have : List.getD ([] : List (List Int)) t [] = [] := by simp
    rw [this, outT_nil]
  | l :: ls, x :: xs, 0, h => rfl
  | l :: ls, x :: xs, t + 1, h => by
    unfold outP
    rw [List.getElem?_cons_succ, outP_get ls xs t (by simpa using h)]
    simp
/-- Do places tell fences of a thread? -/
def fenceAt (x : List (El T_api_Ins)) (n : Int) : Bool := decide (n < (x.length : Int)) && ((show Int from (List.getD x n.toNat (dflt T_api_Ins)).1) == 12)
def okOut (l : List Int) (x : List (El T_api_Ins)) : Bool := rising l && l.all (fenceAt x)
def okOuts : List (List Int) → List (List (El T_api_Ins)) → Bool
  | [], _ => true
  | l :: ls, x :: xs => okOut l x && okOuts ls xs
  | _ :: _, [] => false
theorem okOuts_drop {ls : List (List Int)} {xs : List (List (El T_api_Ins))} {k : Nat} (h : k < ls.length) (h' : k < xs.length) : okOuts (ls.drop k) (xs.drop k) = (okOut ls[k] xs[k] && okOuts (ls.drop (k + 1)) (xs.drop (k + 1))) := by
  rw [drop_cons h, drop_cons h']; rfl
def outC (p : El T_api_Prog) (fences : List (List Int)) : El T_api_Prog × Bool :=
  if checkC p ≠ 0 ∨ p.2.length < fences.length ∨ okOuts fences p.2 = false then (noProg, false) else ((p.1, outP fences p.2), true)
theorem labels_cons (i : El T_api_Ins) (r : List (El T_api_Ins)) : (labels (i :: r)).length = (labsOf i).length + (labels r).length := by
  unfold labels labsOf
  rw [List.flatMap_cons, List.length_append]
end Go.Ev
end

section
set_option linter.unusedSectionVars false
set_option linter.unusedVariables false
set_option linter.unusedSimpArgs false
/- The way back from the places of what was laid in: over lists. -/
set_option linter.unusedVariables false
set_option linter.unusedSimpArgs false
namespace Go.Ev
open Go
/-- Each place, those with a fence twice. -/
def expand : Nat → List Bool → List Int
  | _, [] => []
  | k, b :: r => if b then (k : Int) :: (k : Int) :: expand (k + 1) r else (k : Int) :: expand (k + 1) r
theorem expand_len : ∀ (l : List Bool) (k : Nat), (expand k l).length = l.length + (listFrom k l).length
  | [], _ => rfl
  | b :: r, k => by
    have := expand_len r (k + 1)
    unfold expand listFrom
    split <;> simp only [List.length_cons] <;> omega
theorem listFrom_gt {l : List Bool} {k : Nat} {x : Int} (h : x ∈ listFrom k l) : (k : Int) ≤ x ∧ x < k + l.length := by
  obtain ⟨i, h1, h2⟩ := mem_listFrom.1 h
  have := (List.getElem?_eq_some_iff.1 h1).1
  omega
theorem fences_gt {l : List Int} {j : Nat} {y x : Int} (hl : ∀ n ∈ l, y < n) (h : x ∈ fencesFrom j l) : y + j < x := by
  obtain ⟨i, n, h1, h2⟩ := mem_fencesFrom.1 h
  have := hl n (List.mem_of_getElem? h1)
  omega
theorem below_zero {l : List Int} {x : Int} (h : ∀ f ∈ l, x ≤ f) : below l x = 0 := by
  unfold below
  rw [List.countP_eq_zero]
  intro f hf
  have := h f hf
  simp; omega
theorem below_cons {n : Int} {l : List Int} {x : Int} : below (n :: l) x = (if n < x then 1 else 0) + below l x := by
  unfold below
  rw [List.countP_cons, Nat.add_comm]
  congr 1
  by_cases h : n < x <;> simp [h]
theorem upTo_cons {n : Int} {l : List Int} {x : Int} : upTo (n :: l) x = (if n ≤ x then 1 else 0) + upTo l x := by
  unfold upTo
  rw [List.countP_cons, Nat.add_comm]
  congr 1
  by_cases h : n ≤ x <;> simp [h]
theorem listFrom_rising : ∀ (l : List Bool) (k : Nat), (listFrom k l).Pairwise (· < ·)
  | [], _ => List.Pairwise.nil
  | b :: r, k => by
    have ih := listFrom_rising r (k + 1)
    unfold listFrom
    split
    · exact List.pairwise_cons.2 ⟨fun x hx => by have := (listFrom_gt hx).1; omega, ih⟩
    · exact ih
theorem listFrom_isRising {l : List Bool} (h : l.length ≤ 2147483647) : rising (listFrom 0 l) = true :=
  rising_spec.2 ⟨fun x hx => by have := listFrom_gt hx; omega, listFrom_rising l 0⟩
theorem back_expand : ∀ (l : List Bool) (k j m : Nat) (x : Int), (expand k l)[m]? = some x → (x : Int) = (k + j + m : Nat) - ((j + below (fencesFrom j (listFrom k l)) ((k + j + m : Nat) : Int) : Nat) : Int)
  | [], k, j, m, x, h => by simp [expand] at h
  | b :: r, k, j, m, x, h => by
    have gt : ∀ f ∈ fencesFrom j (listFrom (k + 1) r), (k : Int) + j < f := fun f hf => fences_gt (fun n hn => by have := (listFrom_gt hn).1; omega) hf
    have gt2 : ∀ f ∈ fencesFrom (j + 1) (listFrom (k + 1) r), (k : Int) + j + 1 < f := fun f hf => by
      have := fences_gt (y := (k : Int)) (fun n hn => by have := (listFrom_gt hn).1; omega) hf
      omega
    unfold expand at h
    unfold listFrom
    cases b with
    | true =>
      rw [if_pos rfl] at h ⊢
      unfold fencesFrom
      rw [below_cons]
      match m, h with
      | 0, h =>
        have hx : x = (k : Int) := by simpa using h.symm
        rw [if_neg (by omega), below_zero (fun f hf => by have := gt2 f hf; omega)]
        omega
      | 1, h =>
        have hx : x = (k : Int) := by simpa using h.symm
        rw [if_pos (by omega), below_zero (fun f hf => by have := gt2 f hf; omega)]
        omega
      | m + 2, h =>
        have ih := back_expand r (k + 1) (j + 1) m x (by simpa using h)
        rw [if_pos (by omega)]
        rw [show k + j + (m + 2) = k + 1 + (j + 1) + m by omega]
        omega
    | false =>
      rw [if_neg (by decide)] at h ⊢
      match m, h with
      | 0, h =>
        have hx : x = (k : Int) := by simpa using h.symm
        rw [below_zero (fun f hf => by have := gt f hf; omega)]
        omega
      | m + 1, h =>
        have ih := back_expand r (k + 1) j m x (by simpa using h)
        rw [show k + j + (m + 1) = k + 1 + j + m by omega]
        exact ih
theorem there_back : ∀ (l : List Int) (j : Nat) (i : Int), l.Pairwise (· < ·) → below (fencesFrom j l) (i + (j + upTo l i : Nat)) = upTo l i ∧ (i + (j + upTo l i : Nat)) ∉ fencesFrom j l
  | [], j, i, _ => ⟨rfl, by simp [fencesFrom]⟩
  | n :: r, j, i, h => by
    obtain ⟨h1, h2⟩ := List.pairwise_cons.1 h
    obtain ⟨ih1, ih2⟩ := there_back r (j + 1) i h2
    rw [upTo_cons]
    unfold fencesFrom
    by_cases hn : n ≤ i
    · rw [if_pos hn, show j + (1 + upTo r i) = j + 1 + upTo r i by omega, below_cons, if_pos (by omega), ih1]
      refine ⟨rfl, fun hm => ?_⟩
      rcases List.mem_cons.1 hm with hm | hm
      · omega
      · exact ih2 hm
    · have h0 : upTo r i = 0 := by
        unfold upTo
        rw [List.countP_eq_zero]
        intro f hf
        have := h1 f hf
        simp; omega
      have gt : ∀ f ∈ fencesFrom (j + 1) r, i + j < f := fun f hf => by
        have := fences_gt (y := i) (fun n hn => by have := h1 n hn; omega) hf
        omega
      rw [if_neg hn, h0, below_cons, if_neg (by omega), below_zero (fun f hf => by have := gt f hf; omega)]
      refine ⟨rfl, fun hm => ?_⟩
      rcases List.mem_cons.1 hm with hm | hm
      · omega
      · have := gt _ hm; omega
theorem fence_back : ∀ (l : List Int) (j k : Nat) (n : Int), l.Pairwise (· < ·) → l[k]? = some n → below (fencesFrom j l) (n + (j + k : Nat)) = k
  | [], j, k, n, _, h => by simp at h
  | m :: r, j, k, n, h, hk => by
    obtain ⟨h1, h2⟩ := List.pairwise_cons.1 h
    unfold fencesFrom
    rw [below_cons]
    cases k with
    | zero =>
      have : m = n := by simpa using hk
      subst this
      rw [if_neg (by omega), below_zero fun f hf => by
        have := fences_gt (y := m) h1 hf
        omega]
    | succ k =>
      have hk' : r[k]? = some n := by simpa using hk
      have ih := fence_back r (j + 1) k n h2 hk'
      have := h1 n (List.mem_of_getElem? hk')
      rw [if_pos (by omega), show j + (k + 1) = j + 1 + k by omega, ih]
      omega
theorem fencesFrom_get : ∀ (l : List Int) (j k : Nat) (n : Int), l[k]? = some n → (fencesFrom j l)[k]? = some (n + (j + k : Nat))
  | [], j, k, n, h => by simp at h
  | m :: r, j, k, n, h => by
    unfold fencesFrom
    cases k with
    | zero => have : m = n := by simpa using h
              subst this; simp
    | succ k =>
      have := fencesFrom_get r (j + 1) k n (by simpa using h)
      rw [List.getElem?_cons_succ, this]
      congr 1
      omega
theorem expand_ge {l : List Bool} : ∀ {k : Nat} {x : Int}, x ∈ expand k l → (k : Int) ≤ x ∧ x < k + l.length := by
  induction l with
  | nil => intro k x h; simp [expand] at h
  | cons b r ih =>
    intro k x h
    have key : x = (k : Int) ∨ x ∈ expand (k + 1) r := by
      unfold expand at h
      split at h <;> simp only [List.mem_cons] at h <;> rcases h with h | h <;> first | exact .inl h | exact .inr h | (rcases h with h | h <;> first | exact .inl h | exact .inr h)
    rcases key with rfl | h
    · rw [List.length_cons]; omega
    · have := ih h; rw [List.length_cons]; omega
theorem expand_sorted : ∀ (l : List Bool) (k : Nat), (expand k l).Pairwise (· ≤ ·)
  | [], _ => List.Pairwise.nil
  | b :: r, k => by
    have ih := expand_sorted r (k + 1)
    have hge : ∀ x ∈ expand (k + 1) r, (k : Int) ≤ x := fun x hx => by have := (expand_ge hx).1; omega
    unfold expand
    split
    · refine List.pairwise_cons.2 ⟨fun x hx => ?_, List.pairwise_cons.2 ⟨hge, ih⟩⟩
      rcases List.mem_cons.1 hx with rfl | hx
      · exact Int.le_refl _
      · exact hge x hx
    · exact List.pairwise_cons.2 ⟨hge, ih⟩
theorem expand_count : ∀ (l : List Bool) (k i : Nat) (b : Bool), l[i]? = some b → (expand k l).count ((k + i : Nat) : Int) = if b then 2 else 1
  | [], k, i, b, h => by simp at h
  | c :: r, k, i, b, h => by
    have hz : (expand (k + 1) r).count (k : Int) = 0 := by
      rw [List.count_eq_zero]
      intro hm
      have := (expand_ge hm).1
      omega
    cases i with
    | zero =>
      have : c = b := by simpa using h
      subst this
      unfold expand
      cases c <;> simp [hz]
    | succ i =>
      have ih := expand_count r (k + 1) i b (by simpa using h)
      have hne : ((k : Int) == ((k + (i + 1) : Nat) : Int)) = false := by simp; omega
      rw [show k + 1 + i = k + (i + 1) by omega] at ih
      unfold expand
      split
      · rw [List.count_cons, List.count_cons, hne, ih]; simp
      · rw [List.count_cons, hne, ih]; simp
/-- How often each place was come to. -/
def cameC (n : Nat) (l : List Int) : List Int := (List.range n).map fun (i : Nat) => (l.count (i : Int) : Int)
theorem cameC_get {n : Nat} {l : List Int} {i : Nat} (h : i < n) : (cameC n l)[i]? = some (l.count (i : Int) : Int) := by
  unfold cameC
  rw [List.getElem?_map, List.getElem?_range h]; rfl
theorem cameC_len {n : Nat} {l : List Int} : (cameC n l).length = n := by unfold cameC; simp
theorem cameC_snoc {n : Nat} {l : List Int} {b : Nat} (hb : b < n) : (cameC n l).set b ((l.count (b : Int) : Int) + 1) = cameC n (l ++ [(b : Int)]) := by
  apply List.ext_getElem?
  intro i
  rw [List.getElem?_set]
  by_cases hi : i < n
  · rw [cameC_get hi, cameC_get hi, cameC_len]
    by_cases he : b = i
    · subst he
      rw [if_pos rfl, if_pos hb, List.count_append]
      simp
    · rw [if_neg he, List.count_append]
      have : List.count (i : Int) [(b : Int)] = 0 := by rw [List.count_eq_zero]; simp; omega
      rw [this]; rfl
  · have h1 : (cameC n l)[i]? = none := List.getElem?_eq_none (by rw [cameC_len]; omega)
    have h2 : (cameC n (l ++ [(b : Int)]))[i]? = none := List.getElem?_eq_none (by rw [cameC_len]; omega)
    rw [h1, h2, if_neg (by omega)]
theorem cameC_nil {n : Nat} : List.replicate n (0 : Int) = cameC n [] := by
  unfold cameC
  simp only [List.count_nil, Int.natCast_zero, List.map_const', List.length_range]
end Go.Ev
end

section
set_option linter.unusedSectionVars false
set_option linter.unusedVariables false
set_option linter.unusedSimpArgs false
/- A program with fences laid in may be, if it may be without; fences taken out again leave it as it was. -/
set_option maxRecDepth 100000
set_option linter.unusedVariables false
set_option linter.unusedSimpArgs false
namespace Go.Ev
open Go
theorem mem_laidT {l : List Int} : ∀ {x : List (El T_api_Ins)} {k : Nat} {j : El T_api_Ins}, j ∈ laidT l k x → ∃ i ∈ x, j = i ∨ j = fenceI (labsOf i) ∨ j = withLs i []
  | [], _, _, h => by cases h
  | i :: r, k, j, h => by
    unfold laidT at h
    split at h
    · rcases List.mem_cons.1 h with rfl | h
      · exact ⟨i, by simp, .inr (.inl rfl)⟩
      · rcases List.mem_cons.1 h with rfl | h
        · exact ⟨i, by simp, .inr (.inr rfl)⟩
        · obtain ⟨a, b, c⟩ := mem_laidT h; exact ⟨a, by simp [b], c⟩
    · rcases List.mem_cons.1 h with rfl | h
      · exact ⟨j, by simp, .inl rfl⟩
      · obtain ⟨a, b, c⟩ := mem_laidT h; exact ⟨a, by simp [b], c⟩
theorem labels_laid (l : List Int) : ∀ (x : List (El T_api_Ins)) (k : Nat), labels (laidT l k x) = labels x
  | [], _ => rfl
  | i :: r, k => by
    have ih := labels_laid l r (k + 1)
    unfold labels at *
    unfold laidT
    split
    · rw [List.flatMap_cons, List.flatMap_cons, List.flatMap_cons, ih]
      rfl
    · rw [List.flatMap_cons, List.flatMap_cons, ih]
theorem small_laid {l : List Int} {x : List (El T_api_Ins)} (h : smallThread x = true) (hl : x.length < 1073741824) (k : Nat) : smallThread (laidT l k x) = true := by
  have hS := smallT h
  have h2 := laidT_len l x k
  unfold smallThread
  simp only [Bool.and_eq_true, decide_eq_true_eq, List.all_eq_true]
  refine ⟨by omega, by rw [labels_laid]; exact hS.labs, fun j hj => ?_⟩
  obtain ⟨i, hi, h | h | h⟩ := mem_laidT hj
  · subst h; exact ⟨hS.to _ hi, hS.lab _ hi⟩
  · subst h; exact ⟨show smallText (bs []) = true by decide +kernel, fun l hl => hS.lab i hi l hl⟩
  · subst h; exact ⟨hS.to i hi, fun l hl => by cases hl⟩
/-! the thread's rule -/
theorem countM_laid (l : List Int) : ∀ (x : List (El T_api_Ins)) (k : Nat), countM (laidT l k x) = countM x
  | [], _ => rfl
  | i :: r, k => by
    have ih := countM_laid l r (k + 1)
    unfold countM at *
    unfold laidT
    split
    · rw [List.filter_cons, List.filter_cons, List.filter_cons]
      have e1 : ((fenceI (labsOf i)).1 != (12 : Int)) = false := (show ((12 : Int) != 12) = false by decide)
      have e2 : ((withLs i []).1 != (12 : Int)) = (i.1 != (12 : Int)) := rfl
      rw [e1, e2]
      split
      · rename_i h; cases h
      · split
        · rw [List.length_cons, List.length_cons, ih]
        · exact ih
    · rw [List.filter_cons, List.filter_cons]
      split
      · rw [List.length_cons, List.length_cons, ih]
      · exact ih
theorem insC_fence {p : El T_api_Prog} (ls : List ByteArray) : insC p (fenceI ls) = 0 := by
  have h : v_ins_Right (fenceI ls) = 0 := by
    rw [show v_ins_Right (fenceI ls) = v_ins_Right (bare 12) from rfl]
    exact bare_right (.inl rfl)
  unfold insC
  rw [h]
  rfl
theorem insC_withLs {p : El T_api_Prog} (i : El T_api_Ins) (ls : List ByteArray) : insC p (withLs i ls) = insC p i := rfl
theorem scanL_congr {seen : List ByteArray} {K K' : List ByteArray → Int} (h : ∀ s, K s = K' s) : ∀ (ls : List ByteArray), scanL seen K ls = scanL seen K' ls := by
  intro ls
  induction ls generalizing seen with
  | nil => exact h seen
  | cons a r ih => unfold scanL; rw [ih]
theorem scanI_laid (l : List Int) {p : El T_api_Prog} {K : List ByteArray → Int} : ∀ (x : List (El T_api_Ins)) (k : Nat) (seen : List ByteArray), scanI p K seen (laidT l k x) = scanI p K seen x
  | [], _, _ => rfl
  | i :: r, k, seen => by
    rw [laidT]
    split
    · rw [scanI, scanI]
      refine scanL_congr (fun s => ?_) _
      rw [insC_fence, if_neg (by decide), scanI]
      show (if insC p (withLs i []) ≠ 0 then _ else _) = _
      rw [insC_withLs, scanI_laid l r (k + 1) s]
    · rw [scanI, scanI]
      refine scanL_congr (fun s => ?_) _
      rw [scanI_laid l r (k + 1) s]
theorem last_laid (l : List Int) : ∀ (x : List (El T_api_Ins)) (k : Nat), (laidT l k x).getLast?.map (fun i => (show Int from i.1)) = x.getLast?.map (fun i => (show Int from i.1))
  | [], _ => rfl
  | i :: r, k => by
    have ih := last_laid l r (k + 1)
    cases r with
    | nil =>
      rw [laidT]
      split <;> rfl
    | cons j r =>
      obtain ⟨b, bs, hb⟩ : ∃ b bs, laidT l (k + 1) (j :: r) = b :: bs := by
        rw [laidT]
        split <;> exact ⟨_, _, rfl⟩
      rw [laidT]
      rw [hb] at ih ⊢
      split
      · rw [List.getLast?_cons_cons, List.getLast?_cons_cons, ih, List.getLast?_cons_cons]
      · rw [List.getLast?_cons_cons, ih, List.getLast?_cons_cons]
theorem endC_map {t t' : List (El T_api_Ins)} {K : Int} (h : t.getLast?.map (fun i => (show Int from i.1)) = t'.getLast?.map (fun i => (show Int from i.1))) : endC t K = endC t' K := by
  unfold endC
  cases h1 : t.getLast? with
  | none =>
    cases h2 : t'.getLast? with
    | none => rfl
    | some b => rw [h1, h2] at h; cases h
  | some a =>
    cases h2 : t'.getLast? with
    | none => rw [h1, h2] at h; cases h
    | some b =>
      rw [h1, h2] at h
      have e : a.1 = b.1 := Option.some.inj h
      show (if _ then K else 9) = if _ then K else 9
      rw [e]
theorem jumpC_laid (l : List Int) {seen : List ByteArray} : ∀ (x : List (El T_api_Ins)) (k : Nat), jumpC seen (laidT l k x) = jumpC seen x
  | [], _ => rfl
  | i :: r, k => by
    have ih := jumpC_laid l (seen := seen) r (k + 1)
    rw [laidT]
    split
    · rw [jumpC, if_neg (by show ¬ (((12 : Int) == 10) || ((12 : Int) == 11)) = true; decide), jumpC, ih, jumpC]
      rfl
    · rw [jumpC, ih, jumpC]
theorem threadC_laid (l : List Int) {p : El T_api_Prog} (x : List (El T_api_Ins)) : threadC p (laidT l 0 x) = threadC p x := by
  unfold threadC
  rw [countM_laid]
  split
  · rfl
  · have e : (fun seen => endC (laidT l 0 x) (jumpC seen (laidT l 0 x))) = fun seen => endC x (jumpC seen x) := by
      funext seen
      rw [jumpC_laid, endC_map (last_laid l x 0)]
    rw [e, scanI_laid]
theorem scanI_syms {s : List (El T_api_Sym)} {a b : List (List (El T_api_Ins))} {K : List ByteArray → Int} : ∀ (x : List (El T_api_Ins)) (seen : List ByteArray), scanI (s, a) K seen x = scanI (s, b) K seen x
  | [], _ => rfl
  | i :: r, seen => by
    rw [scanI, scanI]
    refine scanL_congr (fun sn => ?_) _
    rw [scanI_syms r sn]
    rfl
theorem threadC_syms {s : List (El T_api_Sym)} {a b : List (List (El T_api_Ins))} (x : List (El T_api_Ins)) : threadC (s, a) x = threadC (s, b) x := by
  unfold threadC
  rw [scanI_syms (a := a) (b := b)]
theorem thsC_laid {s : List (El T_api_Sym)} {a b : List (List (El T_api_Ins))} : ∀ (ls : List (List Int)) (xs : List (List (El T_api_Ins))), thsC (s, a) (laidP ls xs) = thsC (s, b) xs
  | _, [] => by cases ‹List (List Int)› <;> rfl
  | [], x :: xs => by
    have ih := thsC_laid (s := s) (a := a) (b := b) [] xs
    rw [laidP, thsC, thsC, threadC_syms (a := a) (b := b)]
    rw [show laidP [] xs = xs by cases xs <;> rfl] at ih
    rw [ih]
  | l :: ls, x :: xs => by
    rw [laidP, thsC, thsC, threadC_laid, threadC_syms (a := a) (b := b), thsC_laid ls xs]
theorem check_laid {p : El T_api_Prog} (ls : List (List Int)) : checkC (p.1, laidP ls p.2) = checkC p := by
  unfold checkC
  show (if 64 < p.1.length ∨ 64 < (laidP ls p.2).length then 10 else symsC (thsC (p.1, laidP ls p.2) (laidP ls p.2)) [] p.1) = _
  rw [laidP_len, thsC_laid (b := p.2) ls p.2]
theorem mem_laidP : ∀ {ls : List (List Int)} {xs : List (List (El T_api_Ins))} {t : List (El T_api_Ins)}, t ∈ laidP ls xs → ∃ l, ∃ x ∈ xs, t = laidT l 0 x
  | _, [], _, h => by cases ‹List (List Int)› <;> cases h
  | [], x :: xs, t, h => ⟨[], t, h, (laidT_nil t 0).symm⟩
  | l :: ls, x :: xs, t, h => by
    rw [laidP] at h
    rcases List.mem_cons.1 h with rfl | h
    · exact ⟨l, x, by simp, rfl⟩
    · obtain ⟨a, b, c, d⟩ := mem_laidP h
      exact ⟨a, b, by simp [c], d⟩
/-- What may be laid into. -/
structure Few (p : El T_api_Prog) (n : Nat) : Prop where
  syms : p.1.length ≤ 1000
  init : ∀ s ∈ p.1, List.length s.2.2 ≤ 1000
  thr : p.2.length ≤ 1000
  len : ∀ t ∈ p.2, List.length t ≤ n
  lab : ∀ t ∈ p.2, (labels t).length ≤ n
theorem few_copy {p : El T_api_Prog} {n : Nat} (h : Few p n) (hn : n ≤ 1000000) : copyB p = true := by
  have hl : ∀ t ∈ p.2, ∀ i ∈ t, List.length i.2.2.2.2.2.2 ≤ n := fun t ht i hi => Nat.le_trans (labels_mem hi) (h.lab t ht)
  have h1 := h.syms
  have h2 := h.thr
  unfold copyB copyThread copyIns
  simp only [Bool.and_eq_true, decide_eq_true_eq, List.all_eq_true]
  exact ⟨by omega, fun s hs => by have := h.init s hs; omega, by omega, fun t ht => ⟨by have := h.len t ht; omega, fun i hi => by have := hl t ht i hi; omega⟩⟩
theorem few_laid {p : El T_api_Prog} {n : Nat} (h : Few p n) (ls : List (List Int)) : Few (p.1, laidP ls p.2) (2 * n) := by
  refine ⟨h.syms, h.init, by rw [laidP_len]; exact h.thr, fun t ht => ?_, fun t ht => ?_⟩ <;> obtain ⟨l, x, hx, rfl⟩ := mem_laidP ht
  · have := laidT_len l x 0
    have := h.len x hx
    omega
  · rw [labels_laid]
    have := h.lab x hx
    omega
theorem small_laidP {p : El T_api_Prog} (h : smallProg p = true) {n : Nat} (hf : Few p n) (hn : n ≤ 1000000) (ls : List (List Int)) : smallProg (p.1, laidP ls p.2) = true := by
  unfold smallProg at *
  simp only [Bool.and_eq_true, List.all_eq_true] at *
  refine ⟨h.1, fun t ht => ?_⟩
  obtain ⟨l, x, hx, rfl⟩ := mem_laidP ht
  exact small_laid (h.2 x hx) (by have := hf.len x hx; omega) 0
/-! taken out -/
theorem labels_out (l : List Int) : ∀ (x : List (El T_api_Ins)) (k : Nat) (ls : List ByteArray), (labels (outT l k ls x)).length ≤ ls.length + (labels x).length
  | [], _, _ => Nat.zero_le _
  | i :: r, k, ls => by
    rw [labels_cons, outT]
    split
    · have := labels_out l r (k + 1) (ls ++ labsOf i)
      rw [List.length_append] at this
      omega
    · have := labels_out l r (k + 1) []
      rw [labels_cons]
      have e : (labsOf (withLs i (ls ++ labsOf i))).length = ls.length + (labsOf i).length := by
        show (ls ++ labsOf i).length = _
        rw [List.length_append]
      rw [e]
      simp at this
      omega
theorem mem_outP : ∀ {ls : List (List Int)} {xs : List (List (El T_api_Ins))} {t : List (El T_api_Ins)}, t ∈ outP ls xs → ∃ l, ∃ x ∈ xs, t = outT l 0 [] x
  | _, [], _, h => by cases ‹List (List Int)› <;> cases h
  | [], x :: xs, t, h => ⟨[], t, h, (outT_nil t 0).symm⟩
  | l :: ls, x :: xs, t, h => by
    rw [outP] at h
    rcases List.mem_cons.1 h with rfl | h
    · exact ⟨l, x, by simp, rfl⟩
    · obtain ⟨a, b, c, d⟩ := mem_outP h
      exact ⟨a, b, by simp [c], d⟩
theorem few_out {p : El T_api_Prog} {n : Nat} (h : Few p n) (ls : List (List Int)) : Few (p.1, outP ls p.2) n := by
  refine ⟨h.syms, h.init, by rw [outP_len]; exact h.thr, fun t ht => ?_, fun t ht => ?_⟩ <;> obtain ⟨l, x, hx, rfl⟩ := mem_outP ht
  · exact Nat.le_trans (outT_len l x 0 []) (h.len x hx)
  · have := labels_out l x 0 []
    have := h.lab x hx
    simp at *
    omega
/-! there and back -/
theorem below_mono {l : List Int} {a b : Int} (h : a ≤ b) : below l a ≤ below l b := by
  unfold below
  exact List.countP_mono_left fun x _ hx => by
    have hx' : x < a := of_decide_eq_true hx
    exact decide_eq_true (Int.lt_of_lt_of_le hx' h)
theorem below_succ {l : List Int} (hp : l.Pairwise (· < ·)) (k : Int) : below l (k + 1) = below l k + if l.contains k then 1 else 0 := by
  induction l with
  | nil => rfl
  | cons n r ih =>
    obtain ⟨h1, h2⟩ := List.pairwise_cons.1 hp
    rw [below_cons, below_cons, ih h2, List.contains_cons]
    by_cases he : k = n
    · subst he
      have hz : r.contains k = false := by
        rw [← Bool.not_eq_true, List.contains_iff_mem]
        intro hm
        have := h1 k hm; omega
      rw [hz, if_pos (show k < k + 1 by omega), if_neg (show ¬ (k < k) by omega), beq_self_eq_true]
      simp
      omega
    · rw [beq_false_of_ne he, Bool.false_or]
      by_cases hlt : n < k
      · rw [if_pos (by omega), if_pos hlt]; omega
      · rw [if_neg (by omega), if_neg hlt]; omega
theorem below_index {l : List Int} (hp : l.Pairwise (· < ·)) {i : Nat} {n : Int} (h : l[i]? = some n) : below l n = i := by
  induction l generalizing i with
  | nil => simp at h
  | cons m r ih =>
    obtain ⟨h1, h2⟩ := List.pairwise_cons.1 hp
    rw [below_cons]
    cases i with
    | zero =>
      have : m = n := by simpa using h
      subst this
      rw [if_neg (by omega), below_zero fun f hf => by have := h1 f hf; omega]
    | succ i =>
      have h' : r[i]? = some n := by simpa using h
      have := h1 n (List.mem_of_getElem? h')
      rw [if_pos (by omega), ih h2 h']
      omega
theorem mem_fences_iff {l : List Int} (hp : l.Pairwise (· < ·)) {x : Int} : x ∈ fencesFrom 0 l ↔ ∃ n ∈ l, x = n + below l n := by
  rw [mem_fencesFrom]
  constructor
  · rintro ⟨i, n, h1, h2⟩
    exact ⟨n, List.mem_of_getElem? h1, by rw [below_index hp h1, h2]; omega⟩
  · rintro ⟨n, h1, h2⟩
    obtain ⟨i, hi, rfl⟩ := List.mem_iff_getElem.1 h1
    have h3 := List.getElem?_eq_getElem hi
    exact ⟨i, _, h3, by rw [h2, below_index hp h3]; omega⟩
theorem fence_here {l : List Int} (hp : l.Pairwise (· < ·)) (k : Int) : (fencesFrom 0 l).contains (k + below l k) = l.contains k := by
  rw [Bool.eq_iff_iff, List.contains_iff_mem, List.contains_iff_mem, mem_fences_iff hp]
  constructor
  · rintro ⟨n, hn, e⟩
    have hk : n = k := by
      rcases Int.lt_trichotomy n k with h | h | h
      · have := below_mono (l := l) (a := n) (b := k) (by omega); omega
      · exact h
      · have := below_mono (l := l) (a := k) (b := n) (by omega); omega
    exact hk ▸ hn
  · intro hk
    exact ⟨k, hk, rfl⟩
theorem fence_next {l : List Int} (hp : l.Pairwise (· < ·)) {k : Int} (hk : l.contains k = true) : (fencesFrom 0 l).contains (k + below l k + 1) = false := by
  rw [← Bool.not_eq_true, List.contains_iff_mem, mem_fences_iff hp]
  rintro ⟨n, hn, e⟩
  have hs := below_succ hp k
  rw [hk, if_pos rfl] at hs
  rcases Int.lt_or_le k n with h | h
  · have := below_mono (l := l) (a := k + 1) (b := n) (by omega); omega
  · have := below_mono (l := l) (a := n) (b := k) (by omega); omega
theorem out_laid {l : List Int} (hp : l.Pairwise (· < ·)) : ∀ (x : List (El T_api_Ins)) (k pos : Nat), pos = k + below l (k : Int) → outT (fencesFrom 0 l) pos [] (laidT l k x) = x
  | [], _, _, _ => rfl
  | i :: r, k, pos, e => by
    have hs := below_succ hp (k : Int)
    have hh := fence_here hp (k : Int)
    have hpos : ((pos : Nat) : Int) = (k : Int) + below l (k : Int) := by rw [e]; omega
    rw [← hpos] at hh
    rw [laidT]
    cases hc : l.contains (k : Int) with
    | true =>
      rw [hc] at hs hh
      have hn := fence_next hp hc
      rw [← hpos, show (pos : Int) + 1 = ((pos + 1 : Nat) : Int) by omega] at hn
      rw [if_pos rfl, outT, if_pos hh, outT, hn, if_neg (by decide)]
      have := out_laid hp r (k + 1) (pos + 1 + 1) (by rw [show ((k + 1 : Nat) : Int) = (k : Int) + 1 by omega, hs, if_pos rfl]; omega)
      rw [this, show ([] : List ByteArray) ++ labsOf (fenceI (labsOf i)) ++ labsOf (withLs i []) = labsOf i from (List.append_nil _)]
      rfl
    | false =>
      rw [hc] at hs hh
      rw [if_neg (by decide), outT, hh, if_neg (by decide)]
      have := out_laid hp r (k + 1) (pos + 1) (by rw [show ((k + 1 : Nat) : Int) = (k : Int) + 1 by omega, hs, if_neg (by decide)]; omega)
      rw [this]
      rfl
theorem laid_fence {l : List Int} (hp : l.Pairwise (· < ·)) {n : Nat} (hn : l.contains (n : Int) = true) : ∀ (x : List (El T_api_Ins)) (k m : Nat), k ≤ n → n < k + x.length → m + (k + below l (k : Int)) = n + below l (n : Int) → ∃ ls, (laidT l k x)[m]? = some (fenceI ls)
  | [], k, m, h1, h2, _ => by simp at h2; omega
  | i :: r, k, m, h1, h2, h3 => by
    have hs := below_succ hp (k : Int)
    rw [laidT]
    by_cases hk : k = n
    · subst hk
      have hm : m = 0 := by omega
      subst hm
      rw [if_pos hn]
      exact ⟨_, rfl⟩
    · have hmn := below_mono (l := l) (a := (k : Int) + 1) (b := n) (by omega)
      rw [List.length_cons] at h2
      cases hc : l.contains (k : Int) with
      | true =>
        rw [hc, if_pos rfl] at hs
        obtain ⟨ls, h⟩ := laid_fence hp hn r (k + 1) (m - 2) (by omega) (by omega) (by rw [show ((k + 1 : Nat) : Int) = (k : Int) + 1 by omega, hs]; omega)
        refine ⟨ls, ?_⟩
        obtain ⟨q, rfl⟩ : ∃ q, m = q + 2 := ⟨m - 2, by omega⟩
        rw [if_pos rfl]
        exact h
      | false =>
        rw [hc, if_neg (by decide)] at hs
        obtain ⟨ls, h⟩ := laid_fence hp hn r (k + 1) (m - 1) (by omega) (by omega) (by rw [show ((k + 1 : Nat) : Int) = (k : Int) + 1 by omega, hs]; omega)
        refine ⟨ls, ?_⟩
        obtain ⟨q, rfl⟩ : ∃ q, m = q + 1 := ⟨m - 1, by omega⟩
        rw [if_neg (by decide)]
        exact h
theorem fences_pw : ∀ (l : List Int) (j : Nat), l.Pairwise (· < ·) → (fencesFrom j l).Pairwise (· < ·)
  | [], _, _ => List.Pairwise.nil
  | n :: r, j, h => by
    obtain ⟨h1, h2⟩ := List.pairwise_cons.1 h
    unfold fencesFrom
    refine List.pairwise_cons.2 ⟨fun x hx => ?_, fences_pw r (j + 1) h2⟩
    have := fences_gt (y := n) h1 hx
    omega
theorem okOut_laid {l : List Int} {x : List (El T_api_Ins)} (h : okPts l x.length = true) (hx : x.length ≤ 1000000) : okOut (fencesC l) (laidT l 0 x) = true := by
  unfold okPts at h
  simp only [Bool.and_eq_true, List.all_eq_true, decide_eq_true_eq] at h
  obtain ⟨hr, hlt⟩ := h
  have hs := rising_spec.1 hr
  have hlen : l.length ≤ x.length := by
    rcases rising_len (p := -1) hr (by omega) with _ | h0
    · -- strictly rising below a bound
      have gen : ∀ (m : List Int) (p : Int), m.Pairwise (· < ·) → (∀ y ∈ m, p < y ∧ y < (x.length : Int)) → -1 ≤ p → (m.length : Int) ≤ x.length - (p + 1) ∨ m = [] := by
        intro m
        induction m with
        | nil => intro p _ _ _; exact .inr rfl
        | cons a m ih =>
          intro p hp hb h1
          obtain ⟨q1, q2⟩ := List.pairwise_cons.1 hp
          have ha := hb a (by simp)
          rcases ih a q2 (fun y hy => ⟨q1 y hy, (hb y (by simp [hy])).2⟩) (by omega) with h | h
          · left; rw [List.length_cons]; omega
          · subst h; left; simp; omega
      rcases gen l (-1) hs.2 (fun y hy => ⟨by have := (hs.1 y hy).1; omega, hlt y hy⟩) (by omega) with h | h
      · omega
      · subst h; simp
    · subst h0; simp
  have hF : fencesC l = fencesFrom 0 l := by unfold fencesC; rw [if_pos hr]
  rw [hF]
  unfold okOut
  simp only [Bool.and_eq_true, List.all_eq_true]
  refine ⟨rising_spec.2 ⟨fun y hy => ?_, fences_pw l 0 hs.2⟩, fun y hy => ?_⟩
  · obtain ⟨i, n, h1, h2⟩ := mem_fencesFrom.1 hy
    have hi := (List.getElem?_eq_some_iff.1 h1).1
    have hm := List.mem_of_getElem? h1
    have := hs.1 n hm
    have := hlt n hm
    omega
  · obtain ⟨n, h1, h2⟩ := (mem_fences_iff hs.2).1 hy
    have h0 := hs.1 n h1
    have hl := hlt n h1
    obtain ⟨m, rfl⟩ := Int.eq_ofNat_of_zero_le h0.1
    obtain ⟨ls, hg⟩ := laid_fence hs.2 (n := m) (List.contains_iff_mem.2 h1) x 0 (m + below l (m : Int)) (by omega) (by omega) (by
      have : below l ((0 : Nat) : Int) = 0 := below_zero fun f hf => by have := (hs.1 f hf).1; omega
      rw [this]; omega)
    have hlen2 := (List.getElem?_eq_some_iff.1 hg).1
    unfold fenceAt
    rw [h2, show (m : Int) + (below l (m : Int) : Int) = ((m + below l (m : Int) : Nat) : Int) by omega, decide_eq_true (by omega), Int.toNat_natCast, List.getD_eq_getElem?_getD, hg]
    rfl
theorem outs_laid : ∀ (ls : List (List Int)) (xs : List (List (El T_api_Ins))), okAll ls xs = true → (∀ x ∈ xs, List.length x ≤ 1000000) → okOuts (ls.map fencesC) (laidP ls xs) = true ∧ outP (ls.map fencesC) (laidP ls xs) = xs
  | [], [], _, _ => ⟨rfl, rfl⟩
  | [], x :: xs, _, _ => ⟨rfl, rfl⟩
  | l :: ls, [], h, _ => by cases h
  | l :: ls, x :: xs, h, hb => by
    rw [okAll, Bool.and_eq_true] at h
    obtain ⟨ih1, ih2⟩ := outs_laid ls xs h.2 fun y hy => hb y (by simp [hy])
    have hr : rising l = true := by
      have := h.1
      unfold okPts at this
      rw [Bool.and_eq_true] at this
      exact this.1
    have hs := rising_spec.1 hr
    rw [List.map_cons, laidP, okOuts, outP, okOut_laid h.1 (hb x (by simp)), ih1, ih2]
    refine ⟨rfl, ?_⟩
    have hF : fencesC l = fencesFrom 0 l := by unfold fencesC; rw [if_pos hr]
    rw [hF, out_laid hs.2 x 0 0 (by
      have : below l ((0 : Nat) : Int) = 0 := below_zero fun f hf => by have := (hs.1 f hf).1; omega
      rw [this])]
end Go.Ev
end

section
set_option linter.unusedSectionVars false
set_option linter.unusedVariables false
set_option linter.unusedSimpArgs false
/- One fence laid into a thread: the ways are those past the point. -/
set_option maxRecDepth 100000
set_option linter.unusedVariables false
set_option linter.unusedSimpArgs false
open Go
namespace Go.Ev
/-- Where an instruction is afterwards; where its label is. -/
def thN (a j : Nat) : Nat := if j < a then j else j + 1
def fpN (a j : Nat) : Nat := if j ≤ a then j else j + 1
theorem laid_past {a : Nat} : ∀ {x : List (El T_api_Ins)} {k : Nat}, a < k → laidT [(a : Int)] k x = x
  | [], _, _ => rfl
  | i :: r, k, h => by
    unfold laidT
    rw [if_neg (by simp; omega), laid_past (by omega)]
theorem laid_get {a : Nat} : ∀ {x : List (El T_api_Ins)} {k : Nat}, k ≤ a → a < k + x.length →
    (laidT [(a : Int)] k x).length = x.length + 1 ∧ (∀ j, k + j < a → (laidT [(a : Int)] k x)[j]? = x[j]?) ∧ (∃ i, x[a - k]? = some i ∧ (laidT [(a : Int)] k x)[a - k]? = some (fenceI (labsOf i)) ∧ (laidT [(a : Int)] k x)[a - k + 1]? = some (withLs i [])) ∧ ∀ j, a < k + j → (laidT [(a : Int)] k x)[j + 1]? = x[j]?
  | [], k, h1, h2 => by simp at h2; omega
  | i :: r, k, h1, h2 => by
    unfold laidT
    by_cases h : k = a
    · subst h
      rw [if_pos (by simp), laid_past (by omega)]
      refine ⟨by simp, fun j hj => by omega, ⟨i, by simp, by simp, by simp⟩, fun j hj => ?_⟩
      obtain ⟨m, rfl⟩ : ∃ m, j = m + 1 := ⟨j - 1, by omega⟩
      simp
    · rw [if_neg (by simp; omega)]
      obtain ⟨e1, e2, ⟨i', e3, e4, e5⟩, e6⟩ := laid_get (a := a) (x := r) (k := k + 1) (by omega) (by simp at h2; omega)
      have hs : a - k = (a - (k + 1)) + 1 := by omega
      refine ⟨by simp [e1], fun j hj => ?_, ⟨i', ?_, ?_, ?_⟩, fun j hj => ?_⟩
      · match j with
        | 0 => rfl
        | j + 1 => rw [List.getElem?_cons_succ, List.getElem?_cons_succ]; exact e2 j (by omega)
      · rw [hs, List.getElem?_cons_succ]; exact e3
      · rw [hs, List.getElem?_cons_succ]; exact e4
      · rw [hs, List.getElem?_cons_succ]; exact e5
      · obtain ⟨m, rfl⟩ : ∃ m, j = m + 1 := ⟨j - 1, by omega⟩
        rw [List.getElem?_cons_succ, List.getElem?_cons_succ]; exact e6 m (by omega)
theorem findI_shift {label : ByteArray} : ∀ {x : List (El T_api_Ins)} {k : Nat}, findI label x (k + 1) = if findI label x k = -1 then -1 else findI label x k + 1
  | [], k => by simp [findI]
  | i :: r, k => by
    unfold findI
    split
    · rw [if_neg (by omega)]; omega
    · exact findI_shift
theorem findI_from {label : ByteArray} {x : List (El T_api_Ins)} {k : Nat} : findI label x k = -1 ∨ ((k : Int) ≤ findI label x k) := findI_ge
theorem find_laid {label : ByteArray} {a : Nat} : ∀ {x : List (El T_api_Ins)} {k : Nat}, k ≤ a → findI label (laidT [(a : Int)] k x) k = if findI label x k ≤ (a : Int) then findI label x k else findI label x k + 1
  | [], k, h => by
    unfold laidT findI
    rw [if_pos (by omega)]
  | i :: r, k, h => by
    unfold laidT
    by_cases hk : k = a
    · subst hk
      rw [if_pos (by simp), laid_past (by omega)]
      unfold findI
      by_cases hl : i.2.2.2.2.2.2.contains label = true
      · rw [if_pos hl, if_pos (show (fenceI (labsOf i)).2.2.2.2.2.2.contains label = true from hl), if_pos (Int.le_refl _)]
      · rw [if_neg hl, if_neg (show ¬ (fenceI (labsOf i)).2.2.2.2.2.2.contains label = true from hl)]
        have e : findI label (withLs i [] :: r) (k + 1) = findI label r (k + 2) := by
          conv => lhs; unfold findI
          rw [if_neg (by show ¬ (List.contains [] label = true); simp)]
        rw [e, findI_shift]
        rcases @findI_from label r (k + 1) with h1 | h1
        · rw [if_pos h1, h1, if_pos (by omega)]
        · rw [if_neg (by omega), if_neg (by omega)]
    · rw [if_neg (by simp; omega)]
      unfold findI
      by_cases hl : i.2.2.2.2.2.2.contains label = true
      · rw [if_pos hl, if_pos hl, if_pos (by omega)]
      · rw [if_neg hl, if_neg hl]
        exact find_laid (by omega)
section
variable {t : List (El T_api_Ins)} {a : Nat}
theorem laid_at (ha : a < t.length) {i : Nat} (hi : i < t.length) : ∃ ls, (laidT [(a : Int)] 0 t).getD (thN a i) (dflt T_api_Ins) = withLs (t.getD i (dflt T_api_Ins)) ls := by
  obtain ⟨e1, e2, ⟨i', e3, e4, e5⟩, e6⟩ := laid_get (a := a) (x := t) (k := 0) (Nat.zero_le _) (by omega)
  rw [List.getD_eq_getElem?_getD, List.getD_eq_getElem?_getD]
  unfold thN
  by_cases h : i < a
  · rw [if_pos h, e2 i (by omega)]
    exact ⟨labsOf _, rfl⟩
  · rw [if_neg h]
    by_cases h2 : i = a
    · subst h2
      rw [Nat.sub_zero] at e3 e4 e5
      rw [e3, e5]
      exact ⟨[], rfl⟩
    · rw [e6 i (by omega)]
      exact ⟨labsOf _, rfl⟩
theorem laid_len1 (ha : a < t.length) : (laidT [(a : Int)] 0 t).length = t.length + 1 := (laid_get (a := a) (x := t) (k := 0) (Nat.zero_le _) (by omega)).1
theorem leads_withLs (i : El T_api_Ins) (ls : List ByteArray) : v_ins_Leads (withLs i ls) = v_ins_Leads i := rfl
theorem fence_withLs (i : El T_api_Ins) (ls : List ByteArray) : v_ins_Fence (withLs i ls) = v_ins_Fence i := rfl
theorem fence_laid (ha : a < t.length) : fenceAtT (laidT [(a : Int)] 0 t) a = true := by
  obtain ⟨e1, e2, ⟨i', e3, e4, e5⟩, e6⟩ := laid_get (a := a) (x := t) (k := 0) (Nat.zero_le _) (by omega)
  rw [Nat.sub_zero] at e4
  unfold fenceAtT
  rw [List.getD_eq_getElem?_getD, e4]
  show v_ins_Fence (fenceI (labsOf i')) = true
  rfl
theorem fence_th (ha : a < t.length) {i : Nat} (hi : i < t.length) : fenceAtT (laidT [(a : Int)] 0 t) (thN a i) = fenceAtT t i := by
  obtain ⟨ls, e⟩ := laid_at ha hi
  unfold fenceAtT
  rw [e, fence_withLs]
theorem next_laid (ha : a < t.length) {i : Nat} (hi : i < t.length) (j' : Nat) : nextB (laidT [(a : Int)] 0 t) ((thN a i : Nat) : Int) j' = true ↔ ∃ j, j' = fpN a j ∧ nextB t (i : Int) j = true := by
  obtain ⟨ls, e⟩ := laid_at ha hi
  have hl := laid_len1 ha
  have hth : thN a i < t.length + 1 := by unfold thN; split <;> omega
  have hon : onOf (laidT [(a : Int)] 0 t) (thN a i) = onOf t i := by unfold onOf; rw [e, leads_withLs]
  have hto : toOf (laidT [(a : Int)] 0 t) (thN a i) = if toOf t i ≤ (a : Int) then toOf t i else toOf t i + 1 := by
    unfold toOf
    rw [e, leads_withLs]
    split
    · exact find_laid (Nat.zero_le _)
    · rw [if_pos (by omega)]
  have hr := @toOf_lt t i
  have hb : ∀ (q : List (El T_api_Ins)) (i j : Nat), nextB q (i : Int) j = true ↔ i < q.length ∧ j < q.length ∧ ((onOf q i = true ∧ j = i + 1) ∨ toOf q i = (j : Int)) := fun q i j => by
    unfold nextB
    rw [Int.toNat_natCast]
    simp only [Bool.and_eq_true, Bool.or_eq_true, decide_eq_true_eq]
    constructor
    · rintro ⟨h1, h2⟩
      exact ⟨by omega, by omega, h2.imp (fun h => ⟨h.1, by omega⟩) id⟩
    · rintro ⟨h1, h2, h3⟩
      exact ⟨by omega, h3.imp (fun h => ⟨h.1, by omega⟩) id⟩
  rw [hb, hl, hon, hto]
  constructor
  · rintro ⟨_, h2, h3 | h3⟩
    · refine ⟨i + 1, ?_, (hb _ _ _).2 ⟨hi, ?_, .inl ⟨h3.1, rfl⟩⟩⟩
      · unfold fpN thN at *; split at h3 <;> split <;> omega
      · unfold thN at h3; split at h3 <;> omega
    · refine ⟨(toOf t i).toNat, ?_, (hb _ _ _).2 ⟨hi, ?_, .inr ?_⟩⟩
      · unfold fpN; split at h3 <;> split <;> omega
      · split at h3 <;> omega
      · split at h3 <;> omega
  · rintro ⟨j, rfl, h⟩
    obtain ⟨_, h2, h3⟩ := (hb _ _ _).1 h
    refine ⟨hth, by unfold fpN; split <;> omega, ?_⟩
    rcases h3 with h3 | h3
    · left
      exact ⟨h3.1, by unfold fpN thN; split <;> split <;> omega⟩
    · right
      unfold fpN; split <;> split <;> omega
theorem ends_laid (ha : a < t.length) {s e : Nat} (hs : s < t.length) (he : e < t.length) : endsB (laidT [(a : Int)] 0 t) [] ((thN a s : Nat) : Int) (thN a e) = endsB t [(a : Int)] (s : Int) e := by
  have th_ne : ∀ j, thN a j ≠ a := fun j => by unfold thN; split <;> omega
  have th_inj : ∀ i j, thN a i = thN a j → i = j := fun i j h => by unfold thN at h; split at h <;> split at h <;> omega
  have fp_th : ∀ j, j ≠ a → fpN a j = thN a j := fun j h => by unfold fpN thN; split <;> split <;> omega
  have fp_a : fpN a a = a := by unfold fpN; simp
  have nc : ∀ j : Nat, [(a : Int)].contains (j : Int) = false ↔ j ≠ a := fun j => by
    rw [← Bool.not_eq_true, List.contains_iff_mem]; simp; omega
  rw [Bool.eq_iff_iff]
  unfold endsB
  rw [comeB_iff, comeB_iff]
  constructor
  · intro h
    have key : ∀ j', Come (stepB (laidT [(a : Int)] 0 t) []) (firstB (laidT [(a : Int)] 0 t) [] ((thN a s : Nat) : Int)) j' → j' = a ∨ ∃ j, j < t.length ∧ j' = thN a j ∧ Come (stepB t [(a : Int)]) (firstB t [(a : Int)] (s : Int)) j := by
      intro j' h
      induction h with
      | @start j' h =>
        unfold firstB at h
        rw [Bool.and_eq_true] at h
        obtain ⟨j, rfl, hj⟩ := (next_laid ha hs j').1 h.1
        by_cases hja : j = a
        · subst hja; exact .inl fp_a
        · refine .inr ⟨j, nextB_lt hj, fp_th j hja, .start ?_⟩
          unfold firstB
          rw [Bool.and_eq_true]
          exact ⟨hj, by rw [(nc j).2 hja]; rfl⟩
      | @step k' j' _ h ih =>
        unfold stepB at h
        simp only [Bool.and_eq_true] at h
        obtain ⟨h1, h2, _⟩ := h
        rcases ih with rfl | ⟨k, hk, rfl, hc⟩
        · rw [fence_laid ha] at h1; cases h1
        · rw [fence_th ha hk] at h1
          obtain ⟨j, rfl, hj⟩ := (next_laid ha hk j').1 h2
          by_cases hja : j = a
          · subst hja; exact .inl fp_a
          · refine .inr ⟨j, nextB_lt hj, fp_th j hja, .step hc ?_⟩
            unfold stepB
            simp only [Bool.and_eq_true]
            exact ⟨h1, hj, by rw [(nc j).2 hja]; rfl⟩
    rcases key _ h with h | ⟨j, _, h, hc⟩
    · exact absurd h (th_ne e)
    · rw [th_inj _ _ h]; exact hc
  · intro h
    have key : ∀ j, Come (stepB t [(a : Int)]) (firstB t [(a : Int)] (s : Int)) j → j < t.length ∧ Come (stepB (laidT [(a : Int)] 0 t) []) (firstB (laidT [(a : Int)] 0 t) [] ((thN a s : Nat) : Int)) (thN a j) := by
      intro j h
      induction h with
      | @start j h =>
        unfold firstB at h
        simp only [Bool.and_eq_true, Bool.not_eq_true'] at h
        have hja := (nc j).1 h.2
        refine ⟨nextB_lt h.1, .start ?_⟩
        unfold firstB
        rw [Bool.and_eq_true]
        exact ⟨(next_laid ha hs _).2 ⟨j, (fp_th j hja).symm, h.1⟩, by simp⟩
      | @step k j _ h ih =>
        unfold stepB at h
        simp only [Bool.and_eq_true, Bool.not_eq_true'] at h
        obtain ⟨h1, h2, h3⟩ := h
        have hja := (nc j).1 h3
        refine ⟨nextB_lt h2, .step ih.2 ?_⟩
        unfold stepB
        simp only [Bool.and_eq_true, Bool.not_eq_true']
        exact ⟨by rw [fence_th ha ih.1]; exact h1, (next_laid ha ih.1 _).2 ⟨j, (fp_th j hja).symm, h2⟩, by simp⟩
    exact (key _ h).2
end
end Go.Ev
end

section
set_option linter.unusedSectionVars false
set_option linter.unusedVariables false
set_option linter.unusedSimpArgs false
/- The book's programs have few of all. -/
set_option maxRecDepth 100000
set_option linter.unusedVariables false
set_option linter.unusedSimpArgs false
namespace Go.Ev
open Go
theorem few_book (l : List (List (El T_book_Act))) {threads many : Int} (h0 : 0 ≤ threads) (h1 : threads ≤ 64) (m0 : 0 ≤ many) (m1 : many ≤ 90) : Few (v_book_Prog l threads many) 91 := by
  have mem : ∀ t ∈ (v_book_Prog l threads many).2, ∃ a : List (El T_book_Act), t = threadB a (min a.length many.toNat) := fun t hm => by
    obtain ⟨a, _, rfl⟩ := List.mem_map.1 (show t ∈ (l.take threads.toNat).map fun a => threadB a (min a.length many.toNat) from hm)
    exact ⟨a, rfl⟩
  have len : ∀ t ∈ (v_book_Prog l threads many).2, List.length t ≤ 91 := fun t hm => by
    obtain ⟨a, rfl⟩ := mem t hm
    show (threadB a _).length ≤ 91
    unfold threadB
    rw [withL_len, baseT_len a _ (by omega)]
    omega
  refine ⟨show symsB.length ≤ 1000 by decide, show ∀ s ∈ symsB, List.length s.2.2 ≤ 1000 by decide +kernel, ?_, len, fun t hm => ?_⟩
  · show ((l.take threads.toNat).map fun a => threadB a (min a.length many.toNat)).length ≤ 1000
    rw [List.length_map, List.length_take]; omega
  · have hl := len t hm
    obtain ⟨a, rfl⟩ := mem t hm
    have := labels_le (t := threadB a (min a.length many.toNat)) (n := 1) fun i hi => by
      obtain ⟨k, hk, rfl⟩ := List.mem_iff_getElem.1 hi
      have hg := withL_get (s := sAt (baseT a (min a.length many.toNat)) (min a.length many.toNat)) (b := baseT a (min a.length many.toNat)) hk
      have hg' : (threadB a (min a.length many.toNat))[k] = _ := hg
      rw [hg']
      show (if sAt (baseT a (min a.length many.toNat)) (min a.length many.toNat) k then [v_book_label (k : Int)] else []).length ≤ 1
      split <;> simp
    omega
structure BookLaid (p : El T_api_Prog) : Prop where
  chk : checkC p = 0
  small : smallProg p = true
  few : Few p 91
theorem book_laid (l : List (List (El T_book_Act))) {threads many : Int} (h0 : 0 ≤ threads) (h1 : threads ≤ 64) (m0 : 0 ≤ many) (m1 : many ≤ 90) : BookLaid (v_book_Prog l threads many) ∧ k_book_Prog l threads many = true :=
  ⟨⟨(book_valid l h0 h1 m0 m1).1, (book_valid l h0 h1 m0 m1).2.1, few_book l h0 h1 m0 m1⟩, (book_valid l h0 h1 m0 m1).2.2⟩
end Go.Ev
end

section
set_option linter.unusedSectionVars false
set_option linter.unusedVariables false
set_option linter.unusedSimpArgs false
set_option maxRecDepth 100000
set_option linter.unusedVariables false
set_option linter.unusedSimpArgs false
namespace Go.Ev
open Go
theorem there_one {a i : Nat} (ha : a < 1000) (hi : i < 1000) : thereC [(a : Int)] (i : Int) = ((thN a i : Nat) : Int) := by
  have hr : rising [(a : Int)] = true := rising_spec.2 ⟨fun x hx => by simp at hx; subst hx; omega, by simp⟩
  unfold thereC
  rw [hr, if_neg (by simp; omega)]
  unfold upTo thN
  simp only [List.countP_cons, List.countP_nil]
  by_cases h : i < a
  · rw [if_pos h, if_neg (by simp; omega)]; simp
  · rw [if_neg h, if_pos (by simp; omega)]; omega
theorem fences_true (l : List (El T_book_Act)) (at_ s e : Int) : k_law21_RoadFences l at_ s e = true ∧ v_law21_RoadFences l at_ s e = true := by
  obtain ⟨ka, va⟩ := alive21
  obtain ⟨hb, _⟩ := book_laid [l] (threads := 1) (many := 9) (by omega) (by omega) (by omega) (by omega)
  obtain ⟨t, hP, ht1, ht2, hsm, hf, kp⟩ := book_one l (many := 9) (by omega) (by omega)
  have hg : List.getD (v_book_Prog [l] (1 : Int) (9 : Int)).2 0 (dflt (.sl T_api_Ins)) = t := by rw [hP]; rfl
  have hlen := flowOK_len hf
  obtain ⟨k1, a0, a1⟩ := pick_lt (n := at_) (m := Int.ofNat t.length) (by simp; omega) (by simp; omega)
  obtain ⟨k2, s0, s1⟩ := pick_lt (n := s) (m := Int.ofNat t.length) (by simp; omega) (by simp; omega)
  obtain ⟨k3, e0, e1⟩ := pick_lt (n := e) (m := Int.ofNat t.length) (by simp; omega) (by simp; omega)
  have hl0 : decide ((0 : Int) < Int.ofNat (List.length (v_book_Prog [l] (1 : Int) (9 : Int)).2)) = true := by rw [hP]; rfl
  unfold k_law21_RoadFences v_law21_RoadFences
  simp only [hg, kp, hl0, k1, k2, k3, cond_true]
  generalize v_book_Pick at_ (Int.ofNat t.length) = a at *
  generalize v_book_Pick s (Int.ofNat t.length) = s at *
  generalize v_book_Pick e (Int.ofNat t.length) = e at *
  obtain ⟨a, rfl⟩ := Int.eq_ofNat_of_zero_le a0
  obtain ⟨s, rfl⟩ := Int.eq_ofNat_of_zero_le s0
  obtain ⟨e, rfl⟩ := Int.eq_ofNat_of_zero_le e0
  have ha : a < t.length := by simp at a1; omega
  have hs : s < t.length := by simp at s1; omega
  have he : e < t.length := by simp at e1; omega
  have k4 : k_ref3_Weave (v_book_Prog [l] (1 : Int) (9 : Int)) [[(a : Int)]] = true := by
    unfold k_ref3_Weave
    rw [hb.small, few_copy hb.few (by omega)]
    rfl
  have hr : rising [(a : Int)] = true := rising_spec.2 ⟨fun x hx => by simp at hx; subst hx; omega, by simp⟩
  have hw : v_ref3_Weave (v_book_Prog [l] (1 : Int) (9 : Int)) [[(a : Int)]] = (((v_book_Prog [l] (1 : Int) (9 : Int)).1, [laidT [(a : Int)] 0 t]), true) := by
    show inC _ _ = _
    unfold inC
    rw [hP, if_neg]
    · rfl
    · rintro (h | h | h)
      · exact h hb.chk
      · simp at h
      · unfold okAll okPts okAll at h
        rw [hr] at h
        simp at h
        omega
  have hq : flowOK (laidT [(a : Int)] 0 t) = true := small_flow' (small_laid hsm (by omega) 0)
  have hql := laid_len1 ha
  obtain ⟨f1, f2⟩ := free_road (points := [(a : Int)]) hf (by simp) (s : Int) (e : Int)
  have hths : thN a s < t.length + 1 := by unfold thN; split <;> omega
  have hthe : thN a e < t.length + 1 := by unfold thN; split <;> omega
  obtain ⟨g1, g2⟩ := free_road (points := []) hq (by simp) ((thN a s : Nat) : Int) ((thN a e : Nat) : Int)
  have t1 : k_ref3_There [(a : Int)] (s : Int) = true := rfl
  have t2 : k_ref3_There [(a : Int)] (e : Int) = true := rfl
  have u1 : v_ref3_There [(a : Int)] (s : Int) = ((thN a s : Nat) : Int) := there_one (by omega) (by omega)
  have u2 : v_ref3_There [(a : Int)] (e : Int) = ((thN a e : Nat) : Int) := there_one (by omega) (by omega)
  have hgq : List.getD [laidT [(a : Int)] 0 t] 0 (dflt (.sl T_api_Ins)) = laidT [(a : Int)] 0 t := rfl
  have hsame : v_road_Free t [(a : Int)] (s : Int) (e : Int) = v_road_Free (laidT [(a : Int)] 0 t) [] ((thN a s : Nat) : Int) ((thN a e : Nat) : Int) := by
    rw [f2, g2, Int.toNat_natCast, Int.toNat_natCast, ends_laid ha hs he, hql, decide_eq_true (by omega), decide_eq_true (by omega)]
  simp only [k4, hw, Bool.not_true, cond_false, cond_true, f1, t1, t2, u1, u2, hgq, g1, hsame, beq_self_eq_true, ka, va]
  exact ⟨by rfl, by rfl⟩
theorem call_law21_RoadFences (a : Args sg_law21_RoadFences) (ha : smallArgs sg_law21_RoadFences a) : CallOK Go.Proofs.Tryz.prog fid_law21_RoadFences (toForms sg_law21_RoadFences a) (.d .bool true, tps (toForms sg_law21_RoadFences a)) := by
  obtain ⟨l, at_, s, e, _⟩ := a
  obtain ⟨hk, hv⟩ := fences_true l at_ s e
  have := co_law21_RoadFences l at_ s e hk
  rw [hv] at this
  exact this
end Go.Ev
end

/- Part of the proof of: The delays of a program, and those that are open, are what the document says, of any program that is not great, also one that may not be: for every input the law answers true. -/
import Derived.Test.YtgdfhjnbdmgjmaaGreatDoorCon2
set_option maxRecDepth 100000
set_option linter.unusedSectionVars false
set_option linter.unusedVariables false
set_option linter.unusedSimpArgs false
section
namespace Go.Ev
open Go
theorem great_few {p : El T_api_Prog} (h : v_book_Great p = false) : smallAll p = true ∧ (ofC p).length ≤ 1584 := by
  have hp := great_prog h
  unfold v_book_Great at h
  simp only [Bool.or_eq_false_iff, decide_eq_false_iff_not, List.any_eq_false, Bool.not_eq_true] at h
  have ht := total_leX (l := p.2) (n := 12) fun t hm => by
    have := h.2.2.2 t hm
    unfold v_book_GreatThread at this
    simp only [Bool.or_eq_false_iff, decide_eq_false_iff_not] at this
    omega
  have ho := @ofC_le p
  have h2 := h.2.1
  refine ⟨?_, by omega⟩
  unfold smallAll
  simp only [Bool.and_eq_true, decide_eq_true_eq]
  exact ⟨hp, by omega, by omega⟩
end Go.Ev
end

section
namespace Go.Ev
open Go
theorem delayRaw_true (p : El T_api_Prog) : k_law24_DelayRaw p = true ∧ v_law24_DelayRaw p = true := by
  obtain ⟨ka, va⟩ := alive24
  unfold k_law24_DelayRaw v_law24_DelayRaw
  simp only [ka, va]
  cases hg : v_book_Great p with
  | true => exact ⟨rfl, rfl⟩
  | false =>
    cases ht : decide ((Int.ofNat (List.length p.2)) > (6 : Int)) with
    | true => exact ⟨rfl, rfl⟩
    | false =>
      have ht := of_decide_eq_false ht
      have hT : p.2.length ≤ 100 := by
        have : ¬ ((p.2.length : Int) > 6) := ht
        omega
      obtain ⟨g1, g2⟩ := great_few hg
      obtain ⟨a1, a2, a3, a4, a5, a6, a7, a8⟩ := delays_all g1 (by omega) hT
      have hS : ∀ x, v_book_SamePairs x x = true := fun x => decide_eq_true rfl
      simp only [a1, a2, a3, a4, a5, a6, a7, a8, hS, cond_true, cond_false, and_self]
theorem call_law24_DelayRaw (a : Args sg_law24_DelayRaw) (ha : smallArgs sg_law24_DelayRaw a) : CallOK Go.Proofs.Tryz.prog fid_law24_DelayRaw (toForms sg_law24_DelayRaw a) (.d .bool true, tps (toForms sg_law24_DelayRaw a)) := by
  obtain ⟨p, _⟩ := a
  obtain ⟨hk, hv⟩ := delayRaw_true p
  have := co_law24_DelayRaw p hk
  rw [hv] at this
  exact this
end Go.Ev
end

/- Part of the proof of: For every program, what is locked is neither among the stores nor among the loads of its thread, and all else that writes, or reads, is among them: the law answers true for every input. -/
import Derived.Test.YtlppmbooakcmaaaDoorEng1
section
set_option linter.unusedSectionVars false
set_option linter.unusedVariables false
set_option linter.unusedSimpArgs false
/- Lemmas for proofs over the printed trees. -/
set_option linter.unusedVariables false
namespace Go.Ev
open Go

theorem wrap_i64 {n : Int} (h0 : -9223372036854775808 ≤ n) (h1 : n < 9223372036854775808) : IntKind.i64.wrap n = n := by
  have e : IntKind.i64.wrap n = if n % 18446744073709551616 ≥ 9223372036854775808 then n % 18446744073709551616 - 18446744073709551616 else n % 18446744073709551616 := by
    unfold IntKind.wrap
    simp [IntKind.signed, IntKind.bits]
  rw [e]
  split <;> omega
theorem wrap_succ {k : Nat} (h : k < 4611686018427387904) : IntKind.i64.wrap ((k : Int) + 1) = ((k + 1 : Nat) : Int) := by
  rw [wrap_i64 (by omega) (by omega)]; omega
theorem wrap_pred {k : Nat} (h : k < 4611686018427387904) (h0 : 0 < k) : IntKind.i64.wrap ((k : Int) - 1) = ((k - 1 : Nat) : Int) := by
  rw [wrap_i64 (by omega) (by omega)]; omega

theorem lt_len {k n : Nat} (h : k < n) : decide ((k : Int) < Int.ofNat n) = true := by simp; omega
theorem lt_len_not {k n : Nat} (h : ¬ k < n) : decide ((k : Int) < Int.ofNat n) = false := by simp; omega
theorem bound_len {k n : Nat} (h : k < n) : (decide ((0 : Int) ≤ (k : Int)) && decide ((k : Int) < Int.ofNat n)) = true := by simp; omega
theorem nng {k : Nat} : decide ((0 : Int) ≤ (k : Int)) = true := by simp
theorem gt_len {n c : Nat} : decide (Int.ofNat n > (c : Int)) = decide (c < n) := by simp
theorem lt_len' {n m : Nat} : decide ((n : Int) < Int.ofNat m) = decide (n < m) := by simp
theorem getD_lt {α : Type} {l : List α} {k : Nat} {d : α} (h : k < l.length) : List.getD l k d = l[k] := by simp [List.getD, h]
theorem eqB_iff {a b : ByteArray} : eqB a b = true ↔ a = b := by
  unfold eqB
  simp only [beq_iff_eq]
  constructor
  · intro h; cases a; cases b; simp only [Array.toList_inj] at h; simp_all
  · rintro rfl; rfl
theorem eqB_eq {a b : ByteArray} : eqB a b = decide (a = b) := by
  rw [Bool.eq_iff_iff, eqB_iff, decide_eq_true_iff]

instance elDec : (t : Ty) → DecidableEq (El t)
  | .int _ => inferInstanceAs (DecidableEq Int)
  | .bool => inferInstanceAs (DecidableEq Bool)
  | .str => inferInstanceAs (DecidableEq ByteArray)
  | .sl t => @instDecidableEqList _ (elDec t)
  | .pr a b => @instDecidableEqProd _ _ (elDec a) (elDec b)
  | .un => inferInstanceAs (DecidableEq Unit)

def same (t : Ty) (a b : El t) : Bool := @decide (a = b) (elDec t a b)
theorem same_iff {t : Ty} {a b : El t} : same t a b = true ↔ a = b := @decide_eq_true_iff _ (elDec t a b)
theorem same_eq {t : Ty} {a b : El t} [d : Decidable (a = b)] : same t a b = decide (a = b) := by
  rw [Bool.eq_iff_iff, same_iff, decide_eq_true_iff]
/-- The first place of a text in a list, from k on. -/
def findFrom (s : ByteArray) : List ByteArray → Nat → Option Nat
  | [], _ => none
  | x :: r, k => if x = s then some k else findFrom s r (k + 1)

/-- Down from the end. -/
theorem down {n : Nat} {P : Nat → Prop} (hend : P n) (hstep : ∀ k, k < n → P (k + 1) → P k) : ∀ k, k ≤ n → P k := by
  intro k hk
  obtain ⟨m, rfl⟩ : ∃ m, n = k + m := ⟨n - k, by omega⟩
  induction m generalizing k with
  | zero => exact hend
  | succ m ih => exact hstep k (by omega) (ih (k + 1) (by rw [show k + 1 + m = k + (m + 1) by omega]; exact hend) (fun j hj h => hstep j (by omega) h) (by omega))

/-- A place where a list has a thing, from k on. -/
theorem drop_cons {α : Type} {l : List α} {k : Nat} (h : k < l.length) : l.drop k = l[k] :: l.drop (k + 1) := List.drop_eq_getElem_cons h
end Go.Ev
end

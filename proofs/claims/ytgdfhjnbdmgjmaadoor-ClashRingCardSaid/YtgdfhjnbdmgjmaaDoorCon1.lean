/- Part of the proof of: Over a ring of threads, each of which reads one symbol and then writes the next one, but for one that writes first, a chain leads from what that one writes to what it reads and not back, and from what another one writes back to itself alone: for every input the law answers true. -/
import Derived.Shelf.Slices.In.SortNone
import Derived.Shelf.Sort.Plain
import Derived.Test.YtgdfhjnbdmgjmaaDoorCon0
section
set_option linter.unusedSectionVars false
set_option linter.unusedVariables false
set_option linter.unusedSimpArgs false
/- Which accesses clash, and over which chains one comes back. -/
set_option maxRecDepth 100000
set_option linter.unusedVariables false
set_option linter.unusedSimpArgs false
open Go
namespace Go.Ev
abbrev Acc := El T_api_Access
def accA (l : List Acc) (i : Nat) : Acc := l.getD i (dflt T_api_Access)
def thA (l : List Acc) (i : Nat) : Int := (accA l i).1
def inA (l : List Acc) (i : Nat) : Int := (accA l i).2.1
def paA (l : List Acc) (i : Nat) : Int := (accA l i).2.2.1
def clB (l : List Acc) (i j : Nat) : Bool := v_clash_clash (accA l i) (accA l j)
/-- The thread of an access. -/
def thrOf (p : El T_api_Prog) (l : List Acc) (c : Nat) : List (El T_api_Ins) := p.2.getD (thA l c).toNat (dflt (.sl T_api_Ins))
/-- Does access d follow c, or is it c? -/
noncomputable def behB (p : El T_api_Prog) (l : List Acc) (c d : Nat) : Bool :=
  decide (d < l.length) && (thA l d == thA l c && (d == c || ((inA l d == inA l c && decide (paA l d > paA l c)) || (decide (0 ≤ inA l d) && fromB (thrOf p l c) (inA l c) (inA l d).toNat))))
theorem behB_lt {p : El T_api_Prog} {l : List Acc} {c d : Nat} (h : behB p l c d = true) : d < l.length ∧ thA l d = thA l c := by
  unfold behB at h
  simp only [Bool.and_eq_true, decide_eq_true_eq, beq_iff_eq] at h
  exact ⟨h.1, h.2.1⟩
theorem behB_self {p : El T_api_Prog} {l : List Acc} {c : Nat} (h : c < l.length) : behB p l c c = true := by
  unfold behB
  simp [h]
theorem from_trans {t : List (El T_api_Ins)} {i : Int} {j k : Nat} (h1 : fromB t i j = true) (h2 : fromB t (j : Int) k = true) : fromB t i k = true := by
  unfold fromB at *
  rw [comeB_iff] at *
  induction h2 with
  | start h => exact .step h1 h
  | step _ h ih => exact .step ih h
theorem behB_trans {p : El T_api_Prog} {l : List Acc} {c d e : Nat} (h1 : behB p l c d = true) (h2 : behB p l d e = true) : behB p l c e = true := by
  unfold behB at *
  have ht : thrOf p l d = thrOf p l c := by
    simp only [Bool.and_eq_true, beq_iff_eq] at h1
    unfold thrOf
    rw [h1.2.1]
  rw [ht] at h2
  simp only [Bool.and_eq_true, Bool.or_eq_true, decide_eq_true_eq, beq_iff_eq] at *
  obtain ⟨a1, a2, a3⟩ := h1
  obtain ⟨b1, b2, b3⟩ := h2
  refine ⟨b1, b2.trans a2, ?_⟩
  rcases a3 with rfl | a3
  · exact b3
  rcases b3 with rfl | b3
  · exact .inr a3
  right
  rcases a3 with ⟨a3, a4⟩ | ⟨a3, a4⟩
  · rcases b3 with ⟨b3, b4⟩ | ⟨b3, b4⟩
    · exact .inl ⟨b3.trans a3, by omega⟩
    · right
      rw [a3] at b4
      exact ⟨b3, b4⟩
  · right
    rcases b3 with ⟨b3, b4⟩ | ⟨b3, b4⟩
    · rw [b3]
      exact ⟨a3, a4⟩
    · refine ⟨b3, from_trans a4 ?_⟩
      rw [Int.toNat_of_nonneg a3]
      exact b4
/-- Chains: to which accesses of other threads one comes from a. -/
noncomputable def chB (p : El T_api_Prog) (l : List Acc) (a i k : Nat) : Bool := decide (k < l.length) && (!(thA l k == thA l a) && (clB l i k || behB p l i k))
def chS (l : List Acc) (a k : Nat) : Bool := decide (k < l.length) && clB l a k
noncomputable def isB (p : El T_api_Prog) (l : List Acc) (a k : Nat) : Bool := comeB (chB p l a) (chS l a) k
noncomputable def backB (p : El T_api_Prog) (l : List Acc) (a b : Nat) : Bool := thA l b == thA l a && (List.range l.length).any fun k => isB p l a k && clB l k b
theorem clB_th {l : List Acc} {i j : Nat} (h : clB l i j = true) : thA l i ≠ thA l j := by
  intro e
  unfold clB v_clash_clash at h
  have : ((accA l i).1 != (accA l j).1) = false := by
    show ((thA l i) != (thA l j)) = false
    rw [e]; simp
  rw [this] at h
  cases h
theorem is_lt {p : El T_api_Prog} {l : List Acc} {a k : Nat} (h : isB p l a k = true) : k < l.length ∧ thA l k ≠ thA l a := by
  have h := comeB_iff.1 h
  cases h with
  | start h =>
    unfold chS at h
    simp only [Bool.and_eq_true, decide_eq_true_eq] at h
    exact ⟨h.1, fun e => clB_th h.2 e.symm⟩
  | step _ h =>
    unfold chB at h
    simp only [Bool.and_eq_true, decide_eq_true_eq, Bool.not_eq_true', beq_eq_false_iff_ne] at h
    exact ⟨h.1, h.2.1⟩
/-- What is gone to, and come to, is what the chains come to. -/
theorem gone_is {p : El T_api_Prog} {l : List Acc} {a : Nat} {C G : Nat → Bool} (hC : ∀ c, C c = true ↔ c < l.length ∧ thA l c ≠ thA l a ∧ (clB l a c = true ∨ ∃ k, G k = true ∧ clB l k c = true)) (hG : ∀ d, G d = true ↔ ∃ c, C c = true ∧ behB p l c d = true)
    (hs : ∀ d, G d = true → isB p l a d = true) (d : Nat) : G d = isB p l a d := by
  refine comeB_eq (fun j hj => ?_) (fun k j hk hj => ?_) (fun j hj => comeB_iff.1 (hs j hj)) d
  · unfold chS at hj
    simp only [Bool.and_eq_true, decide_eq_true_eq] at hj
    exact (hG j).2 ⟨j, (hC j).2 ⟨hj.1, fun e => clB_th hj.2 e.symm, .inl hj.2⟩, behB_self hj.1⟩
  · unfold chB at hj
    simp only [Bool.and_eq_true, decide_eq_true_eq, Bool.not_eq_true', beq_eq_false_iff_ne, Bool.or_eq_true] at hj
    obtain ⟨h1, h2, h3⟩ := hj
    rcases h3 with h3 | h3
    · exact (hG j).2 ⟨j, (hC j).2 ⟨h1, h2, .inr ⟨k, hk, h3⟩⟩, behB_self h1⟩
    · obtain ⟨c, hc, hb⟩ := (hG k).1 hk
      exact (hG j).2 ⟨c, hc, behB_trans hb h3⟩
variable {s : Int × List (Int × Int)} {n : Nat} {M : Nat → Bool}
theorem SetOK.putO (h : SetOK s n M) (hn : n < 4611686018427387904) {j : Nat} (hj : j < n) : (putS s (j : Int)).1 = (!M j) ∧ SetOK (putS s (j : Int)).2 n (fun k => M k || (k == j)) := by
  cases hb : M j with
  | false =>
    obtain ⟨p1, p2⟩ := h.put hn hj hb
    exact ⟨p1, p2⟩
  | true =>
    rw [h.put_no hn (i := (j : Int)) fun hh => by rw [Int.toNat_natCast, hb] at hh; cases hh.2.2]
    refine ⟨rfl, ?_⟩
    rw [show (fun k => M k || (k == j)) = M from funext fun k => by
      by_cases hk : k = j
      · subst hk; rw [hb]; rfl
      · have : (k == j) = false := by simp; omega
        rw [this, Bool.or_false]]
    exact h
theorem SetOK.congr' {M' : Nat → Bool} (h : SetOK s n M) (e : ∀ j, M j = M' j) : SetOK s n M' := by rwa [show M' = M from funext fun j => (e j).symm]
/-- The rest of a list of what is so. -/
def listR (n : Nat) (M : Nat → Bool) (h : Nat) : List Int := ((List.range' h (n - h)).filter M).map Int.ofNat
theorem listR_zero : listR n M 0 = listOf n M := by unfold listR listOf; rw [List.range_eq_range', Nat.sub_zero]
theorem listR_end : listR n M n = [] := by unfold listR; rw [Nat.sub_self]; rfl
theorem listR_step {h : Nat} (hh : h < n) : listR n M h = if M h = true then (h : Int) :: listR n M (h + 1) else listR n M (h + 1) := by
  unfold listR
  rw [show n - h = (n - (h + 1)) + 1 by omega, List.range'_succ, List.filter_cons]
  split <;> rfl
end Go.Ev
end

section
set_option linter.unusedSectionVars false
set_option linter.unusedVariables false
set_option linter.unusedSimpArgs false
set_option maxRecDepth 100000
set_option linter.unusedVariables false
set_option linter.unusedSimpArgs false
open Go
namespace Go.Ev
abbrev SetT := Int × List (Int × Int)
/-- One access is met, or not. -/
def meet1 (l : List Acc) (x own a : Int) (h : Nat) (s : SetT × List Int × SetT) : SetT × List Int × SetT :=
  if clB l x.toNat h = true then
    (if thA l h ≠ own then ((putS s.1 (h : Int)).2, (if (putS s.1 (h : Int)).1 = true then s.2.1 ++ [(h : Int)] else s.2.1), s.2.2)
     else if x ≠ a then (s.1, s.2.1, (putS s.2.2 (h : Int)).2) else s)
  else s
def meetF (l : List Acc) (x own a : Int) : List Nat → SetT × List Int × SetT → SetT × List Int × SetT
  | [], s => s
  | h :: r, s => meetF l x own a r (meet1 l x own a h s)
def v_clash_Back_1 (x : Int) (l : List (El T_api_Access)) (own : Int) (come : SetT) (open_ : List Int) (a : Int) (back : SetT) : (List (El T_api_Access)) × Int × SetT × (List Int) × Int × SetT :=
  (l, own, (meetF l x own a (List.range' 0 l.length) (come, open_, back)).1, (meetF l x own a (List.range' 0 l.length) (come, open_, back)).2.1, a, (meetF l x own a (List.range' 0 l.length) (come, open_, back)).2.2)
def k_clash_Back_1 (x : Int) (l : List (El T_api_Access)) (own : Int) (come : SetT) (open_ : List Int) (a : Int) (back : SetT) : Bool := decide (0 ≤ x ∧ x < (l.length : Int) ∧ l.length < 1099511627776 ∧ open_.length < 1099511627776)
theorem g_clash_Back_1 (x : Int) (l : List (El T_api_Access)) (own : Int) (come : SetT) (open_ : List Int) (a : Int) (back : SetT) (hk : k_clash_Back_1 x l own come open_ a back = true) : Goes (T_clash_Back_1 x l own come open_ a back) (T0_clash_Back_1 x l own come open_ a back) (v_clash_Back_1 x l own come open_ a back) := by
  obtain ⟨x0, x1, hN, hO⟩ := of_decide_eq_true hk
  obtain ⟨T, hT⟩ : ∃ T, T = T_clash_Back_1 x l own come open_ a back := ⟨_, rfl⟩
  rw [← hT]
  have loop : ∀ h, h ≤ l.length → ∀ s : SetT × List Int × SetT, s.2.1.length ≤ open_.length + h → Goes T (.jmp (.l1 (h : Int) s.1.1 s.2.1 s.1.2 s.2.2.1 s.2.2.2)) (l, own, (meetF l x own a (List.range' h (l.length - h)) s).1, (meetF l x own a (List.range' h (l.length - h)) s).2.1, a, (meetF l x own a (List.range' h (l.length - h)) s).2.2) := by
    refine down ?_ fun h hh ih => ?_
    · intro s hs
      rw [goes_jmp, hT, T_clash_Back_1, ← hT, goes_br, if_neg (by rw [lt_len_not (Nat.lt_irrefl _)]; decide), Nat.sub_self]
      exact .leaf
    · intro s hs
      have hx1 : decide ((0 : Int) ≤ x) = true := decide_eq_true x0
      have hx2 : decide (x < Int.ofNat l.length) = true := decide_eq_true x1
      rw [show l.length - h = (l.length - (h + 1)) + 1 by omega, List.range'_succ, meetF]
      have ec : v_clash_clash (List.getD l x.toNat (dflt T_api_Access)) (List.getD l h (dflt T_api_Access)) = clB l x.toNat h := rfl
      have et : (List.getD l h (dflt T_api_Access)).1 = thA l h := rfl
      have hp : v_bits_Set_Put (s.1.1, s.1.2) (h : Int) = putS s.1 (h : Int) := rfl
      have hp2 : v_bits_Set_Put (s.2.2.1, s.2.2.2) (h : Int) = putS s.2.2 (h : Int) := rfl
      have b1 : Nat.ble ((s.2.1.length + 1) * 8) limit = true := Nat.ble_eq_true_of_le (by unfold limit; omega)
      have key := ih (meet1 l x own a h s)
      rw [goes_jmp, hT, T_clash_Back_1, ← hT]
      simp only [goes_br, lt_len hh, nng, hx1, hx2, Bool.and_self, if_true, Int.toNat_natCast, ec, et, hp, hp2, b1, wrap_succ (k := h) (by omega)]
      by_cases c1 : clB l x.toNat h = true
      · rw [if_neg (by rw [c1]; decide)]
        by_cases c2 : thA l h = own
        · rw [if_neg (by simp [c2])]
          by_cases c3 : x = a
          · have hm : meet1 l x own a h s = s := by unfold meet1; rw [if_pos c1, if_neg (by simp [c2]), if_neg (by simp [c3])]
            rw [hm] at key ⊢
            rw [if_neg (by simp [c3])]
            exact key (by omega)
          · have hm : meet1 l x own a h s = (s.1, s.2.1, (putS s.2.2 (h : Int)).2) := by unfold meet1; rw [if_pos c1, if_neg (by simp [c2]), if_pos c3]
            rw [hm] at key ⊢
            rw [if_pos (by simpa using c3)]
            exact key (by show s.2.1.length ≤ _; omega)
        · rw [if_pos (by simpa using c2)]
          by_cases c4 : (putS s.1 (h : Int)).1 = true
          · have hm : meet1 l x own a h s = ((putS s.1 (h : Int)).2, s.2.1 ++ [(h : Int)], s.2.2) := by unfold meet1; rw [if_pos c1, if_pos c2, if_pos c4]
            rw [hm] at key ⊢
            rw [if_pos c4]
            exact key (by show (s.2.1 ++ [(h : Int)]).length ≤ _; simp; omega)
          · have hm : meet1 l x own a h s = ((putS s.1 (h : Int)).2, s.2.1, s.2.2) := by unfold meet1; rw [if_pos c1, if_pos c2, if_neg c4]
            rw [hm] at key ⊢
            rw [if_neg c4]
            exact key (by show s.2.1.length ≤ _; omega)
      · have hm : meet1 l x own a h s = s := by unfold meet1; rw [if_neg c1]
        rw [hm] at key ⊢
        rw [if_pos (by simpa using c1)]
        exact key (by omega)
  exact loop 0 (Nat.zero_le _) (come, open_, back) (by simp)
end Go.Ev
end

section
set_option linter.unusedSectionVars false
set_option linter.unusedVariables false
set_option linter.unusedSimpArgs false
set_option maxRecDepth 100000
set_option linter.unusedVariables false
open Go Go.Ev
namespace Go.Ev
noncomputable section
noncomputable def e_clash_Back_1 : Run := entO sg_clash_Back_1 K_clash_Back_1 (fun a => k_clash_Back_1 a.1 a.2.1 a.2.2.1 a.2.2.2.1 a.2.2.2.2.1 a.2.2.2.2.2.1 a.2.2.2.2.2.2.1) (fun a => v_clash_Back_1 a.1 a.2.1 a.2.2.1 a.2.2.2.1 a.2.2.2.2.1 a.2.2.2.2.2.1 a.2.2.2.2.2.2.1)
theorem ok_clash_Back_1 : EntOK Go.Proofs.Tryd.prog 23 e_clash_Back_1 := entO_ok (tb := tb_clash_Back_1) (c := c_clash_Back_1) (noRun_ok (known_of (fn := Go.Proofs.Tryd.f23) (c := c_clash_Back_1) (by kernel_rfl) (by kernel_rfl) (by kernel_rfl))) tk_clash_Back_1 (by kernel_rfl) (by kernel_rfl) (fun a => by kernel_rfl) fun ⟨x, l, own, come, open_, a, back, _⟩ hk => evF_goes (c := c_clash_Back_1) (K := K_clash_Back_1) (S := S_clash_Back_1 x l own come open_ a back) (by kernel_rfl) (en_clash_Back_1 x l own come open_ a back) (lp_clash_Back_1 x l own come open_ a back) (g_clash_Back_1 x l own come open_ a back hk)
end
end Go.Ev
end

section
set_option linter.unusedSectionVars false
set_option linter.unusedVariables false
set_option linter.unusedSimpArgs false
set_option maxRecDepth 100000
set_option linter.unusedVariables false
open Go Go.Ev
namespace Go.Ev
noncomputable section
/-! ### paling/valid.Find -/
def sg_valid_Find : Sig := [(true, (.sl T_api_Ins)), (false, .str)]
noncomputable def t_valid_Find : Tbl := []
theorem tk_valid_Find : ∀ p ∈ t_valid_Find, EntOK Go.Proofs.Tryd.prog p.1 p.2 := tbl_nil
noncomputable def c_valid_Find : Code := Go.Proofs.Tryd.f53.body.getD .skip
def tb_valid_Find : Tb := [(3, ⟨[1, 10, 11, 12], []⟩), (9, ⟨[1, 5, 10, 11, 12, 18, 19, 20], []⟩)]
inductive J_valid_Find where
  | l3 (h : Int)
  | l9 (h : List ByteArray) (h1 : Int) (h2 : Int) (k : Int) (h3 : Int)
def T_valid_Find (t : List (El T_api_Ins)) (label : ByteArray) : J_valid_Find → JT J_valid_Find (Int)
  | .l3 h =>
    .br (decide (h < (Int.ofNat (List.length t))))
      (.br ((decide ((0 : Int) ≤ h)) && (decide (h < (Int.ofNat (List.length t)))))
        (.jmp (.l9 (List.getD t (Int.toNat h) (dflt T_api_Ins)).2.2.2.2.2.2 (Int.ofNat (List.length (List.getD t (Int.toNat h) (dflt T_api_Ins)).2.2.2.2.2.2)) (0 : Int) h h))
      (.no))
    (.leaf (-1 : Int))
  | .l9 h h1 h2 k h3 =>
    .br (decide (h2 < h1))
      (.br ((decide ((0 : Int) ≤ h2)) && (decide (h2 < (Int.ofNat (List.length h)))))
        (.br (eqB (List.getD h (Int.toNat h2) (dflt .str)) label)
          (.leaf k)
        (.jmp (.l9 h h1 (IntKind.i64.wrap (h2 + (1 : Int))) k h3)))
      (.no))
    (.jmp (.l3 (IntKind.i64.wrap (h3 + (1 : Int)))))
def T0_valid_Find (t : List (El T_api_Ins)) (label : ByteArray) : JT J_valid_Find (Int) :=
  .jmp (.l3 (0 : Int))
def R_valid_Find : Int → AV := fun (r : Int) => .d (.int .i64) r
def S_valid_Find (t : List (El T_api_Ins)) (label : ByteArray) : J_valid_Find → Nat × St
  | .l3 h => (3, ⟨mkTm 30 [(1, .d .str label), (10, .d (.sl T_api_Ins) t), (11, .d (.int .i64) (Int.ofNat (List.length t))), (12, .d (.int .i64) h)], []⟩)
  | .l9 h h1 h2 k h3 => (9, ⟨mkTm 30 [(1, .d .str label), (5, .d (.int .i64) k), (10, .d (.sl T_api_Ins) t), (11, .d (.int .i64) (Int.ofNat (List.length t))), (12, .d (.int .i64) h3), (18, .d (.sl .str) h), (19, .d (.int .i64) h1), (20, .d (.int .i64) h2)], []⟩)
theorem en_valid_Find (t : List (El T_api_Ins)) (label : ByteArray) (L : Lt) : entryA Go.Proofs.Tryd.prog (clOf t_valid_Find) tb_valid_Find Go.Proofs.Tryd.f53 c_valid_Find L (toForms sg_valid_Find (t, label, ())) = (T0_valid_Find t label).run (fun v => some (R_valid_Find v, tps (toForms sg_valid_Find (t, label, ())))) fun j => L (S_valid_Find t label j).1 (S_valid_Find t label j).2 := by kernel_rfl
theorem lp_valid_Find (t : List (El T_api_Ins)) (label : ByteArray) : ∀ (L : Lt) (j : J_valid_Find), procOf (procsF Go.Proofs.Tryd.prog (clOf t_valid_Find) tb_valid_Find Go.Proofs.Tryd.f53 c_valid_Find (toForms sg_valid_Find (t, label, ()))) (S_valid_Find t label j).1 L (S_valid_Find t label j).2 = (T_valid_Find t label j).run (fun v => some (R_valid_Find v, tps (toForms sg_valid_Find (t, label, ())))) fun j => L (S_valid_Find t label j).1 (S_valid_Find t label j).2
  | L, .l3 h => by kernel_rfl
  | L, .l9 h h1 h2 k h3 => by kernel_rfl
end
end Go.Ev
end

section
set_option linter.unusedSectionVars false
set_option linter.unusedVariables false
set_option linter.unusedSimpArgs false
set_option linter.unusedVariables false
set_option linter.unusedSimpArgs false
open Go
namespace Go.Ev
def v_valid_Find (t : List (El T_api_Ins)) (label : ByteArray) : Int := findI label t 0
def k_valid_Find (t : List (El T_api_Ins)) (label : ByteArray) : Bool := decide (t.length < 1099511627776) && t.all fun i => decide (i.2.2.2.2.2.2.length < 1099511627776)
theorem g_valid_Find (t : List (El T_api_Ins)) (label : ByteArray) (hk : k_valid_Find t label = true) : Goes (T_valid_Find t label) (T0_valid_Find t label) (v_valid_Find t label) := by
  unfold k_valid_Find at hk
  simp only [Bool.and_eq_true, decide_eq_true_eq, List.all_eq_true] at hk
  obtain ⟨hn, hl⟩ := hk
  have loop : ∀ k, k ≤ t.length → Goes (T_valid_Find t label) (.jmp (.l3 (k : Int))) (findI label (t.drop k) k) := by
    refine down ?_ fun k hk ih => ?_
    · rw [goes_jmp]
      simp only [T_valid_Find, goes_br, lt_len_not (Nat.lt_irrefl _), goes_leaf, List.drop_length]
      simp [findI]
    · have hli := hl t[k] (List.getElem_mem hk)
      rw [goes_jmp]
      simp only [T_valid_Find, goes_br, lt_len hk, nng, Bool.and_self, if_true, Int.toNat_natCast, getD_lt hk]
      rw [drop_cons hk]
      unfold findI
      generalize t[k].2.2.2.2.2.2 = ls at hli
      have inner : ∀ j, j ≤ ls.length → Goes (T_valid_Find t label) (.jmp (.l9 ls (Int.ofNat ls.length) (j : Int) (k : Int) (k : Int))) (if (ls.drop j).contains label then (k : Int) else findI label (t.drop (k + 1)) (k + 1)) := by
        refine down ?_ fun j hj ihj => ?_
        · rw [goes_jmp]
          simp only [T_valid_Find, goes_br, lt_len_not (Nat.lt_irrefl _), wrap_succ (k := k) (by omega), List.drop_length]
          simpa using ih
        · rw [goes_jmp]
          simp only [T_valid_Find, goes_br, lt_len hj, nng, Bool.and_self, if_true, Int.toNat_natCast, getD_lt hj, wrap_succ (k := j) (by omega), eqB_iff]
          rw [drop_cons hj, List.contains_cons]
          by_cases h : ls[j] = label
          · rw [if_pos h]; subst h; simp [goes_leaf]
          · rw [if_neg h, beq_false_of_ne (Ne.symm h), Bool.false_or]
            exact ihj
      simpa using inner 0 (Nat.zero_le _)
  unfold T0_valid_Find v_valid_Find
  simpa using loop 0 (Nat.zero_le _)
end Go.Ev
end

section
set_option linter.unusedSectionVars false
set_option linter.unusedVariables false
set_option linter.unusedSimpArgs false
set_option maxRecDepth 100000
set_option linter.unusedVariables false
open Go Go.Ev
namespace Go.Ev
noncomputable section
noncomputable def e_valid_Find : Run := entG sg_valid_Find R_valid_Find (fun a => k_valid_Find a.1 a.2.1) (fun a => v_valid_Find a.1 a.2.1)
theorem ok_valid_Find : EntOK Go.Proofs.Tryd.prog 53 e_valid_Find := entG_ok (tb := tb_valid_Find) (c := c_valid_Find) tk_valid_Find (by kernel_rfl) (by kernel_rfl) (by kernel_rfl) (fun a => by kernel_rfl) fun ⟨t, label, _⟩ hk => evF_goes (c := c_valid_Find) (K := fun v => (R_valid_Find v, tps (toForms sg_valid_Find (t, label, ())))) (S := S_valid_Find t label) (by kernel_rfl) (en_valid_Find t label) (lp_valid_Find t label) (g_valid_Find t label hk)
end
end Go.Ev
end

section
set_option linter.unusedSectionVars false
set_option linter.unusedVariables false
set_option linter.unusedSimpArgs false
set_option maxRecDepth 100000
set_option linter.unusedVariables false
open Go Go.Ev
namespace Go.Ev
noncomputable section
/-! ### paling/flow.Next -/
def sg_flow_Next : Sig := [(true, (.sl T_api_Ins)), (false, (.int .i64))]
noncomputable def t_flow_Next : Tbl := [(52, e_ins_Leads), (53, e_valid_Find)]
theorem tk_flow_Next : ∀ p ∈ t_flow_Next, EntOK Go.Proofs.Tryd.prog p.1 p.2 := tbl_cons ok_ins_Leads (tbl_cons ok_valid_Find (tbl_nil))
noncomputable def c_flow_Next : Code := Go.Proofs.Tryd.f43.body.getD .skip
def tb_flow_Next : Tb := [(12, ⟨[1, 5, 8, 55, 68, 76], [(9, 62)]⟩), (14, ⟨[5, 8, 78], []⟩), (hintK, ⟨[], [(1, 62)]⟩)]
inductive J_flow_Next where
  | l12 (to_ : Int) (out : List Int) (h : Bool)
  | l14 (to_ : Int) (out : List Int) (h : Bool)
def T_flow_Next (t : List (El T_api_Ins)) (i : Int) : J_flow_Next → JT J_flow_Next (List Int)
  | .l12 to_ out h =>
    .br h
      (.br (Nat.ble (((List.length out) + 1) * 8) limit)
        (.br (decide (to_ > i))
          (.br ((Int.ofNat (List.length (out ++ [(IntKind.i64.wrap (i + (1 : Int)))]))) == (0 : Int))
            (.jmp (.l14 to_ (out ++ [(IntKind.i64.wrap (i + (1 : Int)))]) true))
          (.br ((decide ((0 : Int) ≤ (IntKind.i64.wrap ((Int.ofNat (List.length (out ++ [(IntKind.i64.wrap (i + (1 : Int)))]))) - (1 : Int))))) && (decide ((IntKind.i64.wrap ((Int.ofNat (List.length (out ++ [(IntKind.i64.wrap (i + (1 : Int)))]))) - (1 : Int))) < (Int.ofNat (List.length (out ++ [(IntKind.i64.wrap (i + (1 : Int)))]))))))
            (.jmp (.l14 to_ (out ++ [(IntKind.i64.wrap (i + (1 : Int)))]) ((List.getD (out ++ [(IntKind.i64.wrap (i + (1 : Int)))]) (Int.toNat (IntKind.i64.wrap ((Int.ofNat (List.length (out ++ [(IntKind.i64.wrap (i + (1 : Int)))]))) - (1 : Int)))) (dflt (.int .i64))) != to_)))
          (.no)))
        (.jmp (.l14 to_ (out ++ [(IntKind.i64.wrap (i + (1 : Int)))]) false)))
      (.no))
    (.br (decide (to_ > i))
      (.br ((Int.ofNat (List.length out)) == (0 : Int))
        (.jmp (.l14 to_ out true))
      (.br ((decide ((0 : Int) ≤ (IntKind.i64.wrap ((Int.ofNat (List.length out)) - (1 : Int))))) && (decide ((IntKind.i64.wrap ((Int.ofNat (List.length out)) - (1 : Int))) < (Int.ofNat (List.length out)))))
        (.jmp (.l14 to_ out ((List.getD out (Int.toNat (IntKind.i64.wrap ((Int.ofNat (List.length out)) - (1 : Int)))) (dflt (.int .i64))) != to_)))
      (.no)))
    (.jmp (.l14 to_ out false)))
  | .l14 to_ out h =>
    .br h
      (.br (Nat.ble (((List.length out) + 1) * 8) limit)
        (.leaf (out ++ [to_]))
      (.no))
    (.leaf out)
def T0_flow_Next (t : List (El T_api_Ins)) (i : Int) : JT J_flow_Next (List Int) :=
  .br (decide (i < (0 : Int)))
    (.leaf [])
  (.br (decide (i ≥ (Int.ofNat (List.length t))))
    (.leaf [])
  (.br ((decide ((0 : Int) ≤ i)) && (decide (i < (Int.ofNat (List.length t)))))
    (.br (k_ins_Leads (List.getD t (Int.toNat i) (dflt T_api_Ins)))
      (.br (v_ins_Leads (List.getD t (Int.toNat i) (dflt T_api_Ins))).2
        (.br ((decide ((0 : Int) ≤ i)) && (decide (i < (Int.ofNat (List.length t)))))
          (.br (k_valid_Find t (List.getD t (Int.toNat i) (dflt T_api_Ins)).2.2.2.2.2.1)
            (.br (decide ((v_valid_Find t (List.getD t (Int.toNat i) (dflt T_api_Ins)).2.2.2.2.2.1) ≥ (0 : Int)))
              (.br (decide ((v_valid_Find t (List.getD t (Int.toNat i) (dflt T_api_Ins)).2.2.2.2.2.1) ≤ i))
                (.br (v_ins_Leads (List.getD t (Int.toNat i) (dflt T_api_Ins))).1
                  (.jmp (.l12 (v_valid_Find t (List.getD t (Int.toNat i) (dflt T_api_Ins)).2.2.2.2.2.1) [(v_valid_Find t (List.getD t (Int.toNat i) (dflt T_api_Ins)).2.2.2.2.2.1)] (decide ((IntKind.i64.wrap (i + (1 : Int))) < (Int.ofNat (List.length t))))))
                (.jmp (.l12 (v_valid_Find t (List.getD t (Int.toNat i) (dflt T_api_Ins)).2.2.2.2.2.1) [(v_valid_Find t (List.getD t (Int.toNat i) (dflt T_api_Ins)).2.2.2.2.2.1)] false)))
              (.br (v_ins_Leads (List.getD t (Int.toNat i) (dflt T_api_Ins))).1
                (.jmp (.l12 (v_valid_Find t (List.getD t (Int.toNat i) (dflt T_api_Ins)).2.2.2.2.2.1) [] (decide ((IntKind.i64.wrap (i + (1 : Int))) < (Int.ofNat (List.length t))))))
              (.jmp (.l12 (v_valid_Find t (List.getD t (Int.toNat i) (dflt T_api_Ins)).2.2.2.2.2.1) [] false))))
            (.br (v_ins_Leads (List.getD t (Int.toNat i) (dflt T_api_Ins))).1
              (.jmp (.l12 (v_valid_Find t (List.getD t (Int.toNat i) (dflt T_api_Ins)).2.2.2.2.2.1) [] (decide ((IntKind.i64.wrap (i + (1 : Int))) < (Int.ofNat (List.length t))))))
            (.jmp (.l12 (v_valid_Find t (List.getD t (Int.toNat i) (dflt T_api_Ins)).2.2.2.2.2.1) [] false))))
          (.no))
        (.no))
      (.br (v_ins_Leads (List.getD t (Int.toNat i) (dflt T_api_Ins))).1
        (.jmp (.l12 (-1 : Int) [] (decide ((IntKind.i64.wrap (i + (1 : Int))) < (Int.ofNat (List.length t))))))
      (.jmp (.l12 (-1 : Int) [] false))))
    (.no))
  (.no)))
def v_flow_Next_l14 (t : List (El T_api_Ins)) (i : Int) (to_ : Int) (out : List Int) (h : Bool) : List Int :=
  bif h then
    bif (Nat.ble (((List.length out) + 1) * 8) limit) then
      (out ++ [to_])
    else []
  else out
def k_flow_Next_l14 (t : List (El T_api_Ins)) (i : Int) (to_ : Int) (out : List Int) (h : Bool) : Bool :=
  bif h then
    bif (Nat.ble (((List.length out) + 1) * 8) limit) then
      true
    else false
  else true
theorem g_flow_Next_l14 (t : List (El T_api_Ins)) (i : Int) (to_ : Int) (out : List Int) (h : Bool) (hk : k_flow_Next_l14 t i to_ out h = true) : Goes (T_flow_Next t i) (.jmp (.l14 to_ out h)) (v_flow_Next_l14 t i to_ out h) :=
  Goes.jmp (Goes.brk hk (fun hk =>
    Goes.brk hk (fun hk =>
      Goes.leaf) (fun hk =>
      Goes.nok hk)) (fun hk =>
    Goes.leaf))
def v_flow_Next_l12 (t : List (El T_api_Ins)) (i : Int) (to_ : Int) (out : List Int) (h : Bool) : List Int :=
  bif h then
    bif (Nat.ble (((List.length out) + 1) * 8) limit) then
      bif (decide (to_ > i)) then
        bif ((Int.ofNat (List.length (out ++ [(IntKind.i64.wrap (i + (1 : Int)))]))) == (0 : Int)) then
          v_flow_Next_l14 t i to_ (out ++ [(IntKind.i64.wrap (i + (1 : Int)))]) true
        else bif ((decide ((0 : Int) ≤ (IntKind.i64.wrap ((Int.ofNat (List.length (out ++ [(IntKind.i64.wrap (i + (1 : Int)))]))) - (1 : Int))))) && (decide ((IntKind.i64.wrap ((Int.ofNat (List.length (out ++ [(IntKind.i64.wrap (i + (1 : Int)))]))) - (1 : Int))) < (Int.ofNat (List.length (out ++ [(IntKind.i64.wrap (i + (1 : Int)))])))))) then
          v_flow_Next_l14 t i to_ (out ++ [(IntKind.i64.wrap (i + (1 : Int)))]) ((List.getD (out ++ [(IntKind.i64.wrap (i + (1 : Int)))]) (Int.toNat (IntKind.i64.wrap ((Int.ofNat (List.length (out ++ [(IntKind.i64.wrap (i + (1 : Int)))]))) - (1 : Int)))) (dflt (.int .i64))) != to_)
        else []
      else v_flow_Next_l14 t i to_ (out ++ [(IntKind.i64.wrap (i + (1 : Int)))]) false
    else []
  else bif (decide (to_ > i)) then
    bif ((Int.ofNat (List.length out)) == (0 : Int)) then
      v_flow_Next_l14 t i to_ out true
    else bif ((decide ((0 : Int) ≤ (IntKind.i64.wrap ((Int.ofNat (List.length out)) - (1 : Int))))) && (decide ((IntKind.i64.wrap ((Int.ofNat (List.length out)) - (1 : Int))) < (Int.ofNat (List.length out))))) then
      v_flow_Next_l14 t i to_ out ((List.getD out (Int.toNat (IntKind.i64.wrap ((Int.ofNat (List.length out)) - (1 : Int)))) (dflt (.int .i64))) != to_)
    else []
  else v_flow_Next_l14 t i to_ out false
def k_flow_Next_l12 (t : List (El T_api_Ins)) (i : Int) (to_ : Int) (out : List Int) (h : Bool) : Bool :=
  bif h then
    bif (Nat.ble (((List.length out) + 1) * 8) limit) then
      bif (decide (to_ > i)) then
        bif ((Int.ofNat (List.length (out ++ [(IntKind.i64.wrap (i + (1 : Int)))]))) == (0 : Int)) then
          k_flow_Next_l14 t i to_ (out ++ [(IntKind.i64.wrap (i + (1 : Int)))]) true
        else bif ((decide ((0 : Int) ≤ (IntKind.i64.wrap ((Int.ofNat (List.length (out ++ [(IntKind.i64.wrap (i + (1 : Int)))]))) - (1 : Int))))) && (decide ((IntKind.i64.wrap ((Int.ofNat (List.length (out ++ [(IntKind.i64.wrap (i + (1 : Int)))]))) - (1 : Int))) < (Int.ofNat (List.length (out ++ [(IntKind.i64.wrap (i + (1 : Int)))])))))) then
          k_flow_Next_l14 t i to_ (out ++ [(IntKind.i64.wrap (i + (1 : Int)))]) ((List.getD (out ++ [(IntKind.i64.wrap (i + (1 : Int)))]) (Int.toNat (IntKind.i64.wrap ((Int.ofNat (List.length (out ++ [(IntKind.i64.wrap (i + (1 : Int)))]))) - (1 : Int)))) (dflt (.int .i64))) != to_)
        else false
      else k_flow_Next_l14 t i to_ (out ++ [(IntKind.i64.wrap (i + (1 : Int)))]) false
    else false
  else bif (decide (to_ > i)) then
    bif ((Int.ofNat (List.length out)) == (0 : Int)) then
      k_flow_Next_l14 t i to_ out true
    else bif ((decide ((0 : Int) ≤ (IntKind.i64.wrap ((Int.ofNat (List.length out)) - (1 : Int))))) && (decide ((IntKind.i64.wrap ((Int.ofNat (List.length out)) - (1 : Int))) < (Int.ofNat (List.length out))))) then
      k_flow_Next_l14 t i to_ out ((List.getD out (Int.toNat (IntKind.i64.wrap ((Int.ofNat (List.length out)) - (1 : Int)))) (dflt (.int .i64))) != to_)
    else false
  else k_flow_Next_l14 t i to_ out false
theorem g_flow_Next_l12 (t : List (El T_api_Ins)) (i : Int) (to_ : Int) (out : List Int) (h : Bool) (hk : k_flow_Next_l12 t i to_ out h = true) : Goes (T_flow_Next t i) (.jmp (.l12 to_ out h)) (v_flow_Next_l12 t i to_ out h) :=
  Goes.jmp (Goes.brk hk (fun hk =>
    Goes.brk hk (fun hk =>
      Goes.brk hk (fun hk =>
        Goes.brk hk (fun hk =>
          g_flow_Next_l14 t i to_ (out ++ [(IntKind.i64.wrap (i + (1 : Int)))]) true hk) (fun hk =>
          Goes.brk hk (fun hk =>
            g_flow_Next_l14 t i to_ (out ++ [(IntKind.i64.wrap (i + (1 : Int)))]) ((List.getD (out ++ [(IntKind.i64.wrap (i + (1 : Int)))]) (Int.toNat (IntKind.i64.wrap ((Int.ofNat (List.length (out ++ [(IntKind.i64.wrap (i + (1 : Int)))]))) - (1 : Int)))) (dflt (.int .i64))) != to_) hk) (fun hk =>
            Goes.nok hk))) (fun hk =>
        g_flow_Next_l14 t i to_ (out ++ [(IntKind.i64.wrap (i + (1 : Int)))]) false hk)) (fun hk =>
      Goes.nok hk)) (fun hk =>
    Goes.brk hk (fun hk =>
      Goes.brk hk (fun hk =>
        g_flow_Next_l14 t i to_ out true hk) (fun hk =>
        Goes.brk hk (fun hk =>
          g_flow_Next_l14 t i to_ out ((List.getD out (Int.toNat (IntKind.i64.wrap ((Int.ofNat (List.length out)) - (1 : Int)))) (dflt (.int .i64))) != to_) hk) (fun hk =>
          Goes.nok hk))) (fun hk =>
      g_flow_Next_l14 t i to_ out false hk)))
def u_flow_Next (t : List (El T_api_Ins)) (i : Int) : List Int :=
  bif (decide (i < (0 : Int))) then
    []
  else bif (decide (i ≥ (Int.ofNat (List.length t)))) then
    []
  else bif ((decide ((0 : Int) ≤ i)) && (decide (i < (Int.ofNat (List.length t))))) then
    bif (k_ins_Leads (List.getD t (Int.toNat i) (dflt T_api_Ins))) then
      bif (v_ins_Leads (List.getD t (Int.toNat i) (dflt T_api_Ins))).2 then
        bif ((decide ((0 : Int) ≤ i)) && (decide (i < (Int.ofNat (List.length t))))) then
          bif (k_valid_Find t (List.getD t (Int.toNat i) (dflt T_api_Ins)).2.2.2.2.2.1) then
            bif (decide ((v_valid_Find t (List.getD t (Int.toNat i) (dflt T_api_Ins)).2.2.2.2.2.1) ≥ (0 : Int))) then
              bif (decide ((v_valid_Find t (List.getD t (Int.toNat i) (dflt T_api_Ins)).2.2.2.2.2.1) ≤ i)) then
                bif (v_ins_Leads (List.getD t (Int.toNat i) (dflt T_api_Ins))).1 then
                  v_flow_Next_l12 t i (v_valid_Find t (List.getD t (Int.toNat i) (dflt T_api_Ins)).2.2.2.2.2.1) [(v_valid_Find t (List.getD t (Int.toNat i) (dflt T_api_Ins)).2.2.2.2.2.1)] (decide ((IntKind.i64.wrap (i + (1 : Int))) < (Int.ofNat (List.length t))))
                else v_flow_Next_l12 t i (v_valid_Find t (List.getD t (Int.toNat i) (dflt T_api_Ins)).2.2.2.2.2.1) [(v_valid_Find t (List.getD t (Int.toNat i) (dflt T_api_Ins)).2.2.2.2.2.1)] false
              else bif (v_ins_Leads (List.getD t (Int.toNat i) (dflt T_api_Ins))).1 then
                v_flow_Next_l12 t i (v_valid_Find t (List.getD t (Int.toNat i) (dflt T_api_Ins)).2.2.2.2.2.1) [] (decide ((IntKind.i64.wrap (i + (1 : Int))) < (Int.ofNat (List.length t))))
              else v_flow_Next_l12 t i (v_valid_Find t (List.getD t (Int.toNat i) (dflt T_api_Ins)).2.2.2.2.2.1) [] false
            else bif (v_ins_Leads (List.getD t (Int.toNat i) (dflt T_api_Ins))).1 then
              v_flow_Next_l12 t i (v_valid_Find t (List.getD t (Int.toNat i) (dflt T_api_Ins)).2.2.2.2.2.1) [] (decide ((IntKind.i64.wrap (i + (1 : Int))) < (Int.ofNat (List.length t))))
            else v_flow_Next_l12 t i (v_valid_Find t (List.getD t (Int.toNat i) (dflt T_api_Ins)).2.2.2.2.2.1) [] false
          else []
        else []
      else bif (v_ins_Leads (List.getD t (Int.toNat i) (dflt T_api_Ins))).1 then
        v_flow_Next_l12 t i (-1 : Int) [] (decide ((IntKind.i64.wrap (i + (1 : Int))) < (Int.ofNat (List.length t))))
      else v_flow_Next_l12 t i (-1 : Int) [] false
    else []
  else []
def ku_flow_Next (t : List (El T_api_Ins)) (i : Int) : Bool :=
  bif (decide (i < (0 : Int))) then
    true
  else bif (decide (i ≥ (Int.ofNat (List.length t)))) then
    true
  else bif ((decide ((0 : Int) ≤ i)) && (decide (i < (Int.ofNat (List.length t))))) then
    bif (k_ins_Leads (List.getD t (Int.toNat i) (dflt T_api_Ins))) then
      bif (v_ins_Leads (List.getD t (Int.toNat i) (dflt T_api_Ins))).2 then
        bif ((decide ((0 : Int) ≤ i)) && (decide (i < (Int.ofNat (List.length t))))) then
          bif (k_valid_Find t (List.getD t (Int.toNat i) (dflt T_api_Ins)).2.2.2.2.2.1) then
            bif (decide ((v_valid_Find t (List.getD t (Int.toNat i) (dflt T_api_Ins)).2.2.2.2.2.1) ≥ (0 : Int))) then
              bif (decide ((v_valid_Find t (List.getD t (Int.toNat i) (dflt T_api_Ins)).2.2.2.2.2.1) ≤ i)) then
                bif (v_ins_Leads (List.getD t (Int.toNat i) (dflt T_api_Ins))).1 then
                  k_flow_Next_l12 t i (v_valid_Find t (List.getD t (Int.toNat i) (dflt T_api_Ins)).2.2.2.2.2.1) [(v_valid_Find t (List.getD t (Int.toNat i) (dflt T_api_Ins)).2.2.2.2.2.1)] (decide ((IntKind.i64.wrap (i + (1 : Int))) < (Int.ofNat (List.length t))))
                else k_flow_Next_l12 t i (v_valid_Find t (List.getD t (Int.toNat i) (dflt T_api_Ins)).2.2.2.2.2.1) [(v_valid_Find t (List.getD t (Int.toNat i) (dflt T_api_Ins)).2.2.2.2.2.1)] false
              else bif (v_ins_Leads (List.getD t (Int.toNat i) (dflt T_api_Ins))).1 then
                k_flow_Next_l12 t i (v_valid_Find t (List.getD t (Int.toNat i) (dflt T_api_Ins)).2.2.2.2.2.1) [] (decide ((IntKind.i64.wrap (i + (1 : Int))) < (Int.ofNat (List.length t))))
              else k_flow_Next_l12 t i (v_valid_Find t (List.getD t (Int.toNat i) (dflt T_api_Ins)).2.2.2.2.2.1) [] false
            else bif (v_ins_Leads (List.getD t (Int.toNat i) (dflt T_api_Ins))).1 then
              k_flow_Next_l12 t i (v_valid_Find t (List.getD t (Int.toNat i) (dflt T_api_Ins)).2.2.2.2.2.1) [] (decide ((IntKind.i64.wrap (i + (1 : Int))) < (Int.ofNat (List.length t))))
            else k_flow_Next_l12 t i (v_valid_Find t (List.getD t (Int.toNat i) (dflt T_api_Ins)).2.2.2.2.2.1) [] false
          else false
        else false
      else bif (v_ins_Leads (List.getD t (Int.toNat i) (dflt T_api_Ins))).1 then
        k_flow_Next_l12 t i (-1 : Int) [] (decide ((IntKind.i64.wrap (i + (1 : Int))) < (Int.ofNat (List.length t))))
      else k_flow_Next_l12 t i (-1 : Int) [] false
    else false
  else false
theorem gu_flow_Next (t : List (El T_api_Ins)) (i : Int) (hk : ku_flow_Next t i = true) : Goes (T_flow_Next t i) (T0_flow_Next t i) (u_flow_Next t i) :=
  Goes.brk hk (fun hk =>
    Goes.leaf) (fun hk =>
    Goes.brk hk (fun hk =>
      Goes.leaf) (fun hk =>
      Goes.brk hk (fun hk =>
        Goes.brk hk (fun hk =>
          Goes.brk hk (fun hk =>
            Goes.brk hk (fun hk =>
              Goes.brk hk (fun hk =>
                Goes.brk hk (fun hk =>
                  Goes.brk hk (fun hk =>
                    Goes.brk hk (fun hk =>
                      g_flow_Next_l12 t i (v_valid_Find t (List.getD t (Int.toNat i) (dflt T_api_Ins)).2.2.2.2.2.1) [(v_valid_Find t (List.getD t (Int.toNat i) (dflt T_api_Ins)).2.2.2.2.2.1)] (decide ((IntKind.i64.wrap (i + (1 : Int))) < (Int.ofNat (List.length t)))) hk) (fun hk =>
                      g_flow_Next_l12 t i (v_valid_Find t (List.getD t (Int.toNat i) (dflt T_api_Ins)).2.2.2.2.2.1) [(v_valid_Find t (List.getD t (Int.toNat i) (dflt T_api_Ins)).2.2.2.2.2.1)] false hk)) (fun hk =>
                    Goes.brk hk (fun hk =>
                      g_flow_Next_l12 t i (v_valid_Find t (List.getD t (Int.toNat i) (dflt T_api_Ins)).2.2.2.2.2.1) [] (decide ((IntKind.i64.wrap (i + (1 : Int))) < (Int.ofNat (List.length t)))) hk) (fun hk =>
                      g_flow_Next_l12 t i (v_valid_Find t (List.getD t (Int.toNat i) (dflt T_api_Ins)).2.2.2.2.2.1) [] false hk))) (fun hk =>
                  Goes.brk hk (fun hk =>
                    g_flow_Next_l12 t i (v_valid_Find t (List.getD t (Int.toNat i) (dflt T_api_Ins)).2.2.2.2.2.1) [] (decide ((IntKind.i64.wrap (i + (1 : Int))) < (Int.ofNat (List.length t)))) hk) (fun hk =>
                    g_flow_Next_l12 t i (v_valid_Find t (List.getD t (Int.toNat i) (dflt T_api_Ins)).2.2.2.2.2.1) [] false hk))) (fun hk =>
                Goes.nok hk)) (fun hk =>
              Goes.nok hk)) (fun hk =>
            Goes.brk hk (fun hk =>
              g_flow_Next_l12 t i (-1 : Int) [] (decide ((IntKind.i64.wrap (i + (1 : Int))) < (Int.ofNat (List.length t)))) hk) (fun hk =>
              g_flow_Next_l12 t i (-1 : Int) [] false hk))) (fun hk =>
          Goes.nok hk)) (fun hk =>
        Goes.nok hk)))
def R_flow_Next : List Int → AV := fun (r : List Int) => .rw 3 (.int .i64) r
def S_flow_Next (t : List (El T_api_Ins)) (i : Int) : J_flow_Next → Nat × St
  | .l12 to_ out h => (12, ⟨mkTm 84 [(1, .d (.int .i64) i), (5, .d (.int .i64) to_), (8, .own 9 0 none), (55, .d .bool h)], [(9, 0, .row 3 (.int .i64) out false)]⟩)
  | .l14 to_ out h => (14, ⟨mkTm 84 [(5, .d (.int .i64) to_), (8, .own 9 0 none), (78, .d .bool h)], [(9, 0, .row 3 (.int .i64) out false)]⟩)
theorem en_flow_Next (t : List (El T_api_Ins)) (i : Int) (L : Lt) : entryA Go.Proofs.Tryd.prog (clOf t_flow_Next) tb_flow_Next Go.Proofs.Tryd.f43 c_flow_Next L (toForms sg_flow_Next (t, i, ())) = (T0_flow_Next t i).run (fun v => some (R_flow_Next v, tps (toForms sg_flow_Next (t, i, ())))) fun j => L (S_flow_Next t i j).1 (S_flow_Next t i j).2 := by kernel_rfl
theorem lp_flow_Next (t : List (El T_api_Ins)) (i : Int) : ∀ (L : Lt) (j : J_flow_Next), procOf (procsF Go.Proofs.Tryd.prog (clOf t_flow_Next) tb_flow_Next Go.Proofs.Tryd.f43 c_flow_Next (toForms sg_flow_Next (t, i, ()))) (S_flow_Next t i j).1 L (S_flow_Next t i j).2 = (T_flow_Next t i j).run (fun v => some (R_flow_Next v, tps (toForms sg_flow_Next (t, i, ())))) fun j => L (S_flow_Next t i j).1 (S_flow_Next t i j).2
  | L, .l12 to_ out h => by kernel_rfl
  | L, .l14 to_ out h => by kernel_rfl
end
end Go.Ev
end

section
set_option linter.unusedSectionVars false
set_option linter.unusedVariables false
set_option linter.unusedSimpArgs false
set_option maxRecDepth 100000
set_option linter.unusedVariables false
set_option linter.unusedSimpArgs false
open Go
namespace Go.Ev
def v_flow_Next (t : List (El T_api_Ins)) (i : Int) : List Int := listOf t.length (nextB t i)
def k_flow_Next (t : List (El T_api_Ins)) (i : Int) : Bool := flowOK t
theorem nextB_out {t : List (El T_api_Ins)} {i : Int} (h : ¬ (0 ≤ i ∧ i < (t.length : Int))) : listOf t.length (nextB t i) = [] := by
  unfold listOf
  rw [List.map_eq_nil_iff, List.filter_eq_nil_iff]
  intro j _ hb
  unfold nextB at hb
  rw [Bool.and_eq_true] at hb
  have := of_decide_eq_true hb.1
  exact h ⟨this.1, this.2.1⟩
theorem g_flow_Next (t : List (El T_api_Ins)) (i : Int) (hk : k_flow_Next t i = true) : Goes (T_flow_Next t i) (T0_flow_Next t i) (v_flow_Next t i) := by
  have hlen := flowOK_len hk
  unfold T0_flow_Next v_flow_Next
  rw [goes_br]
  by_cases h0 : i < 0
  · rw [if_pos (decide_eq_true h0), nextB_out (fun h => by omega)]; exact .leaf
  rw [if_neg (by simpa using h0), goes_br]
  obtain ⟨j, rfl⟩ := Int.eq_ofNat_of_zero_le (show 0 ≤ i by omega)
  by_cases h1 : (t.length : Int) ≤ (j : Int)
  · rw [if_pos (decide_eq_true (show (j : Int) ≥ Int.ofNat t.length from h1)), nextB_out (fun h => by omega)]; exact .leaf
  have hj : j < t.length := by omega
  rw [if_neg (by simp; omega), goes_br, if_pos (bound_len hj), goes_br, Int.toNat_natCast]
  rw [← nextL_eq hj]
  have hmem : t.getD j (dflt T_api_Ins) ∈ t := by rw [getD_lt hj]; exact List.getElem_mem hj
  have kl : k_ins_Leads (t.getD j (dflt T_api_Ins)) = true := k_leads (flowOK_text hk hmem)
  have kf : k_valid_Find t (t.getD j (dflt T_api_Ins)).2.2.2.2.2.1 = true := flowOK_find hk
  have vf : v_valid_Find t (t.getD j (dflt T_api_Ins)).2.2.2.2.2.1 = findI (t.getD j (dflt T_api_Ins)).2.2.2.2.2.1 t 0 := rfl
  rw [if_pos kl]
  have hw : IntKind.i64.wrap ((j : Int) + 1) = (j : Int) + 1 := by rw [wrap_i64 (by omega) (by omega)]
  -- the last label
  have l14 : ∀ (to : Int) (out : List Int) (h : Bool), out.length ≤ 3 → Goes (T_flow_Next t (j : Int)) (.jmp (.l14 to out h)) (out ++ if h = true then [to] else []) := by
    intro to out h ho
    rw [goes_jmp, T_flow_Next, goes_br]
    cases h with
    | true =>
      rw [if_pos rfl, goes_br, if_pos (Nat.ble_eq_true_of_le (by unfold limit; omega)), if_pos rfl]; exact .leaf
    | false => rw [if_neg (by decide), if_neg (by decide), List.append_nil]; exact .leaf
  have last : ∀ (out : List Int) (x : Int), out.length ≤ 1 → (decide ((0 : Int) ≤ IntKind.i64.wrap (Int.ofNat (out ++ [x]).length - 1)) && decide (IntKind.i64.wrap (Int.ofNat (out ++ [x]).length - 1) < Int.ofNat (out ++ [x]).length)) = true ∧ List.getD (out ++ [x]) (IntKind.i64.wrap (Int.ofNat (out ++ [x]).length - 1)).toNat (dflt (.int .i64)) = x := by
    intro out x ho
    have e : IntKind.i64.wrap (Int.ofNat (out ++ [x]).length - 1) = (out.length : Int) := by
      rw [List.length_append, List.length_singleton, wrap_i64 (by simp <;> omega) (by simp <;> omega)]
      simp
    rw [e]
    refine ⟨by simp; omega, ?_⟩
    rw [Int.toNat_natCast]
    simp [List.getD]
  have l12 : ∀ (to : Int) (h : Bool), -1 ≤ to → (h = true → (j : Int) + 1 < t.length) → Goes (T_flow_Next t (j : Int)) (.jmp (.l12 to (if 0 ≤ to ∧ to ≤ (j : Int) then [to] else []) h)) (nextL t.length h to (j : Int)) := by
    intro to h hto hh
    rw [goes_jmp, T_flow_Next]
    unfold nextL
    generalize hout : (if 0 ≤ to ∧ to ≤ (j : Int) then [to] else []) = out
    have hol : out.length ≤ 1 := by rw [← hout]; split <;> simp
    rw [goes_br]
    cases h with
    | true =>
      rw [if_pos rfl, goes_br, if_pos (Nat.ble_eq_true_of_le (by unfold limit; omega)), goes_br, hw]
      have hin := hh rfl
      obtain ⟨b1, b2⟩ := last out ((j : Int) + 1) hol
      rw [if_pos (show true = true ∧ (j : Int) + 1 < (t.length : Int) from ⟨rfl, hin⟩)]
      by_cases hgt : to > (j : Int)
      · rw [if_pos (decide_eq_true hgt), goes_br, if_neg (by simp; omega), goes_br, if_pos b1, b2]
        have := l14 to (out ++ [(j : Int) + 1]) ((j : Int) + 1 != to) (by simp; omega)
        rw [List.append_assoc] at this
        by_cases he : to = (j : Int) + 1
        · rw [if_neg (by simp [he]), List.append_nil] at this
          rw [if_neg (fun h => h.2 ⟨rfl, hin, he⟩), List.append_nil]
          exact this
        · rw [if_pos (by simp; omega)] at this
          rw [if_pos ⟨hgt, fun h => he h.2.2⟩]
          exact this
      · rw [if_neg (by simpa using hgt), if_neg (fun h => hgt h.1), List.append_nil]
        have := l14 to (out ++ [(j : Int) + 1]) false (by simp; omega)
        rwa [if_neg (by decide), List.append_nil] at this
    | false =>
      rw [if_neg (by decide), goes_br, if_neg (c := false = true ∧ (j : Int) + 1 < (t.length : Int)) (fun h => by cases h.1), List.nil_append]
      by_cases hgt : to > (j : Int)
      · have he : out = [] := by rw [← hout, if_neg (fun h => by omega)]
        subst he
        rw [if_pos (decide_eq_true hgt), goes_br, if_pos (show (Int.ofNat ([] : List Int).length == 0) = true from rfl), if_pos ⟨hgt, fun h => by cases h.1⟩]
        have := l14 to [] true (by simp)
        rwa [if_pos rfl] at this
      · rw [if_neg (by simpa using hgt), if_neg (fun h => hgt h.1), List.append_nil]
        have := l14 to out false (by omega)
        rwa [if_neg (by decide), List.append_nil] at this
  have key : ∀ (on : Bool) (to : Int), nextL t.length (bif on then decide ((j : Int) + 1 < Int.ofNat t.length) else false) to (j : Int) = nextL t.length on to (j : Int) := by
    intro on to
    cases on with
    | false => rfl
    | true =>
      show nextL t.length (decide ((j : Int) + 1 < Int.ofNat t.length)) to (j : Int) = nextL t.length true to (j : Int)
      by_cases hin : (j : Int) + 1 < (t.length : Int)
      · rw [decide_eq_true (show (j : Int) + 1 < Int.ofNat t.length from hin)]
      · rw [decide_eq_false (show ¬ (j : Int) + 1 < Int.ofNat t.length from hin)]
        unfold nextL
        rw [if_neg (c := false = true ∧ (j : Int) + 1 < (t.length : Int)) (fun h => by cases h.1), if_neg (c := true = true ∧ (j : Int) + 1 < (t.length : Int)) (fun h => hin h.2)]
        by_cases hgt : to > (j : Int)
        · rw [if_pos (c := to > (j : Int) ∧ ¬ (false = true ∧ (j : Int) + 1 < (t.length : Int) ∧ to = (j : Int) + 1)) ⟨hgt, fun h => by cases h.1⟩, if_pos (c := to > (j : Int) ∧ ¬ (true = true ∧ (j : Int) + 1 < (t.length : Int) ∧ to = (j : Int) + 1)) ⟨hgt, fun h => hin h.2.1⟩]
        · rw [if_neg (c := to > (j : Int) ∧ ¬ (false = true ∧ (j : Int) + 1 < (t.length : Int) ∧ to = (j : Int) + 1)) (fun h => hgt h.1), if_neg (c := to > (j : Int) ∧ ¬ (true = true ∧ (j : Int) + 1 < (t.length : Int) ∧ to = (j : Int) + 1)) (fun h => hgt h.1)]
  have both : ∀ (on : Bool) (to : Int) (out : List Int), -1 ≤ to → out = (if 0 ≤ to ∧ to ≤ (j : Int) then [to] else []) → Goes (T_flow_Next t (j : Int)) (.br on (.jmp (.l12 to out (decide (IntKind.i64.wrap ((j : Int) + 1) < Int.ofNat t.length)))) (.jmp (.l12 to out false))) (nextL t.length on to (j : Int)) := by
    intro on to out hto hout
    subst hout
    rw [goes_br, ← key, hw]
    cases on with
    | true =>
      rw [if_pos rfl, cond_true]
      exact l12 to _ hto fun h => of_decide_eq_true h
    | false =>
      rw [if_neg (by decide), cond_false]
      exact l12 to _ hto fun h => by cases h
  have hr := @toOf_lt t j
  rw [goes_br]
  unfold onOf
  by_cases hjmp : (v_ins_Leads (t.getD j (dflt T_api_Ins))).2 = true
  · have hto : toOf t j = findI (t.getD j (dflt T_api_Ins)).2.2.2.2.2.1 t 0 := by unfold toOf; rw [if_pos hjmp]
    rw [hto] at hr
    rw [if_pos hjmp, goes_br, if_pos (bound_len hj), goes_br, if_pos kf, goes_br, vf, hto]
    generalize findI (t.getD j (dflt T_api_Ins)).2.2.2.2.2.1 t 0 = to at hr
    by_cases h2 : to ≥ 0
    · rw [if_pos (decide_eq_true h2), goes_br]
      by_cases h3 : to ≤ (j : Int)
      · rw [if_pos (decide_eq_true h3)]
        exact both _ to _ hr.1 (by rw [if_pos ⟨h2, h3⟩])
      · rw [if_neg (by simpa using h3)]
        exact both _ to _ hr.1 (by rw [if_neg (fun h => h3 h.2)])
    · rw [if_neg (by simpa using h2)]
      exact both _ to _ hr.1 (by rw [if_neg (fun h => h2 h.1)])
  · have hto : toOf t j = -1 := by unfold toOf; rw [if_neg hjmp]
    rw [if_neg hjmp, hto]
    exact both _ (-1) _ (by omega) (by rw [if_neg (fun h => by omega)])
end Go.Ev
end

section
set_option linter.unusedSectionVars false
set_option linter.unusedVariables false
set_option linter.unusedSimpArgs false
set_option maxRecDepth 100000
set_option linter.unusedVariables false
open Go Go.Ev
namespace Go.Ev
noncomputable section
noncomputable def e_flow_Next : Run := entG sg_flow_Next R_flow_Next (fun a => k_flow_Next a.1 a.2.1) (fun a => v_flow_Next a.1 a.2.1)
theorem ok_flow_Next : EntOK Go.Proofs.Tryd.prog 43 e_flow_Next := entG_ok (tb := tb_flow_Next) (c := c_flow_Next) tk_flow_Next (by kernel_rfl) (by kernel_rfl) (by kernel_rfl) (fun a => by kernel_rfl) fun ⟨t, i, _⟩ hk => evF_goes (c := c_flow_Next) (K := fun v => (R_flow_Next v, tps (toForms sg_flow_Next (t, i, ())))) (S := S_flow_Next t i) (by kernel_rfl) (en_flow_Next t i) (lp_flow_Next t i) (g_flow_Next t i hk)
end
end Go.Ev
end

section
set_option linter.unusedSectionVars false
set_option linter.unusedVariables false
set_option linter.unusedSimpArgs false
set_option maxRecDepth 100000
set_option linter.unusedVariables false
open Go Go.Ev
namespace Go.Ev
noncomputable section
/-! ### (*paling/bits.Set).List -/
def sg_bits_Set_List_t : PSig := [.obj 89 [(.d (.int .i64)), (.m (.int .i64) (.int .u64))]]
noncomputable def t_bits_Set_List_t : Tbl := []
theorem tk_bits_Set_List_t : ∀ p ∈ t_bits_Set_List_t, EntOK Go.Proofs.Tryd.prog p.1 p.2 := tbl_nil
noncomputable def c_bits_Set_List_t : Code := match Go.Proofs.Tryd.f26.body with
  | some (.seq _ (.seq _ (.seq _ (.seq _ (.seq _ d))))) => d
  | _ => .skip
def tb_bits_Set_List_t : Tb := [(2, ⟨[0, 4, 26, 27, 28], [(5, 62)]⟩), (8, ⟨[0, 4, 7, 8, 26, 27, 28], [(5, 62)]⟩)]
inductive J_bits_Set_List_t where
  | l2 (h : Int) (h1 : List Int) (h2 : Int) (out : List Int)
  | l8 (k : Int) (h : Int) (h1 : List Int) (i : Int) (out : List Int) (h2 : Int)
def T_bits_Set_List_t (s : Int × List (Int × Int)) (places : List Int) : J_bits_Set_List_t → JT J_bits_Set_List_t ((List Int) × Int × List (Int × Int))
  | .l2 h h1 h2 out =>
    .br (decide (h2 < h))
      (.br ((decide ((0 : Int) ≤ h2)) && (decide (h2 < (Int.ofNat (List.length h1)))))
        (.jmp (.l8 (List.getD h1 (Int.toNat h2) (dflt (.int .i64))) h h1 (0 : Int) out h2))
      (.no))
    (.leaf (out, s))
  | .l8 k h h1 i out h2 =>
    .br (decide (i < (64 : Int)))
      (.br (decide ((IntKind.u64.wrap i) < (0 : Int)))
        (.no)
      (.br ((bitAnd IntKind.u64 (Int.fdiv (Option.getD (mget (kt := (.int .i64)) k s.2) (0 : Int)) (2 ^ (min (Int.toNat (IntKind.u64.wrap i)) (IntKind.u64).bits))) (1 : Int)) == (1 : Int))
        (.br (Nat.ble (((List.length out) + 1) * 8) limit)
          (.jmp (.l8 k h h1 (IntKind.i64.wrap (i + (1 : Int))) (out ++ [(IntKind.i64.wrap ((IntKind.i64.wrap (k * (64 : Int))) + i))]) h2))
        (.no))
      (.jmp (.l8 k h h1 (IntKind.i64.wrap (i + (1 : Int))) out h2))))
    (.jmp (.l2 h h1 (IntKind.i64.wrap (h2 + (1 : Int))) out))
def T0_bits_Set_List_t (s : Int × List (Int × Int)) (places : List Int) : JT J_bits_Set_List_t ((List Int) × Int × List (Int × Int)) :=
  .jmp (.l2 (Int.ofNat (List.length places)) places (0 : Int) [])
def K_bits_Set_List_t : (List Int) × Int × List (Int × Int) → Ans := fun (r : (List Int) × Int × List (Int × Int)) => (.rw 3 (.int .i64) r.1, [.bx 89 [.d (.int .i64) r.2.1, .mv (.int .i64) (.int .u64) r.2.2]])
def S_bits_Set_List_t (s : Int × List (Int × Int)) (places : List Int) : J_bits_Set_List_t → Nat × St
  | .l2 h h1 h2 out => (2, ⟨mkTm 56 [(0, .pt 1 0 0), (4, .own 5 0 none), (26, .own 27 0 none), (27, .d (.int .i64) h), (28, .d (.int .i64) h2)], [(1, 0, .box 89 [.d (.int .i64) s.1, .mp 1026 0] (some 0)), (5, 0, .row 3 (.int .i64) out false), (27, 0, .row 3 (.int .i64) h1 false), (1026, 0, .map (.int .i64) (.int .u64) s.2)]⟩)
  | .l8 k h h1 i out h2 => (8, ⟨mkTm 56 [(0, .pt 1 0 0), (4, .own 5 0 none), (7, .d (.int .i64) k), (8, .d (.int .i64) i), (26, .own 27 0 none), (27, .d (.int .i64) h), (28, .d (.int .i64) h2)], [(1, 0, .box 89 [.d (.int .i64) s.1, .mp 1026 0] (some 0)), (5, 0, .row 3 (.int .i64) out false), (27, 0, .row 3 (.int .i64) h1 false), (1026, 0, .map (.int .i64) (.int .u64) s.2)]⟩)
def S0_bits_Set_List_t (s : Int × List (Int × Int)) (places : List Int) : St := ⟨mkTm 56 [(0, .pt 1 0 0), (3, .own 4 0 none), (4, .nil)], [(1, 0, .box 89 [.d (.int .i64) s.1, .mp 1026 0] (some 0)), (4, 0, .row 3 (.int .i64) places false), (1026, 0, .map (.int .i64) (.int .u64) s.2)]⟩
theorem en_bits_Set_List_t (s : Int × List (Int × Int)) (places : List Int) (L : Lt) : evC Go.Proofs.Tryd.prog (clOf t_bits_Set_List_t) tb_bits_Set_List_t L c_bits_Set_List_t 0 (finA Go.Proofs.Tryd.prog tb_bits_Set_List_t Go.Proofs.Tryd.f26 (toPs sg_bits_Set_List_t (s, ()))) (fun _ _ => none) (finA Go.Proofs.Tryd.prog tb_bits_Set_List_t Go.Proofs.Tryd.f26 (toPs sg_bits_Set_List_t (s, ()))) (S0_bits_Set_List_t s places) = (T0_bits_Set_List_t s places).run (fun v => some (K_bits_Set_List_t v)) fun j => L (S_bits_Set_List_t s places j).1 (S_bits_Set_List_t s places j).2 := by kernel_rfl
noncomputable def ps_bits_Set_List_t (s : Int × List (Int × Int)) (places : List Int) : List (Nat × (Lt → Kt)) := procs Go.Proofs.Tryd.prog (clOf t_bits_Set_List_t) tb_bits_Set_List_t c_bits_Set_List_t 0 (fun _ => (finA Go.Proofs.Tryd.prog tb_bits_Set_List_t Go.Proofs.Tryd.f26 (toPs sg_bits_Set_List_t (s, ())))) (fun _ _ _ => none) (fun _ => (finA Go.Proofs.Tryd.prog tb_bits_Set_List_t Go.Proofs.Tryd.f26 (toPs sg_bits_Set_List_t (s, ()))))
theorem lp_bits_Set_List_t (s : Int × List (Int × Int)) (places : List Int) : ∀ (L : Lt) (j : J_bits_Set_List_t), procOf (ps_bits_Set_List_t s places) (S_bits_Set_List_t s places j).1 L (S_bits_Set_List_t s places j).2 = (T_bits_Set_List_t s places j).run (fun v => some (K_bits_Set_List_t v)) fun j => L (S_bits_Set_List_t s places j).1 (S_bits_Set_List_t s places j).2
  | L, .l2 h h1 h2 out => by kernel_rfl
  | L, .l8 k h h1 i out h2 => by kernel_rfl
end
end Go.Ev
end

section
set_option linter.unusedSectionVars false
set_option linter.unusedVariables false
set_option linter.unusedSimpArgs false
set_option linter.unusedVariables false
set_option linter.unusedSimpArgs false
open Go
namespace Go.Ev
theorem g_bits_Set_List_t (s : Int × List (Int × Int)) (places : List Int) (hk : Nat.ble (places.length * 512) limit = true) : Goes (T_bits_Set_List_t s places) (T0_bits_Set_List_t s places) (listAt s.2 places, s) := by
  have hlim : places.length * 512 ≤ limit := Nat.le_of_ble_eq_true hk
  have hn : places.length < 4611686018427387904 := by unfold limit at hlim; omega
  -- within a word
  have inner : ∀ (k : Int) (j : Nat), j < places.length → ∀ (i : Nat), i ≤ 64 → ∀ (out : List Int) r, (out.length + (64 - i)) * 8 ≤ limit →
      Goes (T_bits_Set_List_t s places) (.jmp (.l2 (Int.ofNat (List.length places)) places ((j + 1 : Nat) : Int) (out ++ wordList s.2 k i (64 - i)))) r →
      Goes (T_bits_Set_List_t s places) (.jmp (.l8 k (Int.ofNat (List.length places)) places (i : Int) out (j : Int))) r := by
    intro k j hj
    refine down ?_ fun i hi ih => ?_
    · intro out r _ h
      rw [goes_jmp]
      have e : decide (((64 : Nat) : Int) < (64 : Int)) = false := by decide
      simp only [T_bits_Set_List_t, goes_br, e, Bool.false_eq_true, if_false, wrap_succ (k := j) (by omega)]
      simpa [wordList] using h
    · intro out r hl h
      rw [goes_jmp]
      have e : decide ((i : Int) < (64 : Int)) = true := decide_eq_true (by omega)
      have hw := wrapU_small hi
      have e2 : decide ((i : Int) < (0 : Int)) = false := decide_eq_false (by omega)
      have hcons : wordList s.2 k i (64 - i) = (if bitE (wordAt s.2 k) (i : Nat) then [numE k (i : Nat)] else []) ++ wordList s.2 k (i + 1) (64 - (i + 1)) := by
        unfold wordList
        rw [show 64 - i = (64 - (i + 1)) + 1 by omega, List.range'_succ, List.filter_cons]
        split <;> simp
      rw [hcons] at h
      have hb : ((bitAnd IntKind.u64 (Int.fdiv (Option.getD (mget (kt := (.int .i64)) k s.2) (0 : Int)) (2 ^ (min (Int.toNat (IntKind.u64.wrap (i : Int))) (IntKind.u64).bits))) (1 : Int)) == (1 : Int)) = bitE (wordAt s.2 k) (i : Nat) := rfl
      unfold T_bits_Set_List_t
      rw [goes_br, if_pos e, goes_br, if_neg (by rw [hw, e2]; decide), goes_br, hb, wrap_succ (k := i) (by omega)]
      by_cases hbit : bitE (wordAt s.2 k) (i : Nat) = true
      · rw [if_pos hbit]
        rw [if_pos hbit] at h
        rw [goes_br, if_pos (Nat.ble_eq_true_of_le (by omega))]
        refine ih (out ++ [numE k (i : Nat)]) r (by simp; omega) ?_
        simpa using h
      · rw [if_neg hbit]
        rw [if_neg hbit, List.nil_append] at h
        exact ih out r (by omega) h
  have outer : ∀ j, j ≤ places.length → ∀ out : List Int, (out.length + (places.length - j) * 64) * 8 ≤ limit →
      Goes (T_bits_Set_List_t s places) (.jmp (.l2 (Int.ofNat (List.length places)) places (j : Int) out)) (out ++ listAt s.2 (places.drop j), s) := by
    refine down ?_ fun j hj ih => ?_
    · intro out _
      rw [goes_jmp]
      simp only [T_bits_Set_List_t, goes_br, lt_len_not (Nat.lt_irrefl _), List.drop_length, Bool.false_eq_true, if_false]
      rw [show out ++ listAt s.2 [] = out by simp [listAt]]
      exact .leaf
    · intro out hl
      rw [goes_jmp, drop_cons hj]
      simp only [T_bits_Set_List_t, goes_br, lt_len hj, nng, Bool.and_self, if_true, Int.toNat_natCast, getD_lt hj]
      have hwl := wordList_length s.2 places[j] 0 64
      refine inner places[j] j hj 0 (by omega) out _ (by omega) ?_
      have := ih (out ++ wordList s.2 places[j] 0 64) (by rw [List.length_append]; omega)
      rw [show out ++ listAt s.2 (places[j] :: places.drop (j + 1)) = (out ++ wordList s.2 places[j] 0 64) ++ listAt s.2 (places.drop (j + 1)) by simp only [listAt, List.flatMap_cons, List.append_assoc]]
      exact this
  have := outer 0 (Nat.zero_le _) [] (by simp; omega)
  simpa [T0_bits_Set_List_t] using this
end Go.Ev
end

section
set_option linter.unusedSectionVars false
set_option linter.unusedVariables false
set_option linter.unusedSimpArgs false
set_option maxRecDepth 100000
set_option linter.unusedVariables false
open Go Go.Ev
namespace Go.Ev
/-! ### slices.Sort of numbers: by the library's contract -/
def renSort : Go.Shelf.Ren := ⟨fun n => if n = 189 then 42 else if n = 125 then 51 else if n = 257 then 50 else if n = 128 then 74 else if n = 129 then 75 else if n = 294 then 65 else if n = 295 then 66 else if n = 296 then 67 else if n = 297 then 68 else if n = 298 then 69 else if n = 299 then 70 else if n = 216 then 71 else if n = 300 then 72 else if n = 301 then 73 else if n = 328 then 85 else if n = 329 then 86 else if n = 330 then 87 else if n = 331 then 88 else if n = 332 then 89 else if n = 215 then 90 else if n = 343 then 96 else n,
  fun n => if n = 28 then 31 else if n = 46 then 92 else if n = 51 then 129 else if n = 53 then 91 else if n = 183 then 122 else if n = 182 then 121 else if n = 131 then 118 else if n = 218 then 149 else if n = 222 then 153 else if n = 228 then 157 else if n = 229 then 134 else n,
  fun n => n⟩
theorem renSort_lays : Go.Proofs.Lays.n189 Go.Proofs.Tryd.prog renSort where
  mixed := by kernel_rfl
  f125 := by kernel_rfl
  f128 := by kernel_rfl
  f129 := by kernel_rfl
  f189 := by kernel_rfl
  f215 := by kernel_rfl
  f216 := by kernel_rfl
  f257 := by kernel_rfl
  f294 := by kernel_rfl
  f295 := by kernel_rfl
  f296 := by kernel_rfl
  f297 := by kernel_rfl
  f298 := by kernel_rfl
  f299 := by kernel_rfl
  f300 := by kernel_rfl
  f301 := by kernel_rfl
  f328 := by kernel_rfl
  f329 := by kernel_rfl
  f330 := by kernel_rfl
  f331 := by kernel_rfl
  f332 := by kernel_rfl
  f343 := by kernel_rfl
  t0 := by kernel_rfl
  a0 := fun w => by kernel_rfl
  z0 := fun w => by kernel_rfl
  v0 := fun w => by kernel_rfl
  t3 := by kernel_rfl
  a3 := fun w => by kernel_rfl
  z3 := fun w => by kernel_rfl
  v3 := fun w => by kernel_rfl
  t4 := by kernel_rfl
  a4 := fun w => by kernel_rfl
  z4 := fun w => by kernel_rfl
  v4 := fun w => by kernel_rfl
  t5 := by kernel_rfl
  a5 := fun w => by kernel_rfl
  z5 := fun w => by kernel_rfl
  v5 := fun w => by kernel_rfl
  t9 := by kernel_rfl
  a9 := fun w => by kernel_rfl
  z9 := fun w => by kernel_rfl
  v9 := fun w => by kernel_rfl
  t28 := by kernel_rfl
  a28 := fun w => by kernel_rfl
  z28 := fun w => by kernel_rfl
  v28 := fun w => by kernel_rfl
  t46 := by kernel_rfl
  a46 := fun w => by kernel_rfl
  z46 := fun w => by kernel_rfl
  v46 := fun w => by kernel_rfl
  t51 := by kernel_rfl
  a51 := fun w => by kernel_rfl
  z51 := fun w => by kernel_rfl
  v51 := fun w => by kernel_rfl
  t53 := by kernel_rfl
  a53 := fun w => by kernel_rfl
  z53 := fun w => by kernel_rfl
  v53 := fun w => by kernel_rfl
  t131 := by kernel_rfl
  a131 := fun w => by kernel_rfl
  z131 := fun w => by kernel_rfl
  v131 := fun w => by kernel_rfl
  t182 := by kernel_rfl
  a182 := fun w => by kernel_rfl
  z182 := fun w => by kernel_rfl
  v182 := fun w => by kernel_rfl
  t183 := by kernel_rfl
  a183 := fun w => by kernel_rfl
  z183 := fun w => by kernel_rfl
  v183 := fun w => by kernel_rfl
  t218 := by kernel_rfl
  a218 := fun w => by kernel_rfl
  z218 := fun w => by kernel_rfl
  v218 := fun w => by kernel_rfl
  t222 := by kernel_rfl
  a222 := fun w => by kernel_rfl
  z222 := fun w => by kernel_rfl
  v222 := fun w => by kernel_rfl
  t228 := by kernel_rfl
  a228 := fun w => by kernel_rfl
  z228 := fun w => by kernel_rfl
  v228 := fun w => by kernel_rfl
  t229 := by kernel_rfl
  a229 := fun w => by kernel_rfl
  z229 := fun w => by kernel_rfl
  v229 := fun w => by kernel_rfl

theorem sortOK : SortOK Go.Proofs.Tryd.prog 42 := ⟨fun blk off cap zs w h1 h2 h3 => Go.Proofs.Any.slices_Sort_int renSort_lays blk off cap zs w h1 h2 h3, fun p cap w => Go.Proofs.Any.slices_Sort_int_none renSort_lays p cap w⟩
end Go.Ev
end

section
set_option linter.unusedSectionVars false
set_option linter.unusedVariables false
set_option linter.unusedSimpArgs false
set_option maxRecDepth 100000
set_option linter.unusedVariables false
open Go Go.Ev
namespace Go.Ev
/-! ### (*bits.Set).List: by hand: the keys in whatever order, sorted -/
def sg_bits_Set_List : PSig := [.obj 89 [(.d (.int .i64)), (.m (.int .i64) (.int .u64))]]
def v_bits_Set_List (s : Int × List (Int × Int)) : (List Int) × Int × List (Int × Int) := (listS s, s)
def k_bits_Set_List (s : Int × List (Int × Int)) : Bool := Nat.ble (s.2.length * 512) limit
def K_bits_Set_List : (List Int) × Int × List (Int × Int) → Ans := K_bits_Set_List_t

section
abbrev SetL := List (El (.int .i64) × El (.int .u64))
noncomputable def setListBody : Code := Go.Proofs.Tryd.f26.body.getD .skip
noncomputable def setListR : Code := fstC (sndC (sndC (sndC setListBody)))
noncomputable def setListX : RangeText := rangeText (sndC setListR)
noncomputable def setListSort : Code := fstC (sndC (sndC (sndC (sndC setListBody))))
def setLab1 : Lab := ⟨[0, 3, 4], []⟩
def setLab2 : Lab := ⟨[0, 3, 4, 15], [(4, 62)]⟩
def setObs (s : Int × SetL) (ps : List (El (.int .i64))) : List (Id × Nat × Obj) := [(1, 0, .box 89 [.d (.int .i64) s.1, .mp 1026 0] (some 0)), (4, 0, .row 3 (.int .i64) ps false), (1026, 0, .gone (some 1000))]
def setK (s : Int × SetL) (v : Value) (ps : List (El (.int .i64))) : St := ⟨mkTm 56 [(0, .pt 1 0 0), (3, .own 4 0 none), (4, .nil), (15, .cst v)], setObs s ps⟩
def setI (s : Int × SetL) (v : Value) (done : SetL) : St := setK s v (done.map Prod.fst)
def setT (s : Int × SetL) (v : Value) (done : SetL) (e : El (.int .i64) × El (.int .u64)) : St := ((setI s v done).put (some 16) (.tu [mkB true, .d (.int .i64) e.1, .d (.int .u64) e.2])).put (some 17) (mkB true)
def setU (s : Int × SetL) (v : Value) (done : SetL) (e : El (.int .i64) × El (.int .u64)) : St := (((setT s v done e).put (some 18) (.tu [.d (.int .i64) e.1, .d (.int .u64) e.2])).put (some 19) (.d (.int .i64) e.1)).put (some 5) (.d (.int .i64) e.1)
def setE (s : Int × SetL) (v : Value) (done : SetL) : St := ((setI s v done).put (some 16) (.tu [mkB false])).put (some 17) (mkB false)
/-- ahead of the range: after the first parts; with the map at hand -/
def setA (s : Int × SetL) : St := ⟨mkTm 56 [(0, .pt 1 0 0)], [(1, 0, .box 89 [.d (.int .i64) s.1, .mp 1026 0] (some 0)), (1026, 0, .map (.int .i64) (.int .u64) s.2)]⟩
def setC (s : Int × SetL) : St := ⟨mkTm 56 [(0, .pt 1 0 0), (3, .nil), (4, .nil)], [(1, 0, .box 89 [.d (.int .i64) s.1, .mp 1026 0] (some 0)), (1026, 0, .map (.int .i64) (.int .u64) s.2)]⟩
def setM (s : Int × SetL) : St := ((((setC s).put (some 11) (.pt 1 0 0)).put (some 12) (.pt 1 0 0)).put (some 13) (.pt 1 0 1)).put (some 14) (.mp 1026 0)

theorem setListX_ok : setListX.OK := ⟨by kernel_rfl, by kernel_rfl, by kernel_rfl, by kernel_rfl, by kernel_rfl, by kernel_rfl, by kernel_rfl, by kernel_rfl, by kernel_rfl⟩
theorem setList_round (s : Int × SetL) (v : Value) (done : SetL) (e : El (.int .i64) × El (.int .u64)) (L : Lt) (k : Kt) (x : Nat → Kt) (r : Kt) :
    evC Go.Proofs.Tryd.prog (clOf []) [] L setListX.cr 0 (fun t => k (norm Go.Proofs.Tryd.prog setLab2 t)) x r (setU s v done e) = bif Nat.ble (((done.map Prod.fst).length + 1) * 8) limit then k (setK s v (done.map Prod.fst ++ [e.1])) else none := by kernel_rfl
theorem setList_ev (s : Int × SetL) (hk : k_bits_Set_List s = true) : RangeEv Go.Proofs.Tryd.prog (clOf []) setListX s.2 setLab2 1026 1000 (setI s) (setE s) (setT s) (setU s) where
  it := fun v done => by kernel_rfl
  r1 := fun v done e k => by kernel_rfl
  rt := fun v done e => by kernel_rfl
  re := fun v done e => by kernel_rfl
  r2 := fun v done e k => by kernel_rfl
  r3 := fun v done e rest hp L k x r => by
    have hl := hp.length_eq
    simp only [List.length_append, List.length_cons] at hl
    have hlim : s.2.length * 512 ≤ limit := Nat.le_of_ble_eq_true hk
    rw [setList_round, List.length_map, Nat.ble_eq_true_of_le (by omega), cond_true]
    unfold setI
    rw [List.map_append]
    rfl
  f1 := fun v done k => by kernel_rfl
  ft := fun v done => by kernel_rfl
theorem setList_body : setListBody = .seq (fstC setListBody) (.seq (fstC (sndC setListBody)) (.seq (fstC (sndC (sndC setListBody))) (.seq (.seq (.region (ridC (fstC setListR)) (ropsC (fstC setListR)) false) setListX.code) (.seq (.region (ridC setListSort) (ropsC setListSort) false) c_bits_Set_List_t)))) := by kernel_rfl
theorem setList_a (s : Int × SetL) (L : Lt) (k : Kt) (x : Nat → Kt) (r : Kt) : evC Go.Proofs.Tryd.prog (clOf []) [] L (fstC setListBody) 0 (fun t => k (norm Go.Proofs.Tryd.prog setLab1 t)) x r (setA s) = k (setA s) := by kernel_rfl
theorem setList_b (s : Int × SetL) (L : Lt) (k : Kt) (x : Nat → Kt) (r : Kt) : evC Go.Proofs.Tryd.prog (clOf []) [] L (fstC (sndC setListBody)) 0 (fun t => k (norm Go.Proofs.Tryd.prog setLab1 t)) x r (setA s) = k (setA s) := by kernel_rfl
theorem setList_c (s : Int × SetL) (L : Lt) (k : Kt) (x : Nat → Kt) (r : Kt) : evC Go.Proofs.Tryd.prog (clOf []) [] L (fstC (sndC (sndC setListBody))) 0 (fun t => k (norm Go.Proofs.Tryd.prog setLab1 t)) x r (setA s) = k (setC s) := by kernel_rfl
def mapKV (P : Program) (T : TypeId) : TypeId × TypeId := match P.underlying T with | some (.map K V) => (K, V) | _ => (0, 0)

theorem callOK_bits_Set_List (s : Int × SetL) (hk : k_bits_Set_List s = true) : CallOK Go.Proofs.Tryd.prog 26 (toPs sg_bits_Set_List (s, ())) (K_bits_Set_List (v_bits_Set_List s)) := by
  obtain ⟨hcl, hdet⟩ := clOf_ok (P := Go.Proofs.Tryd.prog) tbl_nil
  have hlim : s.2.length * 512 ≤ limit := Nat.le_of_ble_eq_true hk
  refine callOK_of_wp (tb := tb_bits_Set_List_t) (fn := Go.Proofs.Tryd.f26) (c := setListBody) (vs := [.pt 1 0 0]) (st := ⟨[], [(1, 0, .box 89 [.d (.int .i64) s.1, .mp 1026 0] (some 0)), (1026, 0, .map (.int .i64) (.int .u64) s.2)]⟩) (by kernel_rfl) (by kernel_rfl) (by kernel_rfl) ?_
  intro _ Mod F0 w0 a w hr
  have hr : Rel Mod F0 w0 (setA s) a w := hr
  rw [setList_body]
  refine wp_seq (piece hcl hdet (norm Go.Proofs.Tryd.prog setLab1) (fun h => norm_rel h) (setList_a s) hr fun a w hr => ?_)
  refine wp_seq (piece hcl hdet (norm Go.Proofs.Tryd.prog setLab1) (fun h => norm_rel h) (setList_b s) hr fun a w hr => ?_)
  refine wp_seq (piece hcl hdet (norm Go.Proofs.Tryd.prog setLab1) (fun h => norm_rel h) (setList_c s) hr fun a w hr => ?_)
  -- the range
  refine wp_seq (wp_seq (wp_region ?_))
  rw [show List.range (ropsC (fstC setListR)).size = [0, 1, 2, 3, 4] from by kernel_rfl]
  refine evOp hcl (o := opC (fstC setListR) 0) (st1 := (setC s).put (some 11) (.pt 1 0 0)) (by kernel_rfl) (by kernel_rfl) (fun k => by kernel_rfl) hr fun a w hr => ?_
  refine evOp hcl (o := opC (fstC setListR) 1) (st1 := ((setC s).put (some 11) (.pt 1 0 0)).put (some 12) (.pt 1 0 0)) (by kernel_rfl) (by kernel_rfl) (fun k => by kernel_rfl) hr fun a w hr => ?_
  refine evOp hcl (o := opC (fstC setListR) 2) (st1 := (((setC s).put (some 11) (.pt 1 0 0)).put (some 12) (.pt 1 0 0)).put (some 13) (.pt 1 0 1)) (by kernel_rfl) (by kernel_rfl) (fun k => by kernel_rfl) hr fun a w hr => ?_
  refine evOp hcl (o := opC (fstC setListR) 3) (st1 := setM s) (by kernel_rfl) (by kernel_rfl) (fun k => by kernel_rfl) hr fun a w hr => ?_
  refine handOp (o := opC (fstC setListR) 4) (by kernel_rfl) (by kernel_rfl) ?_
  refine rangeLoop (tm := 14) (idm0 := 1026) (ver0 := 0) (T := (match (opC (fstC setListR) 4).op with | .range T _ => T | _ => 0)) (K := (mapKV Go.Proofs.Tryd.prog (match (opC (fstC setListR) 4).op with | .range T _ => T | _ => 0)).1) (V := (mapKV Go.Proofs.Tryd.prog (match (opC (fstC setListR) 4).op with | .range T _ => T | _ => 0)).2)
    hcl hdet setListX_ok rfl rfl (setList_ev s hk) (by kernel_rfl) (by kernel_rfl) (by kernel_rfl) (by kernel_rfl) (by kernel_rfl) (by kernel_rfl) (fun v => by kernel_rfl) (fun v done => by kernel_rfl) (fun v done => by kernel_rfl) hr ?_
  intro v done a w hperm hr
  -- the sort
  have hr : Rel Mod F0 w0 (S0_bits_Set_List_t s (done.map Prod.fst)) a w := norm_rel (P := Go.Proofs.Tryd.prog) (lab := setLab1) hr
  refine wp_seq (wp_region ?_)
  rw [show List.range (ropsC setListSort).size = [0, 1] from by kernel_rfl]
  refine evOp hcl (o := opC setListSort 0) (st1 := (S0_bits_Set_List_t s (done.map Prod.fst)).put (some 24) (.own 4 0 none)) (by kernel_rfl) (by kernel_rfl) (fun k => by kernel_rfl) hr fun a w hr => ?_
  refine handOp (o := opC setListSort 1) (by kernel_rfl) (by kernel_rfl) ?_
  refine sortStep (ts := 24) (id := 4) (ver := 0) (E := 3) (l := done.map Prod.fst) (c := (match (opC setListSort 1).op with | .call c => c | _ => default)) (fn := Go.Proofs.Tryd.f42) (body := Go.Proofs.Tryd.f42.body.getD .skip) (by kernel_rfl) (by kernel_rfl) (by kernel_rfl) (by kernel_rfl) (by kernel_rfl) (by kernel_rfl) (by kernel_rfl) (by kernel_rfl) sortOK (by
    rw [List.length_map, hperm.length_eq]
    unfold limit at hlim
    omega) hr fun a w hr => ?_
  have hr : Rel Mod F0 w0 (S0_bits_Set_List_t s (sorted (done.map Prod.fst))) a w := norm_rel (P := Go.Proofs.Tryd.prog) (lab := setLab1) hr
  rw [sorted_perm (hperm.map Prod.fst)] at hr
  have hg := g_bits_Set_List_t s (sorted (s.2.map Prod.fst)) (by rw [List.length_mergeSort, List.length_map]; exact hk)
  exact tailStep hcl hdet (ps := ps_bits_Set_List_t s (sorted (s.2.map Prod.fst))) rfl (by kernel_rfl) (en_bits_Set_List_t s _) (lp_bits_Set_List_t s _) hg hr
end
noncomputable def e_bits_Set_List : Run := entO sg_bits_Set_List K_bits_Set_List (fun a => k_bits_Set_List a.1) (fun a => v_bits_Set_List a.1)
theorem ok_bits_Set_List : EntOK Go.Proofs.Tryd.prog 26 e_bits_Set_List := entO_hand (noRun_ok (known_of (fn := Go.Proofs.Tryd.f26) (c := setListBody) (by kernel_rfl) (by kernel_rfl) (by kernel_rfl))) fun a h => callOK_bits_Set_List a.1 h
end Go.Ev
end

section
set_option linter.unusedSectionVars false
set_option linter.unusedVariables false
set_option linter.unusedSimpArgs false
set_option maxRecDepth 100000
set_option linter.unusedVariables false
open Go Go.Ev
namespace Go.Ev
noncomputable section
/-! ### paling/flow.From -/
def sg_flow_From : Sig := [(true, (.sl T_api_Ins)), (false, (.int .i64))]
noncomputable def t_flow_From : Tbl := [(22, e_bits_New), (43, e_flow_Next), (24, e_bits_Set_Put), (26, e_bits_Set_List)]
theorem tk_flow_From : ∀ p ∈ t_flow_From, EntOK Go.Proofs.Tryd.prog p.1 p.2 := tbl_cons ok_bits_New (tbl_cons ok_flow_Next (tbl_cons ok_bits_Set_Put (tbl_cons ok_bits_Set_List (tbl_nil))))
noncomputable def c_flow_From : Code := Go.Proofs.Tryd.f30.body.getD .skip
def tb_flow_From : Tb := [(4, ⟨[2, 5, 6], [(1000000000000000000000000000000000000000000000000000000000007, 1)]⟩)]
inductive J_flow_From where
  | l4 (len : Nat) (seen : Int) (open_ : List Int) (seen1 : List (Int × Int))
def T_flow_From (t : List (El T_api_Ins)) (i : Int) : J_flow_From → JT J_flow_From (List Int)
  | .l4 len seen open_ seen1 =>
    .br (decide ((Int.ofNat len) > (0 : Int)))
      (.br ((decide ((0 : Int) ≤ (IntKind.i64.wrap ((Int.ofNat len) - (1 : Int))))) && (decide ((IntKind.i64.wrap ((Int.ofNat len) - (1 : Int))) < (Int.ofNat len))))
        (.br ((decide ((0 : Int) ≤ (IntKind.i64.wrap ((Int.ofNat len) - (1 : Int))))) && (decide ((IntKind.i64.wrap ((Int.ofNat len) - (1 : Int))) ≤ (Int.ofNat len))))
          (.br (v_bits_Set_Put (seen, seen1) (List.getD open_ (Int.toNat (IntKind.i64.wrap ((Int.ofNat len) - (1 : Int)))) (dflt (.int .i64)))).1
            (.br (k_flow_Next t (List.getD open_ (Int.toNat (IntKind.i64.wrap ((Int.ofNat len) - (1 : Int)))) (dflt (.int .i64))))
              (.br (Nat.ble (((List.length (List.take (Int.toNat (IntKind.i64.wrap ((Int.ofNat len) - (1 : Int)))) open_)) + (List.length (v_flow_Next t (List.getD open_ (Int.toNat (IntKind.i64.wrap ((Int.ofNat len) - (1 : Int)))) (dflt (.int .i64)))))) * 8) limit)
                (.jmp (.l4 (List.length ((List.take (Int.toNat (IntKind.i64.wrap ((Int.ofNat len) - (1 : Int)))) open_) ++ (v_flow_Next t (List.getD open_ (Int.toNat (IntKind.i64.wrap ((Int.ofNat len) - (1 : Int)))) (dflt (.int .i64)))))) (v_bits_Set_Put (seen, seen1) (List.getD open_ (Int.toNat (IntKind.i64.wrap ((Int.ofNat len) - (1 : Int)))) (dflt (.int .i64)))).2.1 ((List.take (Int.toNat (IntKind.i64.wrap ((Int.ofNat len) - (1 : Int)))) open_) ++ (v_flow_Next t (List.getD open_ (Int.toNat (IntKind.i64.wrap ((Int.ofNat len) - (1 : Int)))) (dflt (.int .i64))))) (v_bits_Set_Put (seen, seen1) (List.getD open_ (Int.toNat (IntKind.i64.wrap ((Int.ofNat len) - (1 : Int)))) (dflt (.int .i64)))).2.2))
              (.no))
            (.no))
          (.jmp (.l4 (Int.toNat (IntKind.i64.wrap ((Int.ofNat len) - (1 : Int)))) (v_bits_Set_Put (seen, seen1) (List.getD open_ (Int.toNat (IntKind.i64.wrap ((Int.ofNat len) - (1 : Int)))) (dflt (.int .i64)))).2.1 open_ (v_bits_Set_Put (seen, seen1) (List.getD open_ (Int.toNat (IntKind.i64.wrap ((Int.ofNat len) - (1 : Int)))) (dflt (.int .i64)))).2.2)))
        (.no))
      (.no))
    (.br (k_bits_Set_List (seen, seen1))
      (.leaf (v_bits_Set_List (seen, seen1)).1)
    (.no))
def T0_flow_From (t : List (El T_api_Ins)) (i : Int) : JT J_flow_From (List Int) :=
  .br (k_flow_Next t i)
    (.jmp (.l4 (List.length (v_flow_Next t i)) (v_bits_New (Int.ofNat (List.length t))).1 (v_flow_Next t i) (v_bits_New (Int.ofNat (List.length t))).2))
  (.no)
def R_flow_From : List Int → AV := fun (r : List Int) => .rw 3 (.int .i64) r
def S_flow_From (t : List (El T_api_Ins)) (i : Int) : J_flow_From → Nat × St
  | .l4 len seen open_ seen1 => (4, ⟨mkTm 39 [(2, .pt 3 0 0), (5, .pt 6 0 0), (6, .own 7 0 (some len))], [(3, 0, .box 35 [.d (.sl T_api_Ins) t] none), (6, 0, .box 89 [.d (.int .i64) seen, .mp 6146 0] none), (7, 0, .row 3 (.int .i64) open_ false), (6146, 0, .map (.int .i64) (.int .u64) seen1)]⟩)
theorem en_flow_From (t : List (El T_api_Ins)) (i : Int) (L : Lt) : entryA Go.Proofs.Tryd.prog (clOf t_flow_From) tb_flow_From Go.Proofs.Tryd.f30 c_flow_From L (toForms sg_flow_From (t, i, ())) = (T0_flow_From t i).run (fun v => some (R_flow_From v, tps (toForms sg_flow_From (t, i, ())))) fun j => L (S_flow_From t i j).1 (S_flow_From t i j).2 := by kernel_rfl
theorem lp_flow_From (t : List (El T_api_Ins)) (i : Int) : ∀ (L : Lt) (j : J_flow_From), procOf (procsF Go.Proofs.Tryd.prog (clOf t_flow_From) tb_flow_From Go.Proofs.Tryd.f30 c_flow_From (toForms sg_flow_From (t, i, ()))) (S_flow_From t i j).1 L (S_flow_From t i j).2 = (T_flow_From t i j).run (fun v => some (R_flow_From v, tps (toForms sg_flow_From (t, i, ())))) fun j => L (S_flow_From t i j).1 (S_flow_From t i j).2
  | L, .l4 len seen open_ seen1 => by kernel_rfl
end
end Go.Ev
end

section
set_option linter.unusedSectionVars false
set_option linter.unusedVariables false
set_option linter.unusedSimpArgs false
set_option maxRecDepth 100000
set_option linter.unusedVariables false
set_option linter.unusedSimpArgs false
open Go
namespace Go.Ev
noncomputable def v_flow_From (t : List (El T_api_Ins)) (i : Int) : List Int := listOf t.length (fromB t i)
def k_flow_From (t : List (El T_api_Ins)) (i : Int) : Bool := flowOK t
theorem next_short (t : List (El T_api_Ins)) (i : Int) : (v_flow_Next t i).length ≤ 3 := by
  unfold v_flow_Next
  by_cases h : 0 ≤ i ∧ i < (t.length : Int)
  · obtain ⟨j, rfl⟩ := Int.eq_ofNat_of_zero_le h.1
    rw [← nextL_eq (by omega)]
    unfold nextL
    simp only [List.length_append]
    split <;> split <;> split <;> simp
  · rw [nextB_out h]; simp
theorem take_pred {l : List Int} {n : Nat} (h : n + 1 ≤ l.length) : l.take (n + 1) = l.take n ++ [l.getD n 0] := by
  have hn : n < l.length := by omega
  rw [List.take_succ_eq_append_getElem hn, getD_lt hn]
theorem g_flow_From (t : List (El T_api_Ins)) (i : Int) (hk : k_flow_From t i = true) : Goes (T_flow_From t i) (T0_flow_From t i) (v_flow_From t i) := by
  have hlen := flowOK_len hk
  generalize hn : t.length = n at hlen
  have loop : ∀ m, ∀ (M : Nat → Bool) (s : Int × List (Int × Int)) (open_ : List Int) (len : Nat), len ≤ open_.length → 4 * (n - card n M) + len = m → SetOK s n M → (∀ j, M j = true → Come (fun k j => nextB t (k : Int) j) (nextB t i) j) →
      (∀ x ∈ open_.take len, ∃ j : Nat, x = (j : Int) ∧ Come (fun k j => nextB t (k : Int) j) (nextB t i) j) → (∀ j, nextB t i j = true → M j = true ∨ (j : Int) ∈ open_.take len) → (∀ k j, M k = true → nextB t (k : Int) j = true → M j = true ∨ (j : Int) ∈ open_.take len) →
      len ≤ 3 * (card n M + 1) → Goes (T_flow_From t i) (.jmp (.l4 len s.1 open_ s.2)) (v_flow_From t i) := by
    intro m
    induction m using Nat.strongRecOn with
    | _ m ih =>
    intro M s open_ len hl hm hs h1 h2 h3 h4 h5
    cases len with
    | zero =>
      rw [goes_jmp, T_flow_From, goes_br, if_neg (by decide)]
      have hkl : k_bits_Set_List (s.1, s.2) = true := Nat.ble_eq_true_of_le (by have := hs.few; unfold limit; show s.2.length * 512 ≤ _; omega)
      rw [goes_br, if_pos hkl]
      have hv : (v_bits_Set_List (s.1, s.2)).1 = v_flow_From t i := by
        show listS s = _
        rw [hs.list (by omega)]
        unfold v_flow_From fromB
        rw [hn]
        refine listOf_congr fun j _ => comeB_eq (fun j hj => ?_) (fun k j hk hj => ?_) h1 j
        · simpa using h3 j hj
        · simpa using h4 k j hk hj
      rw [hv]; exact .leaf
    | succ len =>
      have hc := @card_le n M
      have e : IntKind.i64.wrap (Int.ofNat (len + 1) - 1) = (len : Int) := by
        rw [wrap_i64 (by simp <;> omega) (by simp <;> omega)]; simp
      have g1 : decide (Int.ofNat (len + 1) > (0 : Int)) = true := decide_eq_true (by simp <;> omega)
      have g2 : (decide ((0 : Int) ≤ (len : Int)) && decide ((len : Int) < Int.ofNat (len + 1))) = true := bound_len (by omega)
      have g3 : (decide ((0 : Int) ≤ (len : Int)) && decide ((len : Int) ≤ Int.ofNat (len + 1))) = true := by simp; omega
      rw [goes_jmp, T_flow_From, e, goes_br, if_pos g1, goes_br, if_pos g2, goes_br, if_pos g3, goes_br, Int.toNat_natCast]
      have htk := take_pred hl
      obtain ⟨j, hj, hcj⟩ := h2 (open_.getD len 0) (by rw [htk]; simp)
      have hjn : j < n := by
        have := come_lt (n := t.length) (fun j => nextB_lt) (fun k j => nextB_lt) hcj
        omega
      have hd : open_.getD len (dflt (.int .i64)) = (j : Int) := hj
      rw [hd]
      have hput : v_bits_Set_Put (s.1, s.2) (j : Int) = putS s (j : Int) := rfl
      rw [hput]
      have sub : ∀ x, x ∈ open_.take len → x ∈ open_.take (len + 1) := fun x hx => by rw [htk]; simp [hx]
      cases hMj : M j with
      | true =>
        have hno := hs.put_no (by omega) (i := (j : Int)) (fun h => by rw [Int.toNat_natCast, hMj] at h; cases h.2.2)
        rw [hno, if_neg (by simp)]
        have lose : ∀ k : Nat, (M k = true ∨ (k : Int) ∈ open_.take (len + 1)) → (M k = true ∨ (k : Int) ∈ open_.take len) := fun k h => by
          rcases h with h | h
          · exact .inl h
          · rw [htk, List.mem_append] at h
            rcases h with h | h
            · exact .inr h
            · simp only [List.mem_singleton] at h
              rw [hj] at h
              have : k = j := by omega
              subst this
              exact .inl hMj
        exact ih (m - 1) (by omega) M s open_ len (by omega) (by omega) hs h1 (fun x hx => h2 x (sub x hx)) (fun k hk => lose k (h3 k hk)) (fun k k' hk hk' => lose k' (h4 k k' hk hk')) (by omega)
      | false =>
        obtain ⟨p1, p2⟩ := hs.put (by omega) hjn hMj
        have hsh := next_short t (j : Int)
        have hkn : k_flow_Next t (j : Int) = true := hk
        rw [p1, if_pos rfl, goes_br, if_pos hkn, goes_br, if_pos (Nat.ble_eq_true_of_le (by
          rw [List.length_take]; unfold limit; omega))]
        have hcard := card_add hMj hjn
        have hcl2 := @card_le n (fun k => M k || (k == j))
        have hnl : ∀ k : Nat, nextB t (j : Int) k = true → (k : Int) ∈ v_flow_Next t (j : Int) := fun k hk => listOf_mem.2 ⟨k, nextB_lt hk, hk, rfl⟩
        have htake : (open_.take len ++ v_flow_Next t (j : Int)).take (open_.take len ++ v_flow_Next t (j : Int)).length = open_.take len ++ v_flow_Next t (j : Int) := List.take_length
        have hlen2 : (open_.take len ++ v_flow_Next t (j : Int)).length ≤ len + 3 := by rw [List.length_append, List.length_take]; omega
        have keep : ∀ k : Nat, (M k = true ∨ (k : Int) ∈ open_.take (len + 1)) → ((M k || (k == j)) = true ∨ (k : Int) ∈ open_.take len ++ v_flow_Next t (j : Int)) := fun k h => by
          rcases h with h | h
          · exact .inl (by rw [h]; rfl)
          · rw [htk, List.mem_append] at h
            rcases h with h | h
            · exact .inr (List.mem_append_left _ h)
            · simp only [List.mem_singleton] at h
              rw [hj] at h
              have : k = j := by omega
              subst this
              exact .inl (by simp)
        refine ih _ (by omega) (fun k => M k || (k == j)) (putS s (j : Int)).2 (open_.take len ++ v_flow_Next t (j : Int)) (open_.take len ++ v_flow_Next t (j : Int)).length (Nat.le_refl _) rfl p2 (fun k hk => ?_) (fun x hx => ?_) (fun k hk => ?_) (fun k k' hk hk' => ?_) (by omega)
        · simp only [Bool.or_eq_true, beq_iff_eq] at hk
          rcases hk with hk | hk
          · exact h1 k hk
          · subst hk; exact hcj
        · rw [htake, List.mem_append] at hx
          rcases hx with hx | hx
          · exact h2 x (sub x hx)
          · obtain ⟨k, _, hk, rfl⟩ := listOf_mem.1 hx
            exact ⟨k, rfl, .step hcj hk⟩
        · rw [htake]; exact keep k (h3 k hk)
        · rw [htake]
          simp only [Bool.or_eq_true, beq_iff_eq] at hk
          rcases hk with hk | hk
          · exact keep k' (h4 k k' hk hk')
          · subst hk
            exact .inr (List.mem_append_right _ (hnl k' hk'))
  have hkn : k_flow_Next t i = true := hk
  unfold T0_flow_From
  rw [goes_br, if_pos hkn]
  have hnew : v_bits_New (Int.ofNat (List.length t)) = ((n : Int), []) := by
    rw [hn]
    unfold v_bits_New
    simp
    omega
  rw [hnew]
  refine loop _ (fun _ => false) ((n : Int), []) (v_flow_Next t i) _ (Nat.le_refl _) rfl (SetOK.new n) (fun j h => by cases h) (fun x hx => ?_) (fun j hj => .inr ?_) (fun k j h => by cases h) (by have := next_short t i; omega)
  · rw [List.take_length] at hx
    obtain ⟨k, _, hk, rfl⟩ := listOf_mem.1 hx
    exact ⟨k, rfl, .start hk⟩
  · rw [List.take_length]; exact listOf_mem.2 ⟨j, nextB_lt hj, hj, rfl⟩
end Go.Ev
end

section
set_option linter.unusedSectionVars false
set_option linter.unusedVariables false
set_option linter.unusedSimpArgs false
set_option maxRecDepth 100000
set_option linter.unusedVariables false
open Go Go.Ev
namespace Go.Ev
noncomputable section
noncomputable def e_flow_From : Run := entG sg_flow_From R_flow_From (fun a => k_flow_From a.1 a.2.1) (fun a => v_flow_From a.1 a.2.1)
theorem ok_flow_From : EntOK Go.Proofs.Tryd.prog 30 e_flow_From := entG_ok (tb := tb_flow_From) (c := c_flow_From) tk_flow_From (by kernel_rfl) (by kernel_rfl) (by kernel_rfl) (fun a => by kernel_rfl) fun ⟨t, i, _⟩ hk => evF_goes (c := c_flow_From) (K := fun v => (R_flow_From v, tps (toForms sg_flow_From (t, i, ())))) (S := S_flow_From t i) (by kernel_rfl) (en_flow_From t i) (lp_flow_From t i) (g_flow_From t i hk)
end
end Go.Ev
end

section
set_option linter.unusedSectionVars false
set_option linter.unusedVariables false
set_option linter.unusedSimpArgs false
set_option maxRecDepth 100000
set_option linter.unusedVariables false
open Go Go.Ev
namespace Go.Ev
noncomputable section
/-! ### paling/clash.behind -/
def sg_clash_behind : Sig := [(true, T_api_Prog), (false, (.sl T_api_Access)), (false, (.int .i64))]
noncomputable def t_clash_behind : Tbl := [(22, e_bits_New), (30, e_flow_From), (24, e_bits_Set_Put), (31, e_bits_Set_Has)]
theorem tk_clash_behind : ∀ p ∈ t_clash_behind, EntOK Go.Proofs.Tryd.prog p.1 p.2 := tbl_cons ok_bits_New (tbl_cons ok_flow_From (tbl_cons ok_bits_Set_Put (tbl_cons ok_bits_Set_Has (tbl_nil))))
noncomputable def c_clash_behind : Code := Go.Proofs.Tryd.f25.body.getD .skip
def tb_clash_behind : Tb := [(6, ⟨[1, 2, 7, 9, 32, 33, 34, 58, 64, 69, 70, 72, 76], []⟩), (14, ⟨[2, 7, 9, 12, 42, 43, 44], [(13, 62)]⟩)]
inductive J_clash_behind where
  | l6 (h : Int) (x : Int) (x1 : Int) (x2 : Int) (x3 : Int) (x4 : Bool) (x5 : Bool) (from_ : Int) (h1 : List Int) (from_1 : List (Int × Int)) (h2 : Int)
  | l14 (x : Int) (x1 : Int) (x2 : Int) (x3 : Int) (x4 : Bool) (x5 : Bool) (from_ : Int) (from_1 : List (Int × Int)) (h : Int) (out : List Int)
def T_clash_behind (p : El T_api_Prog) (l : List (El T_api_Access)) (c : Int) : J_clash_behind → JT J_clash_behind (List Int)
  | .l6 h x x1 x2 x3 x4 x5 from_ h1 from_1 h2 =>
    .br (decide (h2 < h))
      (.br ((decide ((0 : Int) ≤ h2)) && (decide (h2 < (Int.ofNat (List.length h1)))))
        (.jmp (.l6 h x x1 x2 x3 x4 x5 (v_bits_Set_Put (from_, from_1) (List.getD h1 (Int.toNat h2) (dflt (.int .i64)))).2.1 h1 (v_bits_Set_Put (from_, from_1) (List.getD h1 (Int.toNat h2) (dflt (.int .i64)))).2.2 (IntKind.i64.wrap (h2 + (1 : Int)))))
      (.no))
    (.jmp (.l14 x x1 x2 x3 x4 x5 from_ from_1 (0 : Int) []))
  | .l14 x x1 x2 x3 x4 x5 from_ from_1 h out =>
    .br (decide (h < (Int.ofNat (List.length l))))
      (.br ((decide ((0 : Int) ≤ h)) && (decide (h < (Int.ofNat (List.length l)))))
        (.br ((List.getD l (Int.toNat h) (dflt T_api_Access)).1 == x)
          (.br (h == c)
            (.br (Nat.ble (((List.length out) + 1) * 8) limit)
              (.jmp (.l14 x x1 x2 x3 x4 x5 from_ from_1 (IntKind.i64.wrap (h + (1 : Int))) (out ++ [h])))
            (.no))
          (.br ((List.getD l (Int.toNat h) (dflt T_api_Access)).2.1 == x1)
            (.br (decide ((List.getD l (Int.toNat h) (dflt T_api_Access)).2.2.1 > x2))
              (.br (Nat.ble (((List.length out) + 1) * 8) limit)
                (.jmp (.l14 x x1 x2 x3 x4 x5 from_ from_1 (IntKind.i64.wrap (h + (1 : Int))) (out ++ [h])))
              (.no))
            (.br (v_bits_Set_Has (from_, from_1) (List.getD l (Int.toNat h) (dflt T_api_Access)).2.1).1
              (.br (Nat.ble (((List.length out) + 1) * 8) limit)
                (.jmp (.l14 x x1 x2 x3 x4 x5 (v_bits_Set_Has (from_, from_1) (List.getD l (Int.toNat h) (dflt T_api_Access)).2.1).2.1 (v_bits_Set_Has (from_, from_1) (List.getD l (Int.toNat h) (dflt T_api_Access)).2.1).2.2 (IntKind.i64.wrap (h + (1 : Int))) (out ++ [h])))
              (.no))
            (.jmp (.l14 x x1 x2 x3 x4 x5 (v_bits_Set_Has (from_, from_1) (List.getD l (Int.toNat h) (dflt T_api_Access)).2.1).2.1 (v_bits_Set_Has (from_, from_1) (List.getD l (Int.toNat h) (dflt T_api_Access)).2.1).2.2 (IntKind.i64.wrap (h + (1 : Int))) out))))
          (.br (v_bits_Set_Has (from_, from_1) (List.getD l (Int.toNat h) (dflt T_api_Access)).2.1).1
            (.br (Nat.ble (((List.length out) + 1) * 8) limit)
              (.jmp (.l14 x x1 x2 x3 x4 x5 (v_bits_Set_Has (from_, from_1) (List.getD l (Int.toNat h) (dflt T_api_Access)).2.1).2.1 (v_bits_Set_Has (from_, from_1) (List.getD l (Int.toNat h) (dflt T_api_Access)).2.1).2.2 (IntKind.i64.wrap (h + (1 : Int))) (out ++ [h])))
            (.no))
          (.jmp (.l14 x x1 x2 x3 x4 x5 (v_bits_Set_Has (from_, from_1) (List.getD l (Int.toNat h) (dflt T_api_Access)).2.1).2.1 (v_bits_Set_Has (from_, from_1) (List.getD l (Int.toNat h) (dflt T_api_Access)).2.1).2.2 (IntKind.i64.wrap (h + (1 : Int))) out)))))
        (.jmp (.l14 x x1 x2 x3 x4 x5 from_ from_1 (IntKind.i64.wrap (h + (1 : Int))) out)))
      (.no))
    (.leaf out)
def T0_clash_behind (p : El T_api_Prog) (l : List (El T_api_Access)) (c : Int) : JT J_clash_behind (List Int) :=
  .br ((decide ((0 : Int) ≤ c)) && (decide (c < (Int.ofNat (List.length l)))))
    (.br ((decide ((0 : Int) ≤ (List.getD l (Int.toNat c) (dflt T_api_Access)).1)) && (decide ((List.getD l (Int.toNat c) (dflt T_api_Access)).1 < (Int.ofNat (List.length p.2)))))
      (.br (k_flow_From (List.getD p.2 (Int.toNat (List.getD l (Int.toNat c) (dflt T_api_Access)).1) (dflt (.sl T_api_Ins))) (List.getD l (Int.toNat c) (dflt T_api_Access)).2.1)
        (.jmp (.l6 (Int.ofNat (List.length (v_flow_From (List.getD p.2 (Int.toNat (List.getD l (Int.toNat c) (dflt T_api_Access)).1) (dflt (.sl T_api_Ins))) (List.getD l (Int.toNat c) (dflt T_api_Access)).2.1))) (List.getD l (Int.toNat c) (dflt T_api_Access)).1 (List.getD l (Int.toNat c) (dflt T_api_Access)).2.1 (List.getD l (Int.toNat c) (dflt T_api_Access)).2.2.1 (List.getD l (Int.toNat c) (dflt T_api_Access)).2.2.2.1 (List.getD l (Int.toNat c) (dflt T_api_Access)).2.2.2.2.1 (List.getD l (Int.toNat c) (dflt T_api_Access)).2.2.2.2.2 (v_bits_New (Int.ofNat (List.length (List.getD p.2 (Int.toNat (List.getD l (Int.toNat c) (dflt T_api_Access)).1) (dflt (.sl T_api_Ins)))))).1 (v_flow_From (List.getD p.2 (Int.toNat (List.getD l (Int.toNat c) (dflt T_api_Access)).1) (dflt (.sl T_api_Ins))) (List.getD l (Int.toNat c) (dflt T_api_Access)).2.1) (v_bits_New (Int.ofNat (List.length (List.getD p.2 (Int.toNat (List.getD l (Int.toNat c) (dflt T_api_Access)).1) (dflt (.sl T_api_Ins)))))).2 (0 : Int)))
      (.no))
    (.no))
  (.no)
def R_clash_behind : List Int → AV := fun (r : List Int) => .rw 3 (.int .i64) r
def S_clash_behind (p : El T_api_Prog) (l : List (El T_api_Access)) (c : Int) : J_clash_behind → Nat × St
  | .l6 h x x1 x2 x3 x4 x5 from_ h1 from_1 h2 => (6, ⟨mkTm 85 [(1, .d (.sl T_api_Access) l), (2, .d (.int .i64) c), (7, .pt 8 0 0), (9, .pt 10 0 0), (32, .own 33 0 none), (33, .d (.int .i64) h), (34, .d (.int .i64) h2)], [(8, 0, .box 66 [.d (.int .i64) x, .d (.int .i64) x1, .d (.int .i64) x2, .d (.int .i64) x3, .d .bool x4, .d .bool x5] none), (10, 0, .box 89 [.d (.int .i64) from_, .mp 10242 0] none), (33, 0, .row 3 (.int .i64) h1 false), (10242, 0, .map (.int .i64) (.int .u64) from_1)]⟩)
  | .l14 x x1 x2 x3 x4 x5 from_ from_1 h out => (14, ⟨mkTm 85 [(2, .d (.int .i64) c), (7, .pt 8 0 0), (9, .pt 10 0 0), (12, .own 13 0 none), (42, .d (.sl T_api_Access) l), (43, .d (.int .i64) (Int.ofNat (List.length l))), (44, .d (.int .i64) h)], [(8, 0, .box 66 [.d (.int .i64) x, .d (.int .i64) x1, .d (.int .i64) x2, .d (.int .i64) x3, .d .bool x4, .d .bool x5] none), (10, 0, .box 89 [.d (.int .i64) from_, .mp 10242 0] none), (13, 0, .row 3 (.int .i64) out false), (10242, 0, .map (.int .i64) (.int .u64) from_1)]⟩)
theorem en_clash_behind (p : El T_api_Prog) (l : List (El T_api_Access)) (c : Int) (L : Lt) : entryA Go.Proofs.Tryd.prog (clOf t_clash_behind) tb_clash_behind Go.Proofs.Tryd.f25 c_clash_behind L (toForms sg_clash_behind (p, l, c, ())) = (T0_clash_behind p l c).run (fun v => some (R_clash_behind v, tps (toForms sg_clash_behind (p, l, c, ())))) fun j => L (S_clash_behind p l c j).1 (S_clash_behind p l c j).2 := by kernel_rfl
theorem lp_clash_behind (p : El T_api_Prog) (l : List (El T_api_Access)) (c : Int) : ∀ (L : Lt) (j : J_clash_behind), procOf (procsF Go.Proofs.Tryd.prog (clOf t_clash_behind) tb_clash_behind Go.Proofs.Tryd.f25 c_clash_behind (toForms sg_clash_behind (p, l, c, ()))) (S_clash_behind p l c j).1 L (S_clash_behind p l c j).2 = (T_clash_behind p l c j).run (fun v => some (R_clash_behind v, tps (toForms sg_clash_behind (p, l, c, ())))) fun j => L (S_clash_behind p l c j).1 (S_clash_behind p l c j).2
  | L, .l6 h x x1 x2 x3 x4 x5 from_ h1 from_1 h2 => by kernel_rfl
  | L, .l14 x x1 x2 x3 x4 x5 from_ from_1 h out => by kernel_rfl
end
end Go.Ev
end

section
set_option linter.unusedSectionVars false
set_option linter.unusedVariables false
set_option linter.unusedSimpArgs false
set_option maxRecDepth 100000
set_option linter.unusedVariables false
set_option linter.unusedSimpArgs false
open Go
namespace Go.Ev
noncomputable def v_clash_behind (p : El T_api_Prog) (l : List (El T_api_Access)) (c : Int) : List Int := listOf l.length (behB p l c.toNat)
def k_clash_behind (p : El T_api_Prog) (l : List (El T_api_Access)) (c : Int) : Bool := decide (0 ≤ c ∧ c < (l.length : Int) ∧ l.length < 1099511627776) && (decide (0 ≤ thA l c.toNat ∧ thA l c.toNat < (p.2.length : Int)) && flowOK (thrOf p l c.toNat))
theorem g_clash_behind (p : El T_api_Prog) (l : List (El T_api_Access)) (c : Int) (hk : k_clash_behind p l c = true) : Goes (T_clash_behind p l c) (T0_clash_behind p l c) (v_clash_behind p l c) := by
  unfold k_clash_behind at hk
  simp only [Bool.and_eq_true, decide_eq_true_eq] at hk
  obtain ⟨⟨c0, c1, hN⟩, ⟨t0, t1⟩, hf⟩ := hk
  obtain ⟨c, rfl⟩ := Int.eq_ofNat_of_zero_le c0
  rw [Int.toNat_natCast] at t0 t1 hf
  have hc : c < l.length := by omega
  have htl := flowOK_len hf
  obtain ⟨t, ht⟩ : ∃ t, thrOf p l c = t := ⟨_, rfl⟩
  have hg : List.getD p.2 (Int.toNat (List.getD l c (dflt T_api_Access)).1) (dflt (.sl T_api_Ins)) = t := ht
  rw [ht] at hf htl
  have kf : k_flow_From t (List.getD l c (dflt T_api_Access)).2.1 = true := hf
  obtain ⟨L, hL⟩ : ∃ L, v_flow_From t (List.getD l c (dflt T_api_Access)).2.1 = L := ⟨_, rfl⟩
  have hLl : L.length ≤ t.length := by rw [← hL]; unfold v_flow_From; rw [listOf_length]; exact card_le
  have hmem : ∀ x, x ∈ L ↔ ∃ i : Nat, i < t.length ∧ fromB t (inA l c) i = true ∧ x = (i : Int) := fun x => by rw [← hL]; exact listOf_mem
  unfold T0_clash_behind v_clash_behind
  rw [goes_br, if_pos (bound_len hc), goes_br, Int.toNat_natCast]
  have hth : (decide ((0 : Int) ≤ (List.getD l c (dflt T_api_Access)).1) && decide ((List.getD l c (dflt T_api_Access)).1 < Int.ofNat p.2.length)) = true := by
    rw [Bool.and_eq_true, decide_eq_true_eq, decide_eq_true_eq]; exact ⟨t0, t1⟩
  rw [if_pos hth, goes_br, hg, if_pos kf, hL]
  have hnew : v_bits_New (Int.ofNat (List.length t)) = (((t.length : Nat) : Int), []) := by
    unfold v_bits_New
    simp
    omega
  rw [hnew]
  -- the second loop
  have second : ∀ (s : Int × List (Int × Int)), SetOK s t.length (fromB t (inA l c)) → ∀ h, h ≤ l.length → ∀ out : List Int, out.length ≤ h →
      Goes (T_clash_behind p l (c : Int)) (.jmp (.l14 (List.getD l c (dflt T_api_Access)).1 (List.getD l c (dflt T_api_Access)).2.1 (List.getD l c (dflt T_api_Access)).2.2.1 (List.getD l c (dflt T_api_Access)).2.2.2.1 (List.getD l c (dflt T_api_Access)).2.2.2.2.1 (List.getD l c (dflt T_api_Access)).2.2.2.2.2 s.1 s.2 (h : Int) out)) (out ++ listR l.length (behB p l c) h) := by
    intro s hs
    refine down ?_ fun h hh ih => ?_
    · intro out ho
      rw [goes_jmp, T_clash_behind, goes_br, if_neg (by rw [lt_len_not (Nat.lt_irrefl _)]; decide), listR_end, List.append_nil]
      exact .leaf
    · intro out ho
      have b1 : Nat.ble ((out.length + 1) * 8) limit = true := Nat.ble_eq_true_of_le (by unfold limit; omega)
      have hhas : v_bits_Set_Has (s.1, s.2) (inA l h) = (decide (0 ≤ inA l h) && fromB t (inA l c) (inA l h).toNat, s) := by
        show (hasS s (inA l h), s) = _
        rw [hs.has (by omega)]
      have add : behB p l c h = true → Goes (T_clash_behind p l (c : Int)) (.jmp (.l14 (List.getD l c (dflt T_api_Access)).1 (List.getD l c (dflt T_api_Access)).2.1 (List.getD l c (dflt T_api_Access)).2.2.1 (List.getD l c (dflt T_api_Access)).2.2.2.1 (List.getD l c (dflt T_api_Access)).2.2.2.2.1 (List.getD l c (dflt T_api_Access)).2.2.2.2.2 s.1 s.2 ((h + 1 : Nat) : Int) (out ++ [(h : Int)]))) (out ++ listR l.length (behB p l c) h) := fun hb => by
        rw [listR_step hh, if_pos hb]
        have := ih (out ++ [(h : Int)]) (by simp; omega)
        rwa [List.append_assoc] at this
      have skip : behB p l c h = false → Goes (T_clash_behind p l (c : Int)) (.jmp (.l14 (List.getD l c (dflt T_api_Access)).1 (List.getD l c (dflt T_api_Access)).2.1 (List.getD l c (dflt T_api_Access)).2.2.1 (List.getD l c (dflt T_api_Access)).2.2.2.1 (List.getD l c (dflt T_api_Access)).2.2.2.2.1 (List.getD l c (dflt T_api_Access)).2.2.2.2.2 s.1 s.2 ((h + 1 : Nat) : Int) out)) (out ++ listR l.length (behB p l c) h) := fun hb => by
        rw [listR_step hh, hb, if_neg (by decide)]
        exact ih out (by omega)
      have e1 : (List.getD l h (dflt T_api_Access)).1 = thA l h := rfl
      have e2 : (List.getD l h (dflt T_api_Access)).2.1 = inA l h := rfl
      have e3 : (List.getD l h (dflt T_api_Access)).2.2.1 = paA l h := rfl
      have f1 : (List.getD l c (dflt T_api_Access)).1 = thA l c := rfl
      have f2 : (List.getD l c (dflt T_api_Access)).2.1 = inA l c := rfl
      have f3 : (List.getD l c (dflt T_api_Access)).2.2.1 = paA l c := rfl
      have hbe : behB p l c h = (thA l h == thA l c && (h == c || ((inA l h == inA l c && decide (paA l h > paA l c)) || (decide (0 ≤ inA l h) && fromB t (inA l c) (inA l h).toNat)))) := by
        unfold behB
        rw [decide_eq_true hh, Bool.true_and, ht]
      have hhc : ((h : Int) == (c : Int)) = (h == c) := by
        by_cases e : h = c
        · subst e; simp
        · have : (h == c) = false := by simpa using e
          rw [this]; simp; omega
      rw [goes_jmp, T_clash_behind]
      simp only [goes_br, lt_len hh, nng, Bool.and_self, if_true, Int.toNat_natCast, b1, wrap_succ (k := h) (by omega), e1, e2, e3, hhas, hhc]
      rw [f1, f2, f3] at *
      generalize hq : (decide (0 ≤ inA l h) && fromB t (inA l c) (inA l h).toNat) = q at *
      by_cases c1 : (thA l h == thA l c) = true
      · rw [if_pos c1]
        rw [c1, Bool.true_and] at hbe
        by_cases c2 : (h == c) = true
        · rw [if_pos c2]
          rw [c2, Bool.true_or] at hbe
          exact add hbe
        · rw [if_neg c2]
          rw [Bool.eq_false_iff.2 c2, Bool.false_or] at hbe
          by_cases c3 : (inA l h == inA l c) = true
          · rw [if_pos c3]
            rw [c3, Bool.true_and] at hbe
            by_cases c4 : decide (paA l h > paA l c) = true
            · rw [if_pos c4]
              rw [c4, Bool.true_or] at hbe
              exact add hbe
            · rw [if_neg c4]
              rw [Bool.eq_false_iff.2 c4, Bool.false_or] at hbe
              cases q with
              | true => rw [if_pos rfl]; exact add hbe
              | false => rw [if_neg (by decide)]; exact skip hbe
          · rw [if_neg c3]
            rw [Bool.eq_false_iff.2 c3, Bool.false_and, Bool.false_or] at hbe
            cases q with
            | true => rw [if_pos rfl]; exact add hbe
            | false => rw [if_neg (by decide)]; exact skip hbe
      · rw [if_neg c1]
        rw [Bool.eq_false_iff.2 c1, Bool.false_and] at hbe
        exact skip hbe
  -- the first loop
  have first : ∀ h, h ≤ L.length → ∀ (s : Int × List (Int × Int)), SetOK s t.length (fun j => (L.take h).contains (j : Int)) →
      Goes (T_clash_behind p l (c : Int)) (.jmp (.l6 (Int.ofNat L.length) (List.getD l c (dflt T_api_Access)).1 (List.getD l c (dflt T_api_Access)).2.1 (List.getD l c (dflt T_api_Access)).2.2.1 (List.getD l c (dflt T_api_Access)).2.2.2.1 (List.getD l c (dflt T_api_Access)).2.2.2.2.1 (List.getD l c (dflt T_api_Access)).2.2.2.2.2 s.1 L s.2 (h : Int))) (listOf l.length (behB p l c)) := by
    refine down ?_ fun h hh ih => ?_
    · intro s hs
      rw [goes_jmp, T_clash_behind, goes_br, if_neg (by simp)]
      have := second s (hs.congr' fun j => by
        rw [List.take_length, Bool.eq_iff_iff, List.contains_iff_mem, hmem]
        constructor
        · rintro ⟨i, _, h1, h2⟩; have : j = i := by omega
          subst this; exact h1
        · intro h; exact ⟨j, fromB_lt h, h, rfl⟩) 0 (Nat.zero_le _) [] (Nat.le_refl _)
      rwa [List.nil_append, listR_zero] at this
    · intro s hs
      obtain ⟨i, hi, _, hie⟩ := (hmem L[h]).1 (List.getElem_mem hh)
      obtain ⟨_, p2⟩ := hs.putO (by omega) hi
      have hp : v_bits_Set_Put (s.1, s.2) (i : Int) = putS s (i : Int) := rfl
      rw [goes_jmp, T_clash_behind, goes_br, if_pos (lt_len hh), goes_br, if_pos (bound_len hh), Int.toNat_natCast, getD_lt hh, hie, hp, wrap_succ (by omega)]
      refine ih _ (p2.congr' fun j => ?_)
      rw [List.take_succ_eq_append_getElem hh, Bool.eq_iff_iff, Bool.or_eq_true, List.contains_iff_mem, List.contains_iff_mem, List.mem_append, List.mem_singleton, hie, beq_iff_eq]
      exact or_congr Iff.rfl (by omega)
  exact first 0 (Nat.zero_le _) (((t.length : Nat) : Int), []) ((SetOK.new t.length).congr' fun j => by simp)
end Go.Ev
end

section
set_option linter.unusedSectionVars false
set_option linter.unusedVariables false
set_option linter.unusedSimpArgs false
set_option maxRecDepth 100000
set_option linter.unusedVariables false
open Go Go.Ev
namespace Go.Ev
noncomputable section
noncomputable def e_clash_behind : Run := entG sg_clash_behind R_clash_behind (fun a => k_clash_behind a.1 a.2.1 a.2.2.1) (fun a => v_clash_behind a.1 a.2.1 a.2.2.1)
theorem ok_clash_behind : EntOK Go.Proofs.Tryd.prog 25 e_clash_behind := entG_ok (tb := tb_clash_behind) (c := c_clash_behind) tk_clash_behind (by kernel_rfl) (by kernel_rfl) (by kernel_rfl) (fun a => by kernel_rfl) fun ⟨p, l, c, _⟩ hk => evF_goes (c := c_clash_behind) (K := fun v => (R_clash_behind v, tps (toForms sg_clash_behind (p, l, c, ())))) (S := S_clash_behind p l c) (by kernel_rfl) (en_clash_behind p l c) (lp_clash_behind p l c) (g_clash_behind p l c hk)
end
end Go.Ev
end

section
set_option linter.unusedSectionVars false
set_option linter.unusedVariables false
set_option linter.unusedSimpArgs false
set_option maxRecDepth 100000
set_option linter.unusedVariables false
open Go Go.Ev
namespace Go.Ev
noncomputable section
/-! ### paling/clash.Back -/
def sg_clash_Back : Sig := [(true, T_api_Prog), (false, (.int .i64))]
noncomputable def t_clash_Back : Tbl := [(20, e_touch_Of), (22, e_bits_New), (23, e_clash_Back_1), (25, e_clash_behind), (24, e_bits_Set_Put), (26, e_bits_Set_List)]
theorem tk_clash_Back : ∀ p ∈ t_clash_Back, EntOK Go.Proofs.Tryd.prog p.1 p.2 := tbl_cons ok_touch_Of (tbl_cons ok_bits_New (tbl_cons ok_clash_Back_1 (tbl_cons ok_clash_behind (tbl_cons ok_bits_Set_Put (tbl_cons ok_bits_Set_List (tbl_nil))))))
noncomputable def c_clash_Back : Code := Go.Proofs.Tryd.f9.body.getD .skip
def tb_clash_Back : Tb := [(11, ⟨[2, 5, 7, 9, 10, 11], []⟩), (17, ⟨[2, 5, 7, 9, 10, 11, 54, 55, 56], []⟩), (hintK, ⟨[], [(1, 62)]⟩)]
inductive J_clash_Back where
  | l11 (l : List (El T_api_Access)) (back : Int) (open_ : List Int) (meet : Int) (meet1 : Int) (back1 : List (Int × Int)) (meet2 : Int) (meet3 : List (Int × Int)) (gone : Int) (gone1 : List (Int × Int))
  | l17 (h : Int) (l : List (El T_api_Access)) (h1 : List Int) (back : Int) (open_ : List Int) (meet : Int) (meet1 : Int) (back1 : List (Int × Int)) (meet2 : Int) (meet3 : List (Int × Int)) (h2 : Int) (gone : Int) (gone1 : List (Int × Int))
def T_clash_Back (p : El T_api_Prog) (a : Int) : J_clash_Back → JT J_clash_Back (List Int)
  | .l11 l back open_ meet meet1 back1 meet2 meet3 gone gone1 =>
    .br (decide ((Int.ofNat (List.length open_)) > (0 : Int)))
      (.br (decide ((0 : Int) < (Int.ofNat (List.length open_))))
        (.br (Nat.ble 1 (List.length open_))
          (.br (k_clash_behind p l (List.getD open_ 0 (dflt (.int .i64))))
            (.jmp (.l17 (Int.ofNat (List.length (v_clash_behind p l (List.getD open_ 0 (dflt (.int .i64)))))) l (v_clash_behind p l (List.getD open_ 0 (dflt (.int .i64)))) back (List.drop 1 open_) meet meet1 back1 meet2 meet3 (0 : Int) gone gone1))
          (.no))
        (.no))
      (.no))
    (.br (k_bits_Set_List (back, back1))
      (.leaf (v_bits_Set_List (back, back1)).1)
    (.no))
  | .l17 h l h1 back open_ meet meet1 back1 meet2 meet3 h2 gone gone1 =>
    .br (decide (h2 < h))
      (.br ((decide ((0 : Int) ≤ h2)) && (decide (h2 < (Int.ofNat (List.length h1)))))
        (.br (v_bits_Set_Put (gone, gone1) (List.getD h1 (Int.toNat h2) (dflt (.int .i64)))).1
          (.br (k_clash_Back_1 (List.getD h1 (Int.toNat h2) (dflt (.int .i64))) l meet (meet2, meet3) open_ meet1 (back, back1))
            (.jmp (.l17 h (v_clash_Back_1 (List.getD h1 (Int.toNat h2) (dflt (.int .i64))) l meet (meet2, meet3) open_ meet1 (back, back1)).1 h1 (v_clash_Back_1 (List.getD h1 (Int.toNat h2) (dflt (.int .i64))) l meet (meet2, meet3) open_ meet1 (back, back1)).2.2.2.2.2.1 (v_clash_Back_1 (List.getD h1 (Int.toNat h2) (dflt (.int .i64))) l meet (meet2, meet3) open_ meet1 (back, back1)).2.2.2.1 (v_clash_Back_1 (List.getD h1 (Int.toNat h2) (dflt (.int .i64))) l meet (meet2, meet3) open_ meet1 (back, back1)).2.1 (v_clash_Back_1 (List.getD h1 (Int.toNat h2) (dflt (.int .i64))) l meet (meet2, meet3) open_ meet1 (back, back1)).2.2.2.2.1 (v_clash_Back_1 (List.getD h1 (Int.toNat h2) (dflt (.int .i64))) l meet (meet2, meet3) open_ meet1 (back, back1)).2.2.2.2.2.2 (v_clash_Back_1 (List.getD h1 (Int.toNat h2) (dflt (.int .i64))) l meet (meet2, meet3) open_ meet1 (back, back1)).2.2.1.1 (v_clash_Back_1 (List.getD h1 (Int.toNat h2) (dflt (.int .i64))) l meet (meet2, meet3) open_ meet1 (back, back1)).2.2.1.2 (IntKind.i64.wrap (h2 + (1 : Int))) (v_bits_Set_Put (gone, gone1) (List.getD h1 (Int.toNat h2) (dflt (.int .i64)))).2.1 (v_bits_Set_Put (gone, gone1) (List.getD h1 (Int.toNat h2) (dflt (.int .i64)))).2.2))
          (.no))
        (.jmp (.l17 h l h1 back open_ meet meet1 back1 meet2 meet3 (IntKind.i64.wrap (h2 + (1 : Int))) (v_bits_Set_Put (gone, gone1) (List.getD h1 (Int.toNat h2) (dflt (.int .i64)))).2.1 (v_bits_Set_Put (gone, gone1) (List.getD h1 (Int.toNat h2) (dflt (.int .i64)))).2.2)))
      (.no))
    (.jmp (.l11 l back open_ meet meet1 back1 meet2 meet3 gone gone1))
def T0_clash_Back (p : El T_api_Prog) (a : Int) : JT J_clash_Back (List Int) :=
  .br (k_touch_Of p)
    (.br (decide (a < (0 : Int)))
      (.leaf [])
    (.br (decide (a ≥ (Int.ofNat (List.length (v_touch_Of p)))))
      (.leaf [])
    (.br ((decide ((0 : Int) ≤ a)) && (decide (a < (Int.ofNat (List.length (v_touch_Of p))))))
      (.br (k_clash_Back_1 a (v_touch_Of p) (List.getD (v_touch_Of p) (Int.toNat a) (dflt T_api_Access)).1 (v_bits_New (Int.ofNat (List.length (v_touch_Of p)))) [] a (v_bits_New (Int.ofNat (List.length (v_touch_Of p)))))
        (.jmp (.l11 (v_clash_Back_1 a (v_touch_Of p) (List.getD (v_touch_Of p) (Int.toNat a) (dflt T_api_Access)).1 (v_bits_New (Int.ofNat (List.length (v_touch_Of p)))) [] a (v_bits_New (Int.ofNat (List.length (v_touch_Of p))))).1 (v_clash_Back_1 a (v_touch_Of p) (List.getD (v_touch_Of p) (Int.toNat a) (dflt T_api_Access)).1 (v_bits_New (Int.ofNat (List.length (v_touch_Of p)))) [] a (v_bits_New (Int.ofNat (List.length (v_touch_Of p))))).2.2.2.2.2.1 (v_clash_Back_1 a (v_touch_Of p) (List.getD (v_touch_Of p) (Int.toNat a) (dflt T_api_Access)).1 (v_bits_New (Int.ofNat (List.length (v_touch_Of p)))) [] a (v_bits_New (Int.ofNat (List.length (v_touch_Of p))))).2.2.2.1 (v_clash_Back_1 a (v_touch_Of p) (List.getD (v_touch_Of p) (Int.toNat a) (dflt T_api_Access)).1 (v_bits_New (Int.ofNat (List.length (v_touch_Of p)))) [] a (v_bits_New (Int.ofNat (List.length (v_touch_Of p))))).2.1 (v_clash_Back_1 a (v_touch_Of p) (List.getD (v_touch_Of p) (Int.toNat a) (dflt T_api_Access)).1 (v_bits_New (Int.ofNat (List.length (v_touch_Of p)))) [] a (v_bits_New (Int.ofNat (List.length (v_touch_Of p))))).2.2.2.2.1 (v_clash_Back_1 a (v_touch_Of p) (List.getD (v_touch_Of p) (Int.toNat a) (dflt T_api_Access)).1 (v_bits_New (Int.ofNat (List.length (v_touch_Of p)))) [] a (v_bits_New (Int.ofNat (List.length (v_touch_Of p))))).2.2.2.2.2.2 (v_clash_Back_1 a (v_touch_Of p) (List.getD (v_touch_Of p) (Int.toNat a) (dflt T_api_Access)).1 (v_bits_New (Int.ofNat (List.length (v_touch_Of p)))) [] a (v_bits_New (Int.ofNat (List.length (v_touch_Of p))))).2.2.1.1 (v_clash_Back_1 a (v_touch_Of p) (List.getD (v_touch_Of p) (Int.toNat a) (dflt T_api_Access)).1 (v_bits_New (Int.ofNat (List.length (v_touch_Of p)))) [] a (v_bits_New (Int.ofNat (List.length (v_touch_Of p))))).2.2.1.2 (v_bits_New (Int.ofNat (List.length (v_touch_Of p)))).1 (v_bits_New (Int.ofNat (List.length (v_touch_Of p)))).2))
      (.no))
    (.no))))
  (.no)
def R_clash_Back : List Int → AV := fun (r : List Int) => .rw 3 (.int .i64) r
def S_clash_Back (p : El T_api_Prog) (a : Int) : J_clash_Back → Nat × St
  | .l11 l back open_ meet meet1 back1 meet2 meet3 gone gone1 => (11, ⟨mkTm 69 [(2, .pt 3 0 0), (5, .pt 6 0 0), (7, .pt 8 0 0), (9, .pt 10 0 0), (10, .pt 11 0 0), (11, .fn 23 [.pt 6 0 0, .pt 12290 0 0, .pt 12291 0 0, .pt 11 0 0, .pt 12293 0 0, .pt 8 0 0])], [(3, 0, .box 27 [.d (.sl T_api_Sym) p.1, .d (.sl (.sl T_api_Ins)) p.2] none), (6, 0, .box 62 [.d (.sl T_api_Access) l] none), (8, 0, .box 68 [.pt 8193 0 0] none), (10, 0, .box 89 [.d (.int .i64) gone, .mp 10242 0] none), (11, 0, .box 31 [.own 11265 0 none] none), (8193, 0, .box 89 [.d (.int .i64) back, .mp 8389634 0] none), (10242, 0, .map (.int .i64) (.int .u64) gone1), (11265, 0, .row 3 (.int .i64) open_ false), (12290, 0, .box 3 [.d (.int .i64) meet] none), (12291, 0, .box 68 [.pt 12585985 0 0] none), (12293, 0, .box 3 [.d (.int .i64) meet1] none), (8389634, 0, .map (.int .i64) (.int .u64) back1), (12585985, 0, .box 89 [.d (.int .i64) meet2, .mp 12888048642 0] none), (12888048642, 0, .map (.int .i64) (.int .u64) meet3)]⟩)
  | .l17 h l h1 back open_ meet meet1 back1 meet2 meet3 h2 gone gone1 => (17, ⟨mkTm 69 [(2, .pt 3 0 0), (5, .pt 6 0 0), (7, .pt 8 0 0), (9, .pt 10 0 0), (10, .pt 11 0 0), (11, .fn 23 [.pt 6 0 0, .pt 12290 0 0, .pt 12291 0 0, .pt 11 0 0, .pt 12293 0 0, .pt 8 0 0]), (54, .own 55 0 none), (55, .d (.int .i64) h), (56, .d (.int .i64) h2)], [(3, 0, .box 27 [.d (.sl T_api_Sym) p.1, .d (.sl (.sl T_api_Ins)) p.2] none), (6, 0, .box 62 [.d (.sl T_api_Access) l] none), (8, 0, .box 68 [.pt 8193 0 0] none), (10, 0, .box 89 [.d (.int .i64) gone, .mp 10242 0] none), (11, 0, .box 31 [.own 11265 0 none] none), (55, 0, .row 3 (.int .i64) h1 false), (8193, 0, .box 89 [.d (.int .i64) back, .mp 8389634 0] none), (10242, 0, .map (.int .i64) (.int .u64) gone1), (11265, 0, .row 3 (.int .i64) open_ false), (12290, 0, .box 3 [.d (.int .i64) meet] none), (12291, 0, .box 68 [.pt 12585985 0 0] none), (12293, 0, .box 3 [.d (.int .i64) meet1] none), (8389634, 0, .map (.int .i64) (.int .u64) back1), (12585985, 0, .box 89 [.d (.int .i64) meet2, .mp 12888048642 0] none), (12888048642, 0, .map (.int .i64) (.int .u64) meet3)]⟩)
theorem en_clash_Back (p : El T_api_Prog) (a : Int) (L : Lt) : entryA Go.Proofs.Tryd.prog (clOf t_clash_Back) tb_clash_Back Go.Proofs.Tryd.f9 c_clash_Back L (toForms sg_clash_Back (p, a, ())) = (T0_clash_Back p a).run (fun v => some (R_clash_Back v, tps (toForms sg_clash_Back (p, a, ())))) fun j => L (S_clash_Back p a j).1 (S_clash_Back p a j).2 := by kernel_rfl
theorem lp_clash_Back (p : El T_api_Prog) (a : Int) : ∀ (L : Lt) (j : J_clash_Back), procOf (procsF Go.Proofs.Tryd.prog (clOf t_clash_Back) tb_clash_Back Go.Proofs.Tryd.f9 c_clash_Back (toForms sg_clash_Back (p, a, ()))) (S_clash_Back p a j).1 L (S_clash_Back p a j).2 = (T_clash_Back p a j).run (fun v => some (R_clash_Back v, tps (toForms sg_clash_Back (p, a, ())))) fun j => L (S_clash_Back p a j).1 (S_clash_Back p a j).2
  | L, .l11 l back open_ meet meet1 back1 meet2 meet3 gone gone1 => by kernel_rfl
  | L, .l17 h l h1 back open_ meet meet1 back1 meet2 meet3 h2 gone gone1 => by kernel_rfl
end
end Go.Ev
end

section
set_option linter.unusedSectionVars false
set_option linter.unusedVariables false
set_option linter.unusedSimpArgs false
/- Where accesses stand. -/
set_option linter.unusedVariables false
set_option linter.unusedSimpArgs false
namespace Go.Ev
open Go
theorem accT_memX {t : Nat} {a : El T_api_Access} : ∀ {l : List (El T_api_Ins)} {k : Nat}, a ∈ accT t k l ↔ ∃ (j : Nat) (i : El T_api_Ins), l[j]? = some i ∧ a ∈ accI t (k + j) i
  | [], k => by simp [accT]
  | i :: r, k => by
    unfold accT
    rw [List.mem_append, accT_memX (l := r)]
    constructor
    · rintro (h | ⟨j, i', h1, h2⟩)
      · exact ⟨0, i, rfl, h⟩
      · exact ⟨j + 1, i', by simpa using h1, by rw [show k + (j + 1) = k + 1 + j by omega]; exact h2⟩
    · rintro ⟨j, i', h1, h2⟩
      cases j with
      | zero => left; simp at h1; subst h1; exact h2
      | succ j => right; exact ⟨j, i', by simpa using h1, by rw [show k + 1 + j = k + (j + 1) by omega]; exact h2⟩
theorem accI_memX {t k : Nat} {i : El T_api_Ins} {a : El T_api_Access} : a ∈ accI t k i ↔ ((v_ins_Reads i).2 = true ∧ a = ((t : Int), ((k : Int), ((0 : Int), ((v_ins_Reads i).1.2.2.1, (false, v_ins_Locked i)))))) ∨ ((v_ins_Writes i).2 = true ∧ a = ((t : Int), ((k : Int), ((if (v_ins_Reads i).2 then (1 : Int) else 0), ((v_ins_Writes i).1.2.2.1, (true, v_ins_Locked i)))))) := by
  unfold accI
  rw [List.mem_append]
  cases (v_ins_Reads i).2 <;> cases (v_ins_Writes i).2 <;> simp
theorem accI_atX {t k : Nat} {i : El T_api_Ins} {a : El T_api_Access} (h : a ∈ accI t k i) : (show Int from a.1) = (t : Int) ∧ (show Int from a.2.1) = (k : Int) := by
  rcases accI_memX.1 h with ⟨_, rfl⟩ | ⟨_, rfl⟩ <;> exact ⟨rfl, rfl⟩
theorem accP_memX {a : El T_api_Access} : ∀ {l : List (List (El T_api_Ins))} {t : Nat}, a ∈ accP t l ↔ ∃ (u : Nat) (x : List (El T_api_Ins)) (j : Nat) (i : El T_api_Ins), l[u]? = some x ∧ x[j]? = some i ∧ a ∈ accI (t + u) j i
  | [], t => by simp [accP]
  | x :: r, t => by
    unfold accP
    rw [List.mem_append, accT_memX, accP_memX (l := r)]
    constructor
    · rintro (⟨j, i, h1, h2⟩ | ⟨u, y, j, i, h1, h2, h3⟩)
      · exact ⟨0, x, j, i, rfl, h1, by rw [Nat.zero_add] at h2; exact h2⟩
      · exact ⟨u + 1, y, j, i, by simpa using h1, h2, by rw [show t + (u + 1) = t + 1 + u by omega]; exact h3⟩
    · rintro ⟨u, y, j, i, h1, h2, h3⟩
      cases u with
      | zero =>
        left
        simp at h1
        subst h1
        exact ⟨j, i, h2, by rw [Nat.zero_add]; exact h3⟩
      | succ u => right; exact ⟨u, y, j, i, by simpa using h1, h2, by rw [show t + 1 + u = t + (u + 1) by omega]; exact h3⟩
/-- An access stands in a thread, at an instruction. -/
theorem acc_where {p : El T_api_Prog} {a : El T_api_Access} (h : a ∈ ofC p) : ∃ (u : Nat) (x : List (El T_api_Ins)) (j : Nat) (i : El T_api_Ins), p.2[u]? = some x ∧ x[j]? = some i ∧ a ∈ accI u j i ∧ (show Int from a.1) = (u : Int) ∧ (show Int from a.2.1) = (j : Int) := by
  unfold ofC at h
  split at h
  · obtain ⟨u, x, j, i, h1, h2, h3⟩ := accP_memX.1 h
    rw [Nat.zero_add] at h3
    exact ⟨u, x, j, i, h1, h2, h3, (accI_atX h3).1, (accI_atX h3).2⟩
  · cases h
def ltNX (t k q t' k' q' : Int) : Prop := t < t' ∨ t = t' ∧ (k < k' ∨ k = k' ∧ q < q')
def ltAX (a b : El T_api_Access) : Prop := ltNX a.1 a.2.1 a.2.2.1 b.1 b.2.1 b.2.2.1
theorem accI_ordX (t k : Nat) (i : El T_api_Ins) : (accI t k i).Pairwise ltAX := by
  unfold accI
  cases (v_ins_Reads i).2 <;> cases (v_ins_Writes i).2 <;> simp [List.pairwise_cons]
  exact .inr ⟨rfl, .inr ⟨rfl, by show (0 : Int) < 1; omega⟩⟩
theorem accT_atX {t : Nat} {l : List (El T_api_Ins)} {k : Nat} {a : El T_api_Access} (h : a ∈ accT t k l) : ∃ (j : Nat) (i : El T_api_Ins), l[j]? = some i ∧ a ∈ accI t (k + j) i ∧ (show Int from a.1) = (t : Int) ∧ (show Int from a.2.1) = ((k + j : Nat) : Int) := by
  obtain ⟨j, i, h1, h2⟩ := accT_memX.1 h
  exact ⟨j, i, h1, h2, accI_atX h2⟩
theorem accT_ordX (t : Nat) : ∀ (k : Nat) (l : List (El T_api_Ins)), (accT t k l).Pairwise ltAX
  | _, [] => .nil
  | k, i :: r => by
    unfold accT
    refine List.pairwise_append.2 ⟨accI_ordX t k i, accT_ordX t (k + 1) r, fun a ha b hb => ?_⟩
    obtain ⟨h1, h2⟩ := accI_atX ha
    obtain ⟨j, _, _, _, h3, h4⟩ := accT_atX hb
    have key : ∀ a1 a2 a3 b1 b2 b3 : Int, a1 = t → a2 = k → b1 = t → b2 = ((k + 1 + j : Nat) : Int) → ltNX a1 a2 a3 b1 b2 b3 := fun a1 a2 a3 b1 b2 b3 e1 e2 e3 e4 => .inr ⟨by omega, .inl (by omega)⟩
    exact key _ _ _ _ _ _ h1 h2 h3 h4
theorem accP_ordX : ∀ (t : Nat) (l : List (List (El T_api_Ins))), (accP t l).Pairwise ltAX
  | _, [] => .nil
  | t, x :: r => by
    unfold accP
    refine List.pairwise_append.2 ⟨accT_ordX t 0 x, accP_ordX (t + 1) r, fun a ha b hb => ?_⟩
    obtain ⟨_, _, _, _, h1, _⟩ := accT_atX ha
    obtain ⟨u, _, _, _, _, _, hb3⟩ := accP_memX.1 hb
    have h3 := (accI_atX hb3).1
    have key : ∀ a1 a2 a3 b1 b2 b3 : Int, a1 = t → b1 = ((t + 1 + u : Nat) : Int) → ltNX a1 a2 a3 b1 b2 b3 := fun a1 a2 a3 b1 b2 b3 e1 e3 => .inl (by omega)
    exact key _ _ _ _ _ _ h1 h3
theorem ofC_ord (p : El T_api_Prog) : (ofC p).Pairwise ltAX := by
  unfold ofC
  split
  · exact accP_ordX 0 p.2
  · exact .nil
theorem flow_small {t : List (El T_api_Ins)} (h : smallThread t = true) : flowOK t = true := by
  have labs : ∀ {t : List (El T_api_Ins)} {i : El T_api_Ins}, i ∈ t → i.2.2.2.2.2.2.length ≤ (labels t).length := fun {t i} hi => by
    unfold labels
    induction t with
    | nil => cases hi
    | cons x r ih =>
      rw [List.flatMap_cons, List.length_append]
      rcases List.mem_cons.1 hi with rfl | hi
      · omega
      · have := ih hi; omega
  unfold smallThread at h
  simp only [Bool.and_eq_true, List.all_eq_true, decide_eq_true_eq] at h
  unfold flowOK
  simp only [Bool.and_eq_true, List.all_eq_true, decide_eq_true_eq]
  refine ⟨h.1, fun i hi => ⟨(h.2.2 i hi).1, ?_⟩⟩
  have := labs hi
  omega
end Go.Ev
end

section
set_option linter.unusedSectionVars false
set_option linter.unusedVariables false
set_option linter.unusedSimpArgs false
set_option maxRecDepth 100000
set_option linter.unusedVariables false
set_option linter.unusedSimpArgs false
open Go
namespace Go.Ev
noncomputable def v_clash_Back (p : El T_api_Prog) (a : Int) : List Int := if 0 ≤ a ∧ a < ((ofC p).length : Int) then listOf (ofC p).length (backB p (ofC p) a.toNat) else []
def k_clash_Back (p : El T_api_Prog) (a : Int) : Bool := smallAll p
theorem meetF_ok {l : List Acc} {x : Nat} {own a : Int} : ∀ (n h : Nat) (s : SetT × List Int × SetT) (C B : Nat → Bool), l.length < 1099511627776 → h + n ≤ l.length → SetOK s.1 l.length C → SetOK s.2.2 l.length B →
    ∃ C' B', SetOK (meetF l (x : Int) own a (List.range' h n) s).1 l.length C' ∧ SetOK (meetF l (x : Int) own a (List.range' h n) s).2.2 l.length B' ∧
      (∀ j, C' j = true ↔ C j = true ∨ (h ≤ j ∧ j < h + n ∧ clB l x j = true ∧ thA l j ≠ own)) ∧ (∀ j, B' j = true ↔ B j = true ∨ (h ≤ j ∧ j < h + n ∧ clB l x j = true ∧ thA l j = own ∧ (x : Int) ≠ a)) ∧
      (∀ y ∈ s.2.1, y ∈ (meetF l (x : Int) own a (List.range' h n) s).2.1) ∧ (∀ y ∈ (meetF l (x : Int) own a (List.range' h n) s).2.1, y ∈ s.2.1 ∨ ∃ j : Nat, y = (j : Int) ∧ C' j = true) ∧
      (∀ j, C' j = true → C j = true ∨ (j : Int) ∈ (meetF l (x : Int) own a (List.range' h n) s).2.1) ∧ (meetF l (x : Int) own a (List.range' h n) s).2.1.length + card l.length C = s.2.1.length + card l.length C'
  | 0, h, s, C, B, _, _, hC, hB => ⟨C, B, hC, hB, fun j => ⟨.inl, fun h => h.elim id fun h => by omega⟩, fun j => ⟨.inl, fun h => h.elim id fun h => by omega⟩, fun y hy => hy, fun y hy => .inl hy, fun j hj => .inl hj, rfl⟩
  | n + 1, h, s, C, B, hN, hn, hC, hB => by
    rw [List.range'_succ, meetF]
    have hh : h < l.length := by omega
    -- one step
    have one : ∃ C1 B1, SetOK (meet1 l (x : Int) own a h s).1 l.length C1 ∧ SetOK (meet1 l (x : Int) own a h s).2.2 l.length B1 ∧ (∀ j, C1 j = true ↔ C j = true ∨ (j = h ∧ clB l x h = true ∧ thA l h ≠ own)) ∧ (∀ j, B1 j = true ↔ B j = true ∨ (j = h ∧ clB l x h = true ∧ thA l h = own ∧ (x : Int) ≠ a)) ∧
        (∀ y ∈ s.2.1, y ∈ (meet1 l (x : Int) own a h s).2.1) ∧ (∀ y ∈ (meet1 l (x : Int) own a h s).2.1, y ∈ s.2.1 ∨ ∃ j : Nat, y = (j : Int) ∧ C1 j = true) ∧ (∀ j, C1 j = true → C j = true ∨ (j : Int) ∈ (meet1 l (x : Int) own a h s).2.1) ∧
        (meet1 l (x : Int) own a h s).2.1.length + card l.length C = s.2.1.length + card l.length C1 := by
      unfold meet1
      rw [Int.toNat_natCast]
      by_cases c1 : clB l x h = true
      · rw [if_pos c1]
        by_cases c2 : thA l h = own
        · rw [if_neg (by simp [c2])]
          by_cases c3 : (x : Int) = a
          · rw [if_neg (by simp [c3])]
            exact ⟨C, B, hC, hB, fun j => ⟨.inl, fun h => h.elim id fun h => absurd c2 h.2.2⟩, fun j => ⟨.inl, fun h => h.elim id fun h => absurd c3 h.2.2.2⟩, fun y hy => hy, fun y hy => .inl hy, fun j hj => .inl hj, rfl⟩
          · rw [if_pos c3]
            obtain ⟨_, p2⟩ := hB.putO (by omega) hh
            refine ⟨C, _, hC, p2, fun j => ⟨.inl, fun h => h.elim id fun h => absurd c2 h.2.2⟩, fun j => ?_, fun y hy => hy, fun y hy => .inl hy, fun j hj => .inl hj, rfl⟩
            rw [Bool.or_eq_true, beq_iff_eq]
            exact or_congr Iff.rfl ⟨fun h => ⟨h, c1, c2, c3⟩, fun h => h.1⟩
        · rw [if_pos c2]
          obtain ⟨p1, p2⟩ := hC.putO (by omega) hh
          have hB' : ∀ j, B j = true ↔ B j = true ∨ (j = h ∧ clB l x h = true ∧ thA l h = own ∧ (x : Int) ≠ a) := fun j => ⟨.inl, fun h => h.elim id fun h => absurd h.2.2.1 c2⟩
          have hC' : ∀ j, (C j || (j == h)) = true ↔ C j = true ∨ (j = h ∧ clB l x h = true ∧ thA l h ≠ own) := fun j => by
            rw [Bool.or_eq_true, beq_iff_eq]
            exact or_congr Iff.rfl ⟨fun h => ⟨h, c1, c2⟩, fun h => h.1⟩
          refine ⟨_, B, p2, hB, hC', hB', ?_⟩
          cases hCh : C h with
          | true =>
            rw [hCh] at p1
            rw [if_neg (by rw [p1]; decide)]
            have e : (fun k => C k || (k == h)) = C := funext fun k => by
              by_cases hk : k = h
              · subst hk; rw [hCh]; rfl
              · have : (k == h) = false := by simpa using hk
                rw [this, Bool.or_false]
            refine ⟨fun y hy => hy, fun y hy => .inl hy, fun j hj => .inl ?_, by rw [e]⟩
            have := congrFun e j
            rw [← this]; exact hj
          | false =>
            rw [hCh] at p1
            rw [if_pos (by rw [p1]; rfl)]
            refine ⟨fun y hy => List.mem_append_left _ hy, fun y hy => ?_, fun j hj => ?_, ?_⟩
            · rcases List.mem_append.1 hy with hy | hy
              · exact .inl hy
              · simp only [List.mem_singleton] at hy
                exact .inr ⟨h, hy, by simp⟩
            · rw [Bool.or_eq_true, beq_iff_eq] at hj
              rcases hj with hj | rfl
              · exact .inl hj
              · exact .inr (List.mem_append_right _ (by simp))
            · rw [card_add hCh hh, List.length_append, List.length_singleton]
              omega
      · rw [if_neg c1]
        exact ⟨C, B, hC, hB, fun j => ⟨.inl, fun h => h.elim id fun h => absurd h.2.1 c1⟩, fun j => ⟨.inl, fun h => h.elim id fun h => absurd h.2.1 c1⟩, fun y hy => hy, fun y hy => .inl hy, fun j hj => .inl hj, rfl⟩
    obtain ⟨C1, B1, a1, a2, a3, a4, a5, a6, a7, a8⟩ := one
    obtain ⟨C2, B2, b1, b2, b3, b4, b5, b6, b7, b8⟩ := meetF_ok n (h + 1) (meet1 l (x : Int) own a h s) C1 B1 hN (by omega) a1 a2
    refine ⟨C2, B2, b1, b2, fun j => ?_, fun j => ?_, fun y hy => b5 y (a5 y hy), fun y hy => ?_, fun j hj => ?_, by omega⟩
    · rw [b3, a3, or_assoc]
      refine or_congr Iff.rfl ⟨?_, ?_⟩
      · rintro (⟨rfl, h1⟩ | ⟨h1, h2, h3⟩)
        · exact ⟨Nat.le_refl _, by omega, h1⟩
        · exact ⟨by omega, by omega, h3⟩
      · rintro ⟨h1, h2, h3⟩
        by_cases e : j = h
        · subst e; exact .inl ⟨rfl, h3⟩
        · exact .inr ⟨by omega, by omega, h3⟩
    · rw [b4, a4, or_assoc]
      refine or_congr Iff.rfl ⟨?_, ?_⟩
      · rintro (⟨rfl, h1⟩ | ⟨h1, h2, h3⟩)
        · exact ⟨Nat.le_refl _, by omega, h1⟩
        · exact ⟨by omega, by omega, h3⟩
      · rintro ⟨h1, h2, h3⟩
        by_cases e : j = h
        · subst e; exact .inl ⟨rfl, h3⟩
        · exact .inr ⟨by omega, by omega, h3⟩
    · rcases b6 y hy with h1 | h1
      · rcases a6 y h1 with h2 | ⟨j, h2, h3⟩
        · exact .inl h2
        · exact .inr ⟨j, h2, (b3 j).2 (.inl h3)⟩
      · exact .inr h1
    · rcases b7 j hj with h1 | h1
      · rcases a7 j h1 with h2 | h2
        · exact .inl h2
        · exact .inr (b5 _ h2)
      · exact .inr h1
/-- What holds while chains are gone over. -/
structure BInv (p : El T_api_Prog) (l : List Acc) (a : Nat) (C G B : Nat → Bool) (O : List Int) : Prop where
  c : ∀ c, C c = true ↔ c < l.length ∧ thA l c ≠ thA l a ∧ (clB l a c = true ∨ ∃ k, G k = true ∧ clB l k c = true)
  g : ∀ d, G d = true → ∃ c, C c = true ∧ behB p l c d = true
  o : ∀ x ∈ O, ∃ c : Nat, x = (c : Int) ∧ C c = true
  b : ∀ b, B b = true ↔ b < l.length ∧ thA l b = thA l a ∧ ∃ k, G k = true ∧ clB l k b = true
  s : ∀ d, G d = true → isB p l a d = true
theorem BInv.is {p : El T_api_Prog} {l : List Acc} {a : Nat} {C G B : Nat → Bool} {O : List Int} (h : BInv p l a C G B O) {c : Nat} (hc : C c = true) : isB p l a c = true := by
  obtain ⟨h1, h2, h3⟩ := (h.c c).1 hc
  rcases h3 with h3 | ⟨k, hk, h3⟩
  · exact comeB_iff.2 (.start (by unfold chS; rw [decide_eq_true h1, h3]; rfl))
  · refine comeB_iff.2 (.step (comeB_iff.1 (h.s k hk)) ?_)
    unfold chB
    simp only [Bool.and_eq_true, decide_eq_true_eq, Bool.not_eq_true', beq_eq_false_iff_ne, Bool.or_eq_true]
    exact ⟨h1, h2, .inl h3⟩
theorem BInv.meet {p : El T_api_Prog} {l : List Acc} {a d : Nat} {C G B C' B' : Nat → Bool} {O O' : List Int} {c : Nat} (h : BInv p l a C G B O) (hc : C c = true) (hd : behB p l c d = true) (hl : d < l.length)
    (hC : ∀ j, C' j = true ↔ C j = true ∨ (0 ≤ j ∧ j < 0 + l.length ∧ clB l d j = true ∧ thA l j ≠ thA l a)) (hB : ∀ j, B' j = true ↔ B j = true ∨ (0 ≤ j ∧ j < 0 + l.length ∧ clB l d j = true ∧ thA l j = thA l a ∧ (d : Int) ≠ (a : Int)))
    (hO : ∀ y ∈ O', y ∈ O ∨ ∃ j : Nat, y = (j : Int) ∧ C' j = true) : BInv p l a C' (fun k => G k || (k == d)) B' O' := by
  have hth := behB_lt hd
  have hne := ((h.c c).1 hc).2.1
  have hdis : isB p l a d = true := by
    refine comeB_iff.2 (.step (comeB_iff.1 (h.is hc)) ?_)
    unfold chB
    simp only [Bool.and_eq_true, decide_eq_true_eq, Bool.not_eq_true', beq_eq_false_iff_ne, Bool.or_eq_true]
    exact ⟨hl, by rw [hth.2]; exact hne, .inr hd⟩
  have hg : ∀ k, (G k || (k == d)) = true ↔ G k = true ∨ k = d := fun k => by rw [Bool.or_eq_true, beq_iff_eq]
  refine ⟨fun j => ?_, fun j hj => ?_, fun y hy => ?_, fun j => ?_, fun j hj => ?_⟩
  · rw [hC, h.c]
    constructor
    · rintro (⟨h1, h2, h3⟩ | ⟨_, h1, h2, h3⟩)
      · exact ⟨h1, h2, h3.imp id fun ⟨k, hk, h4⟩ => ⟨k, (hg k).2 (.inl hk), h4⟩⟩
      · exact ⟨by omega, h3, .inr ⟨d, (hg d).2 (.inr rfl), h2⟩⟩
    · rintro ⟨h1, h2, h3⟩
      rcases h3 with h3 | ⟨k, hk, h3⟩
      · exact .inl ⟨h1, h2, .inl h3⟩
      · rcases (hg k).1 hk with hk | rfl
        · exact .inl ⟨h1, h2, .inr ⟨k, hk, h3⟩⟩
        · exact .inr ⟨Nat.zero_le _, by omega, h3, h2⟩
  · rcases (hg j).1 hj with hj | rfl
    · obtain ⟨c', h1, h2⟩ := h.g j hj
      exact ⟨c', (hC c').2 (.inl h1), h2⟩
    · exact ⟨c, (hC c).2 (.inl hc), hd⟩
  · rcases hO y hy with hy | hy
    · obtain ⟨c', h1, h2⟩ := h.o y hy
      exact ⟨c', h1, (hC c').2 (.inl h2)⟩
    · exact hy
  · rw [hB, h.b]
    constructor
    · rintro (⟨h1, h2, k, hk, h3⟩ | ⟨_, h1, h2, h3, _⟩)
      · exact ⟨h1, h2, k, (hg k).2 (.inl hk), h3⟩
      · exact ⟨by omega, h3, d, (hg d).2 (.inr rfl), h2⟩
    · rintro ⟨h1, h2, k, hk, h3⟩
      rcases (hg k).1 hk with hk | rfl
      · exact .inl ⟨h1, h2, k, hk, h3⟩
      · refine .inr ⟨Nat.zero_le _, by omega, h3, h2, fun e => hne ?_⟩
        have : k = a := by omega
        subst this
        rw [← hth.2]
  · rcases (hg j).1 hj with hj | rfl
    · exact h.s j hj
    · exact hdis
theorem g_clash_Back (p : El T_api_Prog) (a : Int) (hk : k_clash_Back p a = true) : Goes (T_clash_Back p a) (T0_clash_Back p a) (v_clash_Back p a) := by
  have hA := smallA hk
  have hNl := ofC_len hk
  have kt : k_touch_Of p = true := hk
  have vt : v_touch_Of p = ofC p := rfl
  have hacc : ∀ c, c < (ofC p).length → 0 ≤ thA (ofC p) c ∧ thA (ofC p) c < (p.2.length : Int) ∧ flowOK (thrOf p (ofC p) c) = true := fun c hc => by
    have hm : accA (ofC p) c ∈ ofC p := by unfold accA; rw [getD_lt hc]; exact List.getElem_mem hc
    obtain ⟨u, x, j, i, h1, h2, h3, h4, h5⟩ := acc_where hm
    have hth : thA (ofC p) c = (u : Int) := h4
    have hu := (List.getElem?_eq_some_iff.1 h1).1
    have hx : x ∈ p.2 := List.mem_of_getElem? h1
    refine ⟨by omega, by omega, ?_⟩
    unfold thrOf
    rw [hth, Int.toNat_natCast, List.getD_eq_getElem?_getD, h1]
    exact flow_small (hA.thr x hx)
  obtain ⟨l, hl⟩ : ∃ l, ofC p = l := ⟨_, rfl⟩
  rw [hl] at hNl vt hacc
  obtain ⟨T, hT⟩ : ∃ T, T = T_clash_Back p a := ⟨_, rfl⟩
  rw [← hT]
  unfold T0_clash_Back v_clash_Back
  rw [goes_br, if_pos kt, vt, hl, goes_br]
  by_cases h0 : a < 0
  · rw [if_pos (decide_eq_true h0), if_neg (by omega)]; exact .leaf
  rw [if_neg (by simpa using h0), goes_br]
  by_cases h1 : a ≥ Int.ofNat l.length
  · rw [if_pos (decide_eq_true h1), if_neg (by simp at h1; omega)]; exact .leaf
  obtain ⟨a, rfl⟩ := Int.eq_ofNat_of_zero_le (show 0 ≤ a by omega)
  have ha : a < l.length := by simp at h1; omega
  rw [if_neg (by simpa using h1), goes_br, if_pos (bound_len ha), goes_br, Int.toNat_natCast]
  have hval : (if (0 : Int) ≤ (a : Int) ∧ (a : Int) < (l.length : Int) then listOf l.length (backB p l a) else []) = listOf l.length (backB p l a) := if_pos ⟨by omega, by omega⟩
  rw [hval]
  have hown : (List.getD l a (dflt T_api_Access)).1 = thA l a := rfl
  have hnew : v_bits_New (Int.ofNat l.length) = (((l.length : Nat) : Int), []) := by
    unfold v_bits_New
    simp
    omega
  rw [hown, hnew]
  have kb : ∀ (x : Nat) (come : SetT) (o : List Int) (b : SetT), x < l.length → o.length < 1099511627776 → k_clash_Back_1 (x : Int) l (thA l a) come o (a : Int) b = true := fun x come o b hx ho => decide_eq_true ⟨by omega, by omega, by omega, ho⟩
  -- the loops
  have fin : ∀ (C G B : Nat → Bool) (sc sg sb : SetT), SetOK sb l.length B → BInv p l a C G B [] →
      (∀ c, C c = true → (c : Int) ∈ ([] : List Int) ∨ ∀ d, behB p l c d = true → G d = true) → Goes T (.jmp (.l11 l sb.1 [] (thA l a) (a : Int) sb.2 sc.1 sc.2 sg.1 sg.2)) (listOf l.length (backB p l a)) := by
    intro C G B sc sg sb hb hi hp
    rw [goes_jmp, hT, T_clash_Back, ← hT, goes_br, if_neg (by decide)]
    have hkl : k_bits_Set_List (sb.1, sb.2) = true := Nat.ble_eq_true_of_le (by have := hb.few; unfold limit; show sb.2.length * 512 ≤ _; omega)
    rw [goes_br, if_pos hkl]
    have hGi : ∀ d, G d = isB p l a d := gone_is hi.c (fun d => ⟨hi.g d, fun ⟨c, h1, h2⟩ => (hp c h1).elim (fun h => by cases h) fun h => h d h2⟩) hi.s
    have hv : (v_bits_Set_List (sb.1, sb.2)).1 = listOf l.length (backB p l a) := by
      show listS sb = _
      rw [hb.list (by omega)]
      refine listOf_congr fun j hj => ?_
      unfold backB
      rw [Bool.eq_iff_iff, hi.b, Bool.and_eq_true, beq_iff_eq, List.any_eq_true]
      constructor
      · rintro ⟨_, h2, k, hk, h3⟩
        rw [hGi] at hk
        exact ⟨h2, k, List.mem_range.2 (is_lt hk).1, by rw [hk, h3]; rfl⟩
      · rintro ⟨h2, k, _, h3⟩
        rw [Bool.and_eq_true] at h3
        exact ⟨hj, h2, k, by rw [hGi]; exact h3.1, h3.2⟩
    rw [hv]
    exact .leaf
  have loop : ∀ m, ∀ (C G B : Nat → Bool) (sc sg sb : SetT) (O : List Int), 2 * (l.length - card l.length C) + O.length ≤ m → O.length ≤ card l.length C → SetOK sc l.length C → SetOK sg l.length G → SetOK sb l.length B → BInv p l a C G B O →
      (∀ c, C c = true → (c : Int) ∈ O ∨ ∀ d, behB p l c d = true → G d = true) → Goes T (.jmp (.l11 l sb.1 O (thA l a) (a : Int) sb.2 sc.1 sc.2 sg.1 sg.2)) (listOf l.length (backB p l a)) := by
    intro m
    induction m with
    | zero =>
      intro C G B sc sg sb O hm hO1 hc hg hb hi hp
      have : O = [] := List.eq_nil_of_length_eq_zero (by omega)
      subst this
      exact fin C G B sc sg sb hb hi hp
    | succ m ih =>
      intro C G B sc sg sb O hm hO1 hc hg hb hi hp
      cases O with
      | nil => exact fin C G B sc sg sb hb hi hp
      | cons x O =>
        obtain ⟨c, rfl, hCc⟩ := hi.o x (by simp)
        have hcl := ((hi.c c).1 hCc).1
        have hcard := @card_le l.length C
        obtain ⟨q1, q2, q3⟩ := hacc c hcl
        have kbh : k_clash_behind p l (c : Int) = true := by
          unfold k_clash_behind
          rw [Int.toNat_natCast, q3, decide_eq_true ⟨by omega, by omega, by omega⟩, decide_eq_true ⟨q1, q2⟩]; rfl
        have e0 : List.getD ((c : Int) :: O) 0 (dflt (.int .i64)) = (c : Int) := rfl
        have g1 : decide (Int.ofNat ((c : Int) :: O).length > (0 : Int)) = true := decide_eq_true (by simp <;> omega)
        have g2 : decide ((0 : Int) < Int.ofNat ((c : Int) :: O).length) = true := decide_eq_true (by simp <;> omega)
        have g3 : Nat.ble 1 ((c : Int) :: O).length = true := Nat.ble_eq_true_of_le (by simp)
        rw [goes_jmp, hT, T_clash_Back, ← hT, goes_br, if_pos g1, goes_br, if_pos g2, goes_br, if_pos g3, e0, goes_br, if_pos kbh]
        obtain ⟨L, hL⟩ : ∃ L, v_clash_behind p l (c : Int) = L := ⟨_, rfl⟩
        have hLm : ∀ y, y ∈ L ↔ ∃ d : Nat, d < l.length ∧ behB p l c d = true ∧ y = (d : Int) := fun y => by rw [← hL]; unfold v_clash_behind; rw [Int.toNat_natCast]; exact listOf_mem
        have hLl : L.length ≤ l.length := by rw [← hL]; unfold v_clash_behind; rw [listOf_length]; exact card_le
        rw [hL, show List.drop 1 ((c : Int) :: O) = O from rfl]
        have inner : ∀ h, h ≤ L.length → ∀ (C G B : Nat → Bool) (sc sg sb : SetT) (O : List Int), 2 * (l.length - card l.length C) + O.length ≤ m → O.length ≤ card l.length C → SetOK sc l.length C → SetOK sg l.length G → SetOK sb l.length B → BInv p l a C G B O → C c = true →
            (∀ c', C c' = true → c' ≠ c → (c' : Int) ∈ O ∨ ∀ d, behB p l c' d = true → G d = true) → (∀ d, behB p l c d = true → G d = true ∨ (d : Int) ∈ L.drop h) →
            Goes T (.jmp (.l17 (Int.ofNat L.length) l L sb.1 O (thA l a) (a : Int) sb.2 sc.1 sc.2 (h : Int) sg.1 sg.2)) (listOf l.length (backB p l a)) := by
          refine down ?_ fun h hh ih2 => ?_
          · intro C G B sc sg sb O hm hO1 hc hg hb hi hCc hp hcur
            rw [goes_jmp, hT, T_clash_Back, ← hT, goes_br, if_neg (by simp)]
            refine ih C G B sc sg sb O hm hO1 hc hg hb hi fun c' hc' => ?_
            by_cases e : c' = c
            · subst e
              right
              intro d hd
              rcases hcur d hd with h1 | h1
              · exact h1
              · rw [List.drop_length] at h1; cases h1
            · exact hp c' hc' e
          · intro C G B sc sg sb O hm hO1 hc hg hb hi hCc hp hcur
            obtain ⟨d, hd, hbd, hde⟩ := (hLm L[h]).1 (List.getElem_mem hh)
            have hcard := @card_le l.length C
            obtain ⟨p1, p2⟩ := hg.putO (by omega) hd
            have hput : v_bits_Set_Put (sg.1, sg.2) (d : Int) = putS sg (d : Int) := rfl
            have hkb := kb d (sc.1, sc.2) O (sb.1, sb.2) hd (by omega)
            rw [goes_jmp, hT, T_clash_Back, ← hT, goes_br, if_pos (lt_len hh), goes_br, if_pos (bound_len hh), Int.toNat_natCast, getD_lt hh, hde, hput, wrap_succ (by omega), goes_br]
            have hdrop := drop_cons hh
            cases hGd : G d with
            | true =>
              rw [hGd] at p1
              rw [if_neg (by rw [p1]; decide)]
              have e : ∀ k, (G k || (k == d)) = G k := fun k => by
                by_cases hk : k = d
                · subst hk; rw [hGd]; rfl
                · have : (k == d) = false := by simpa using hk
                  rw [this, Bool.or_false]
              refine ih2 C G B sc _ sb O hm hO1 hc (p2.congr' e) hb hi hCc hp fun d' hd' => ?_
              rcases hcur d' hd' with h1 | h1
              · exact .inl h1
              · rw [hdrop] at h1
                rcases List.mem_cons.1 h1 with h1 | h1
                · rw [hde] at h1
                  have : d' = d := by omega
                  subst this
                  exact .inl hGd
                · exact .inr h1
            | false =>
              rw [hGd] at p1
              rw [if_pos (by rw [p1]; rfl), goes_br, if_pos hkb]
              obtain ⟨C', B', b1, b2, b3, b4, b5, b6, b7, b8⟩ := meetF_ok (l := l) (x := d) (own := thA l a) (a := (a : Int)) l.length 0 (sc, O, sb) C B (by omega) (by omega) hc hb
              have hv : v_clash_Back_1 (d : Int) l (thA l a) (sc.1, sc.2) O (a : Int) (sb.1, sb.2) = (l, thA l a, (meetF l (d : Int) (thA l a) (a : Int) (List.range' 0 l.length) (sc, O, sb)).1, (meetF l (d : Int) (thA l a) (a : Int) (List.range' 0 l.length) (sc, O, sb)).2.1, (a : Int), (meetF l (d : Int) (thA l a) (a : Int) (List.range' 0 l.length) (sc, O, sb)).2.2) := rfl
              rw [hv]
              generalize meetF l (d : Int) (thA l a) (a : Int) (List.range' 0 l.length) (sc, O, sb) = R at *
              have hi' := hi.meet (O' := R.2.1) hCc hbd hd b3 b4 b6
              have hcl2 := @card_le l.length C'
              simp only at b5 b6 b7 b8
              have b8' : R.2.1.length + card l.length C = O.length + card l.length C' := b8
              have hcm : card l.length C ≤ card l.length C' := card_mono fun j h => (b3 j).2 (.inl h)
              have m1 : 2 * (l.length - card l.length C') + R.2.1.length ≤ m := by omega
              have m2 : R.2.1.length ≤ card l.length C' := by omega
              refine ih2 C' _ B' R.1 _ R.2.2 R.2.1 m1 m2 b1 p2 b2 hi' ((b3 c).2 (.inl hCc)) (fun c' hc' hne => ?_) fun d' hd' => ?_
              · rcases b7 c' hc' with h1 | h1
                · rcases hp c' h1 hne with h2 | h2
                  · exact .inl (b5 _ h2)
                  · exact .inr fun d'' hd'' => by rw [h2 d'' hd'']; rfl
                · exact .inl h1
              · rcases hcur d' hd' with h1 | h1
                · left; rw [h1]; rfl
                · rw [hdrop] at h1
                  rcases List.mem_cons.1 h1 with h1 | h1
                  · rw [hde] at h1
                    have : d' = d := by omega
                    subst this
                    left; simp
                  · exact .inr h1
        refine inner 0 (Nat.zero_le _) C G B sc sg sb O (by simp at hm; omega) (by simp at hO1; omega) hc hg hb ⟨hi.c, hi.g, fun y hy => hi.o y (List.mem_cons_of_mem _ hy), hi.b, hi.s⟩ hCc (fun c' hc' hne => ?_) fun d hd => ?_
        · rcases hp c' hc' with h1 | h1
          · rcases List.mem_cons.1 h1 with h1 | h1
            · exact absurd (by omega) hne
            · exact .inl h1
          · exact .inr h1
        · exact .inr (by rw [List.drop_zero]; exact (hLm _).2 ⟨d, (behB_lt hd).1, hd, rfl⟩)
  -- the first meeting
  rw [if_pos (kb a _ [] _ ha (by simp))]
  obtain ⟨C', B', b1, b2, b3, b4, b5, b6, b7, b8⟩ := meetF_ok (l := l) (x := a) (own := thA l a) (a := (a : Int)) l.length 0 ((((l.length : Nat) : Int), []), [], (((l.length : Nat) : Int), [])) (fun _ => false) (fun _ => false) (by omega) (by omega) (SetOK.new _) (SetOK.new _)
  have hv : v_clash_Back_1 (a : Int) l (thA l a) (((l.length : Nat) : Int), []) [] (a : Int) (((l.length : Nat) : Int), []) = (l, thA l a, (meetF l (a : Int) (thA l a) (a : Int) (List.range' 0 l.length) ((((l.length : Nat) : Int), []), [], (((l.length : Nat) : Int), []))).1, (meetF l (a : Int) (thA l a) (a : Int) (List.range' 0 l.length) ((((l.length : Nat) : Int), []), [], (((l.length : Nat) : Int), []))).2.1, (a : Int), (meetF l (a : Int) (thA l a) (a : Int) (List.range' 0 l.length) ((((l.length : Nat) : Int), []), [], (((l.length : Nat) : Int), []))).2.2) := rfl
  rw [hv]
  generalize meetF l (a : Int) (thA l a) (a : Int) (List.range' 0 l.length) ((((l.length : Nat) : Int), []), [], (((l.length : Nat) : Int), [])) = R at *
  simp only at b5 b6 b7 b8
  have hcl2 := @card_le l.length C'
  have h00 : card l.length (fun _ => false) = 0 := by unfold card; simp
  rw [h00] at b8
  refine loop _ C' (fun _ => false) B' R.1 (((l.length : Nat) : Int), []) R.2.2 R.2.1 (Nat.le_refl _) (by simp at b8; omega) b1 (SetOK.new _) b2 ⟨fun c => ?_, fun d hd => (by cases hd), fun y hy => ?_, fun b => ?_, fun d hd => (by cases hd)⟩ fun c hc => ?_
  · rw [b3]
    constructor
    · rintro (h | ⟨_, h1, h2, h3⟩)
      · cases h
      · exact ⟨by omega, h3, .inl h2⟩
    · rintro ⟨h1, h2, h3 | ⟨k, hk, _⟩⟩
      · exact .inr ⟨Nat.zero_le _, by omega, h3, h2⟩
      · cases hk
  · rcases b6 y hy with h | h
    · cases h
    · exact h
  · rw [b4]
    constructor
    · rintro (h | ⟨_, _, _, _, h⟩)
      · cases h
      · exact absurd rfl h
    · rintro ⟨_, _, k, hk, _⟩
      cases hk
  · rcases b7 c hc with h | h
    · cases h
    · exact .inl h
end Go.Ev
end

section
set_option linter.unusedSectionVars false
set_option linter.unusedVariables false
set_option linter.unusedSimpArgs false
set_option maxRecDepth 100000
set_option linter.unusedVariables false
open Go Go.Ev
namespace Go.Ev
noncomputable section
noncomputable def e_clash_Back : Run := entG sg_clash_Back R_clash_Back (fun a => k_clash_Back a.1 a.2.1) (fun a => v_clash_Back a.1 a.2.1)
theorem ok_clash_Back : EntOK Go.Proofs.Tryd.prog 9 e_clash_Back := entG_ok (tb := tb_clash_Back) (c := c_clash_Back) tk_clash_Back (by kernel_rfl) (by kernel_rfl) (by kernel_rfl) (fun a => by kernel_rfl) fun ⟨p, a, _⟩ hk => evF_goes (c := c_clash_Back) (K := fun v => (R_clash_Back v, tps (toForms sg_clash_Back (p, a, ())))) (S := S_clash_Back p a) (by kernel_rfl) (en_clash_Back p a) (lp_clash_Back p a) (g_clash_Back p a hk)
end
end Go.Ev
end

section
set_option linter.unusedSectionVars false
set_option linter.unusedVariables false
set_option linter.unusedSimpArgs false
set_option maxRecDepth 100000
set_option linter.unusedVariables false
open Go Go.Ev
namespace Go.Ev
noncomputable section
/-! ### paling/palingbook.SameInts -/
def sg_book_SameInts : Sig := [(false, (.sl (.int .i64))), (false, (.sl (.int .i64)))]
noncomputable def t_book_SameInts : Tbl := []
theorem tk_book_SameInts : ∀ p ∈ t_book_SameInts, EntOK Go.Proofs.Tryd.prog p.1 p.2 := tbl_nil
noncomputable def c_book_SameInts : Code := Go.Proofs.Tryd.f12.body.getD .skip
def tb_book_SameInts : Tb := [(6, ⟨[0, 1, 5], []⟩)]
inductive J_book_SameInts where
  | l6 (i : Int)
def T_book_SameInts (a : List Int) (b : List Int) : J_book_SameInts → JT J_book_SameInts (Bool)
  | .l6 i =>
    .br (decide (i < (Int.ofNat (List.length a))))
      (.br ((decide ((0 : Int) ≤ i)) && (decide (i < (Int.ofNat (List.length a)))))
        (.br ((decide ((0 : Int) ≤ i)) && (decide (i < (Int.ofNat (List.length b)))))
          (.br ((List.getD a (Int.toNat i) (dflt (.int .i64))) != (List.getD b (Int.toNat i) (dflt (.int .i64))))
            (.leaf false)
          (.jmp (.l6 (IntKind.i64.wrap (i + (1 : Int))))))
        (.no))
      (.no))
    (.leaf true)
def T0_book_SameInts (a : List Int) (b : List Int) : JT J_book_SameInts (Bool) :=
  .br ((Int.ofNat (List.length a)) != (Int.ofNat (List.length b)))
    (.leaf false)
  (.jmp (.l6 (0 : Int)))
def R_book_SameInts : Bool → AV := fun (r : Bool) => .d .bool r
def S_book_SameInts (a : List Int) (b : List Int) : J_book_SameInts → Nat × St
  | .l6 i => (6, ⟨mkTm 26 [(0, .d (.sl (.int .i64)) a), (1, .d (.sl (.int .i64)) b), (5, .d (.int .i64) i)], []⟩)
theorem en_book_SameInts (a : List Int) (b : List Int) (L : Lt) : entryA Go.Proofs.Tryd.prog (clOf t_book_SameInts) tb_book_SameInts Go.Proofs.Tryd.f12 c_book_SameInts L (toForms sg_book_SameInts (a, b, ())) = (T0_book_SameInts a b).run (fun v => some (R_book_SameInts v, tps (toForms sg_book_SameInts (a, b, ())))) fun j => L (S_book_SameInts a b j).1 (S_book_SameInts a b j).2 := by kernel_rfl
theorem lp_book_SameInts (a : List Int) (b : List Int) : ∀ (L : Lt) (j : J_book_SameInts), procOf (procsF Go.Proofs.Tryd.prog (clOf t_book_SameInts) tb_book_SameInts Go.Proofs.Tryd.f12 c_book_SameInts (toForms sg_book_SameInts (a, b, ()))) (S_book_SameInts a b j).1 L (S_book_SameInts a b j).2 = (T_book_SameInts a b j).run (fun v => some (R_book_SameInts v, tps (toForms sg_book_SameInts (a, b, ())))) fun j => L (S_book_SameInts a b j).1 (S_book_SameInts a b j).2
  | L, .l6 i => by kernel_rfl
end
end Go.Ev
end

section
set_option linter.unusedSectionVars false
set_option linter.unusedVariables false
set_option linter.unusedSimpArgs false
set_option linter.unusedVariables false
set_option linter.unusedSimpArgs false
open Go
namespace Go.Ev
theorem intB_eq {a b : Int} : (a == b) = decide (a = b) := by rw [Bool.eq_iff_iff]; simp

def v_book_SameInts (a b : List Int) : Bool := decide (a = b)
def k_book_SameInts (a b : List Int) : Bool := decide (a.length < 4611686018427387904)
theorem g_book_SameInts (a b : List Int) (hk : k_book_SameInts a b = true) : Goes (T_book_SameInts a b) (T0_book_SameInts a b) (v_book_SameInts a b) := by
  have hn : a.length < 4611686018427387904 := of_decide_eq_true hk
  have loop : a.length = b.length → ∀ k, k ≤ a.length → Goes (T_book_SameInts a b) (.jmp (.l6 (k : Int))) (decide (a.drop k = b.drop k)) := by
    intro he
    refine down ?_ fun k hk ih => ?_
    · rw [goes_jmp]
      simp [T_book_SameInts, goes_br, goes_leaf, he]
    · rw [goes_jmp]
      have hkb : k < b.length := he ▸ hk
      simp only [T_book_SameInts, goes_br, lt_len hk, lt_len hkb, nng, Bool.and_self, if_true, Int.toNat_natCast, getD_lt hk, getD_lt hkb, wrap_succ (k := k) (by omega)]
      rw [drop_cons hk, drop_cons hkb]
      split
      · rename_i h1
        have h2 : (! decide (a[k] = b[k])) = true := (congrArg Bool.not intB_eq).symm.trans h1
        have h3 : ¬ a[k] = b[k] := by simpa using h2
        rw [decide_eq_false (fun e => h3 (List.cons.inj e).1)]
        exact .leaf
      · rename_i h1
        have h2 : ¬ (! decide (a[k] = b[k])) = true := fun h => h1 ((congrArg Bool.not intB_eq).trans h)
        have h3 : a[k] = b[k] := by simpa using h2
        rw [show decide (a[k] :: List.drop (k + 1) a = b[k] :: List.drop (k + 1) b) = decide (List.drop (k + 1) a = List.drop (k + 1) b) from decide_eq_decide.2 ⟨fun e => (List.cons.inj e).2, fun e => by rw [h3, e]⟩]
        exact ih
  unfold T0_book_SameInts v_book_SameInts
  rw [goes_br]
  by_cases h : a.length = b.length
  · have := loop h 0 (Nat.zero_le _)
    simpa [h] using this
  · have : a ≠ b := fun e => h (congrArg _ e)
    rw [if_pos (by simp; omega), decide_eq_false this]
    exact .leaf

end Go.Ev
end

section
set_option linter.unusedSectionVars false
set_option linter.unusedVariables false
set_option linter.unusedSimpArgs false
set_option maxRecDepth 100000
set_option linter.unusedVariables false
open Go Go.Ev
namespace Go.Ev
noncomputable section
noncomputable def e_book_SameInts : Run := entG sg_book_SameInts R_book_SameInts (fun a => k_book_SameInts a.1 a.2.1) (fun a => v_book_SameInts a.1 a.2.1)
theorem ok_book_SameInts : EntOK Go.Proofs.Tryd.prog 12 e_book_SameInts := entG_ok (tb := tb_book_SameInts) (c := c_book_SameInts) tk_book_SameInts (by kernel_rfl) (by kernel_rfl) (by kernel_rfl) (fun a => by kernel_rfl) fun ⟨a, b, _⟩ hk => evF_goes (c := c_book_SameInts) (K := fun v => (R_book_SameInts v, tps (toForms sg_book_SameInts (a, b, ())))) (S := S_book_SameInts a b) (by kernel_rfl) (en_book_SameInts a b) (lp_book_SameInts a b) (g_book_SameInts a b hk)
end
end Go.Ev
end

section
set_option linter.unusedSectionVars false
set_option linter.unusedVariables false
set_option linter.unusedSimpArgs false
set_option maxRecDepth 100000
set_option linter.unusedVariables false
open Go Go.Ev
namespace Go.Ev
noncomputable section
/-! ### paling/palinglaw23.both -/
def sg_law23_both : Sig := []
noncomputable def t_law23_both : Tbl := []
theorem tk_law23_both : ∀ p ∈ t_law23_both, EntOK Go.Proofs.Tryd.prog p.1 p.2 := tbl_nil
noncomputable def c_law23_both : Code := Go.Proofs.Tryd.f27.body.getD .skip
def tb_law23_both : Tb := []
def T_law23_both : Empty → JT Empty (El T_api_Prog) := fun j => nomatch j
def T0_law23_both : JT Empty (El T_api_Prog) :=
  .leaf ([((bs [120]), ((1 : Int), [])), ((bs [121]), ((1 : Int), []))], [[((1 : Int), (false, ((0 : Int), (((3 : Int), ((0 : Int), ((0 : Int), (0 : Int)))), (((2 : Int), ((0 : Int), ((0 : Int), (1 : Int)))), ((bs []), [])))))), ((1 : Int), (false, ((0 : Int), (((1 : Int), ((0 : Int), ((0 : Int), (0 : Int)))), (((3 : Int), ((0 : Int), ((1 : Int), (0 : Int)))), ((bs []), [])))))), ((14 : Int), (false, ((0 : Int), (((0 : Int), ((0 : Int), ((0 : Int), (0 : Int)))), (((0 : Int), ((0 : Int), ((0 : Int), (0 : Int)))), ((bs []), []))))))], [((1 : Int), (false, ((0 : Int), (((3 : Int), ((0 : Int), ((1 : Int), (0 : Int)))), (((2 : Int), ((0 : Int), ((0 : Int), (1 : Int)))), ((bs []), [])))))), ((1 : Int), (false, ((0 : Int), (((1 : Int), ((0 : Int), ((0 : Int), (0 : Int)))), (((3 : Int), ((0 : Int), ((0 : Int), (0 : Int)))), ((bs []), [])))))), ((14 : Int), (false, ((0 : Int), (((0 : Int), ((0 : Int), ((0 : Int), (0 : Int)))), (((0 : Int), ((0 : Int), ((0 : Int), (0 : Int)))), ((bs []), []))))))]])
def v_law23_both : El T_api_Prog :=
  ([((bs [120]), ((1 : Int), [])), ((bs [121]), ((1 : Int), []))], [[((1 : Int), (false, ((0 : Int), (((3 : Int), ((0 : Int), ((0 : Int), (0 : Int)))), (((2 : Int), ((0 : Int), ((0 : Int), (1 : Int)))), ((bs []), [])))))), ((1 : Int), (false, ((0 : Int), (((1 : Int), ((0 : Int), ((0 : Int), (0 : Int)))), (((3 : Int), ((0 : Int), ((1 : Int), (0 : Int)))), ((bs []), [])))))), ((14 : Int), (false, ((0 : Int), (((0 : Int), ((0 : Int), ((0 : Int), (0 : Int)))), (((0 : Int), ((0 : Int), ((0 : Int), (0 : Int)))), ((bs []), []))))))], [((1 : Int), (false, ((0 : Int), (((3 : Int), ((0 : Int), ((1 : Int), (0 : Int)))), (((2 : Int), ((0 : Int), ((0 : Int), (1 : Int)))), ((bs []), [])))))), ((1 : Int), (false, ((0 : Int), (((1 : Int), ((0 : Int), ((0 : Int), (0 : Int)))), (((3 : Int), ((0 : Int), ((0 : Int), (0 : Int)))), ((bs []), [])))))), ((14 : Int), (false, ((0 : Int), (((0 : Int), ((0 : Int), ((0 : Int), (0 : Int)))), (((0 : Int), ((0 : Int), ((0 : Int), (0 : Int)))), ((bs []), []))))))]])
theorem g_law23_both : Goes (T_law23_both) (T0_law23_both) (v_law23_both) :=
  Goes.leaf
def R_law23_both : El T_api_Prog → AV := fun (r : El T_api_Prog) => .ag [.rw 47 T_api_Sym r.1, .rw 35 (.sl T_api_Ins) r.2]
def S_law23_both : Empty → Nat × St := fun j => nomatch j
theorem en_law23_both (L : Lt) : entryA Go.Proofs.Tryd.prog (clOf t_law23_both) tb_law23_both Go.Proofs.Tryd.f27 c_law23_both L (toForms sg_law23_both (())) = (T0_law23_both).run (fun v => some (R_law23_both v, tps (toForms sg_law23_both (())))) fun j => L (S_law23_both j).1 (S_law23_both j).2 := by kernel_rfl
theorem lp_law23_both : ∀ (L : Lt) (j : Empty), procOf (procsF Go.Proofs.Tryd.prog (clOf t_law23_both) tb_law23_both Go.Proofs.Tryd.f27 c_law23_both (toForms sg_law23_both (()))) (S_law23_both j).1 L (S_law23_both j).2 = (T_law23_both j).run (fun v => some (R_law23_both v, tps (toForms sg_law23_both (())))) fun j => L (S_law23_both j).1 (S_law23_both j).2 := fun L j => nomatch j
noncomputable def e_law23_both : Run := entT sg_law23_both R_law23_both (fun a => v_law23_both)
theorem ok_law23_both : EntOK Go.Proofs.Tryd.prog 27 e_law23_both := entT_ok (tb := tb_law23_both) (c := c_law23_both) tk_law23_both (by kernel_rfl) (by kernel_rfl) (by kernel_rfl) (fun a => by kernel_rfl) fun _ => evF_goes (c := c_law23_both) (K := fun v => (R_law23_both v, tps (toForms sg_law23_both (())))) (S := S_law23_both) (by kernel_rfl) (en_law23_both) (lp_law23_both) (g_law23_both)
theorem co_law23_both : CallOK Go.Proofs.Tryd.prog 27 (toForms sg_law23_both (())) (R_law23_both (v_law23_both), tps (toForms sg_law23_both (()))) := by
  obtain ⟨h1, h2⟩ := clOf_ok tk_law23_both
  obtain ⟨n, hn⟩ := evF_goes (c := c_law23_both) (K := fun v => (R_law23_both v, tps (toForms sg_law23_both (())))) (S := S_law23_both) (by kernel_rfl) (en_law23_both) (lp_law23_both) (g_law23_both)
  exact evF_sound (f := 27) (c := c_law23_both) h1 h2 (by kernel_rfl) (by kernel_rfl) (by kernel_rfl) hn
end
end Go.Ev
end

section
set_option linter.unusedSectionVars false
set_option linter.unusedVariables false
set_option linter.unusedSimpArgs false
set_option maxRecDepth 100000
set_option linter.unusedVariables false
open Go Go.Ev
namespace Go.Ev
noncomputable section
/-! ### paling/clash.Pairs -/
def sg_clash_Pairs : Sig := [(true, T_api_Prog)]
noncomputable def t_clash_Pairs : Tbl := [(20, e_touch_Of), (21, e_clash_clash)]
theorem tk_clash_Pairs : ∀ p ∈ t_clash_Pairs, EntOK Go.Proofs.Tryd.prog p.1 p.2 := tbl_cons ok_touch_Of (tbl_cons ok_clash_clash (tbl_nil))
noncomputable def c_clash_Pairs : Code := Go.Proofs.Tryd.f8.body.getD .skip
def tb_clash_Pairs : Tb := [(5, ⟨[3, 4, 10, 11], [(4, 58)]⟩), (11, ⟨[3, 4, 5, 6, 10, 11], [(4, 58)]⟩)]
inductive J_clash_Pairs where
  | l5 (h : Int) (out : List (El T_opnd_AtPart))
  | l11 (k : Int) (out : List (El T_opnd_AtPart)) (i : Int) (h : Int)
def T_clash_Pairs (p : El T_api_Prog) : J_clash_Pairs → JT J_clash_Pairs (List (El T_opnd_AtPart))
  | .l5 h out =>
    .br (decide (h < (Int.ofNat (List.length (v_touch_Of p)))))
      (.jmp (.l11 (IntKind.i64.wrap (h + (1 : Int))) out h h))
    (.leaf out)
  | .l11 k out i h =>
    .br (decide (k < (Int.ofNat (List.length (v_touch_Of p)))))
      (.br ((decide ((0 : Int) ≤ i)) && (decide (i < (Int.ofNat (List.length (v_touch_Of p))))))
        (.br ((decide ((0 : Int) ≤ k)) && (decide (k < (Int.ofNat (List.length (v_touch_Of p))))))
          (.br (v_clash_clash (List.getD (v_touch_Of p) (Int.toNat i) (dflt T_api_Access)) (List.getD (v_touch_Of p) (Int.toNat k) (dflt T_api_Access)))
            (.br (Nat.ble (((List.length out) + 1) * 16) limit)
              (.jmp (.l11 (IntKind.i64.wrap (k + (1 : Int))) (out ++ [(i, k)]) i h))
            (.no))
          (.jmp (.l11 (IntKind.i64.wrap (k + (1 : Int))) out i h)))
        (.no))
      (.no))
    (.jmp (.l5 (IntKind.i64.wrap (h + (1 : Int))) out))
def T0_clash_Pairs (p : El T_api_Prog) : JT J_clash_Pairs (List (El T_opnd_AtPart)) :=
  .br (k_touch_Of p)
    (.jmp (.l5 (0 : Int) []))
  (.no)
def R_clash_Pairs : List (El T_opnd_AtPart) → AV := fun (r : List (El T_opnd_AtPart)) => .rw 67 T_opnd_AtPart r
def S_clash_Pairs (p : El T_api_Prog) : J_clash_Pairs → Nat × St
  | .l5 h out => (5, ⟨mkTm 39 [(3, .own 4 0 none), (4, .d (.sl T_api_Access) (v_touch_Of p)), (10, .d (.int .i64) (Int.ofNat (List.length (v_touch_Of p)))), (11, .d (.int .i64) h)], [(4, 0, .row 67 T_opnd_AtPart out false)]⟩)
  | .l11 k out i h => (11, ⟨mkTm 39 [(3, .own 4 0 none), (4, .d (.sl T_api_Access) (v_touch_Of p)), (5, .d (.int .i64) i), (6, .d (.int .i64) k), (10, .d (.int .i64) (Int.ofNat (List.length (v_touch_Of p)))), (11, .d (.int .i64) h)], [(4, 0, .row 67 T_opnd_AtPart out false)]⟩)
theorem en_clash_Pairs (p : El T_api_Prog) (L : Lt) : entryA Go.Proofs.Tryd.prog (clOf t_clash_Pairs) tb_clash_Pairs Go.Proofs.Tryd.f8 c_clash_Pairs L (toForms sg_clash_Pairs (p, ())) = (T0_clash_Pairs p).run (fun v => some (R_clash_Pairs v, tps (toForms sg_clash_Pairs (p, ())))) fun j => L (S_clash_Pairs p j).1 (S_clash_Pairs p j).2 := by kernel_rfl
theorem lp_clash_Pairs (p : El T_api_Prog) : ∀ (L : Lt) (j : J_clash_Pairs), procOf (procsF Go.Proofs.Tryd.prog (clOf t_clash_Pairs) tb_clash_Pairs Go.Proofs.Tryd.f8 c_clash_Pairs (toForms sg_clash_Pairs (p, ()))) (S_clash_Pairs p j).1 L (S_clash_Pairs p j).2 = (T_clash_Pairs p j).run (fun v => some (R_clash_Pairs v, tps (toForms sg_clash_Pairs (p, ())))) fun j => L (S_clash_Pairs p j).1 (S_clash_Pairs p j).2
  | L, .l5 h out => by kernel_rfl
  | L, .l11 k out i h => by kernel_rfl
end
end Go.Ev
end

section
set_option linter.unusedSectionVars false
set_option linter.unusedVariables false
set_option linter.unusedSimpArgs false
set_option maxRecDepth 100000
set_option linter.unusedVariables false
set_option linter.unusedSimpArgs false
open Go
namespace Go.Ev
/-- The pairs of which the first is i. -/
def pairI (l : List Acc) (i : Nat) : List (Int × Int) := ((List.range' (i + 1) (l.length - (i + 1))).filter fun k => clB l i k).map fun k : Nat => ((i : Int), (k : Int))
def pairsFrom (l : List Acc) (i : Nat) : List (Int × Int) := (List.range' i (l.length - i)).flatMap (pairI l)
def v_clash_Pairs (p : El T_api_Prog) : List (El T_opnd_AtPart) := pairsFrom (ofC p) 0
def k_clash_Pairs (p : El T_api_Prog) : Bool := smallAll p && decide ((ofC p).length < 1000000)
theorem pairI_len (l : List Acc) (i : Nat) : (pairI l i).length ≤ l.length := by
  unfold pairI
  rw [List.length_map]
  have := List.length_filter_le (fun k => clB l i k) (List.range' (i + 1) (l.length - (i + 1)))
  rw [List.length_range'] at this
  omega
theorem g_clash_Pairs (p : El T_api_Prog) (hk : k_clash_Pairs p = true) : Goes (T_clash_Pairs p) (T0_clash_Pairs p) (v_clash_Pairs p) := by
  unfold k_clash_Pairs at hk
  rw [Bool.and_eq_true] at hk
  obtain ⟨hs, hN⟩ := hk
  have hN := of_decide_eq_true hN
  have kt : k_touch_Of p = true := hs
  have vt : v_touch_Of p = ofC p := rfl
  obtain ⟨l, hl⟩ : ∃ l, ofC p = l := ⟨_, rfl⟩
  rw [hl] at hN vt
  have outer : ∀ i, i ≤ l.length → ∀ out : List (Int × Int), out.length ≤ i * l.length → Goes (T_clash_Pairs p) (.jmp (.l5 (i : Int) out)) (out ++ pairsFrom l i) := by
    refine down ?_ fun i hi ih => ?_
    · intro out ho
      rw [goes_jmp, T_clash_Pairs, vt, goes_br, if_neg (by rw [lt_len_not (Nat.lt_irrefl _)]; decide)]
      unfold pairsFrom
      rw [Nat.sub_self]
      simp only [List.range'_zero, List.flatMap_nil, List.append_nil]
      exact .leaf
    · intro out ho
      have inner : ∀ k, k ≤ l.length → i + 1 ≤ k → ∀ o2 : List (Int × Int), o2.length ≤ i * l.length + (k - (i + 1)) → o2 ++ ((List.range' k (l.length - k)).filter fun k => clB l i k).map (fun k : Nat => ((i : Int), (k : Int))) = out ++ pairI l i →
          Goes (T_clash_Pairs p) (.jmp (.l11 (k : Int) o2 (i : Int) (i : Int))) (out ++ pairsFrom l i) := by
        refine down ?_ fun k hk ih2 => ?_
        · intro _ o2 ho2 he
          rw [goes_jmp, T_clash_Pairs, vt, goes_br, if_neg (by rw [lt_len_not (Nat.lt_irrefl _)]; decide), wrap_succ (by omega)]
          rw [Nat.sub_self] at he
          simp only [List.range'_zero, List.filter_nil, List.map_nil, List.append_nil] at he
          rw [he]
          have := ih (out ++ pairI l i) (by
            rw [List.length_append]
            have := pairI_len l i
            rw [Nat.add_mul]; omega)
          have e : pairsFrom l i = pairI l i ++ pairsFrom l (i + 1) := by
            unfold pairsFrom
            rw [show l.length - i = (l.length - (i + 1)) + 1 by omega, List.range'_succ, List.flatMap_cons]
          rw [e, ← List.append_assoc]
          exact this
        · intro hik o2 ho2 he
          have hprod : i * l.length ≤ 1000000 * 1000000 := Nat.mul_le_mul (by omega) (by omega)
          have b1 : Nat.ble ((o2.length + 1) * 16) limit = true := Nat.ble_eq_true_of_le (by unfold limit; omega)
          have ec : v_clash_clash (List.getD l i (dflt T_api_Access)) (List.getD l k (dflt T_api_Access)) = clB l i k := rfl
          rw [show l.length - k = (l.length - (k + 1)) + 1 by omega, List.range'_succ, List.filter_cons] at he
          rw [goes_jmp, T_clash_Pairs, vt]
          simp only [goes_br, lt_len hk, lt_len hi, nng, Bool.and_self, if_true, Int.toNat_natCast, ec, b1, wrap_succ (k := k) (by omega)]
          by_cases c : clB l i k = true
          · rw [if_pos c]
            rw [if_pos c] at he
            exact ih2 (by omega) _ (by simp; omega) (by rw [List.append_assoc]; exact he)
          · rw [if_neg c]
            rw [if_neg c] at he
            exact ih2 (by omega) _ (by omega) he
      rw [goes_jmp, T_clash_Pairs, vt, goes_br, if_pos (lt_len hi), wrap_succ (by omega)]
      exact inner (i + 1) (by omega) (Nat.le_refl _) out (by omega) rfl
  have := outer 0 (Nat.zero_le _) [] (Nat.zero_le _)
  unfold T0_clash_Pairs v_clash_Pairs
  rw [goes_br, if_pos kt, hl]
  exact this
end Go.Ev
end

section
set_option linter.unusedSectionVars false
set_option linter.unusedVariables false
set_option linter.unusedSimpArgs false
set_option maxRecDepth 100000
set_option linter.unusedVariables false
open Go Go.Ev
namespace Go.Ev
noncomputable section
noncomputable def e_clash_Pairs : Run := entG sg_clash_Pairs R_clash_Pairs (fun a => k_clash_Pairs a.1) (fun a => v_clash_Pairs a.1)
theorem ok_clash_Pairs : EntOK Go.Proofs.Tryd.prog 8 e_clash_Pairs := entG_ok (tb := tb_clash_Pairs) (c := c_clash_Pairs) tk_clash_Pairs (by kernel_rfl) (by kernel_rfl) (by kernel_rfl) (fun a => by kernel_rfl) fun ⟨p, _⟩ hk => evF_goes (c := c_clash_Pairs) (K := fun v => (R_clash_Pairs v, tps (toForms sg_clash_Pairs (p, ())))) (S := S_clash_Pairs p) (by kernel_rfl) (en_clash_Pairs p) (lp_clash_Pairs p) (g_clash_Pairs p hk)
end
end Go.Ev
end

section
set_option linter.unusedSectionVars false
set_option linter.unusedVariables false
set_option linter.unusedSimpArgs false
set_option maxRecDepth 100000
set_option linter.unusedVariables false
open Go Go.Ev
namespace Go.Ev
noncomputable section
/-! ### paling/palingbook.SameTwos -/
def sg_book_SameTwos : Sig := [(false, (.sl T_opnd_AtPart)), (false, (.sl T_opnd_AtPart))]
noncomputable def t_book_SameTwos : Tbl := []
theorem tk_book_SameTwos : ∀ p ∈ t_book_SameTwos, EntOK Go.Proofs.Tryd.prog p.1 p.2 := tbl_nil
noncomputable def c_book_SameTwos : Code := Go.Proofs.Tryd.f28.body.getD .skip
def tb_book_SameTwos : Tb := [(6, ⟨[0, 1, 5], []⟩)]
inductive J_book_SameTwos where
  | l6 (i : Int)
def T_book_SameTwos (a : List (El T_opnd_AtPart)) (b : List (El T_opnd_AtPart)) : J_book_SameTwos → JT J_book_SameTwos (Bool)
  | .l6 i =>
    .br (decide (i < (Int.ofNat (List.length a))))
      (.br ((decide ((0 : Int) ≤ i)) && (decide (i < (Int.ofNat (List.length a)))))
        (.br ((decide ((0 : Int) ≤ i)) && (decide (i < (Int.ofNat (List.length b)))))
          (.br (! (((List.getD a (Int.toNat i) (dflt T_opnd_AtPart)).1 == (List.getD b (Int.toNat i) (dflt T_opnd_AtPart)).1) && ((List.getD a (Int.toNat i) (dflt T_opnd_AtPart)).2 == (List.getD b (Int.toNat i) (dflt T_opnd_AtPart)).2)))
            (.leaf false)
          (.jmp (.l6 (IntKind.i64.wrap (i + (1 : Int))))))
        (.no))
      (.no))
    (.leaf true)
def T0_book_SameTwos (a : List (El T_opnd_AtPart)) (b : List (El T_opnd_AtPart)) : JT J_book_SameTwos (Bool) :=
  .br ((Int.ofNat (List.length a)) != (Int.ofNat (List.length b)))
    (.leaf false)
  (.jmp (.l6 (0 : Int)))
def R_book_SameTwos : Bool → AV := fun (r : Bool) => .d .bool r
def S_book_SameTwos (a : List (El T_opnd_AtPart)) (b : List (El T_opnd_AtPart)) : J_book_SameTwos → Nat × St
  | .l6 i => (6, ⟨mkTm 26 [(0, .d (.sl T_opnd_AtPart) a), (1, .d (.sl T_opnd_AtPart) b), (5, .d (.int .i64) i)], []⟩)
theorem en_book_SameTwos (a : List (El T_opnd_AtPart)) (b : List (El T_opnd_AtPart)) (L : Lt) : entryA Go.Proofs.Tryd.prog (clOf t_book_SameTwos) tb_book_SameTwos Go.Proofs.Tryd.f28 c_book_SameTwos L (toForms sg_book_SameTwos (a, b, ())) = (T0_book_SameTwos a b).run (fun v => some (R_book_SameTwos v, tps (toForms sg_book_SameTwos (a, b, ())))) fun j => L (S_book_SameTwos a b j).1 (S_book_SameTwos a b j).2 := by kernel_rfl
theorem lp_book_SameTwos (a : List (El T_opnd_AtPart)) (b : List (El T_opnd_AtPart)) : ∀ (L : Lt) (j : J_book_SameTwos), procOf (procsF Go.Proofs.Tryd.prog (clOf t_book_SameTwos) tb_book_SameTwos Go.Proofs.Tryd.f28 c_book_SameTwos (toForms sg_book_SameTwos (a, b, ()))) (S_book_SameTwos a b j).1 L (S_book_SameTwos a b j).2 = (T_book_SameTwos a b j).run (fun v => some (R_book_SameTwos v, tps (toForms sg_book_SameTwos (a, b, ())))) fun j => L (S_book_SameTwos a b j).1 (S_book_SameTwos a b j).2
  | L, .l6 i => by kernel_rfl
end
end Go.Ev
end

section
set_option linter.unusedSectionVars false
set_option linter.unusedVariables false
set_option linter.unusedSimpArgs false
set_option linter.unusedVariables false
set_option linter.unusedSimpArgs false
open Go
namespace Go.Ev
theorem twoB_eq {a b : El T_opnd_AtPart} : (a.1 == b.1 && a.2 == b.2) = decide (a = b) := by
  obtain ⟨a1, a2⟩ := a
  obtain ⟨b1, b2⟩ := b
  rw [Bool.eq_iff_iff]
  simp

def v_book_SameTwos (a b : List (El T_opnd_AtPart)) : Bool := decide (a = b)
def k_book_SameTwos (a b : List (El T_opnd_AtPart)) : Bool := decide (a.length < 4611686018427387904)
theorem g_book_SameTwos (a b : List (El T_opnd_AtPart)) (hk : k_book_SameTwos a b = true) : Goes (T_book_SameTwos a b) (T0_book_SameTwos a b) (v_book_SameTwos a b) := by
  have hn : a.length < 4611686018427387904 := of_decide_eq_true hk
  have loop : a.length = b.length → ∀ k, k ≤ a.length → Goes (T_book_SameTwos a b) (.jmp (.l6 (k : Int))) (decide (a.drop k = b.drop k)) := by
    intro he
    refine down ?_ fun k hk ih => ?_
    · rw [goes_jmp]
      simp [T_book_SameTwos, goes_br, goes_leaf, he]
    · rw [goes_jmp]
      have hkb : k < b.length := he ▸ hk
      simp only [T_book_SameTwos, goes_br, lt_len hk, lt_len hkb, nng, Bool.and_self, if_true, Int.toNat_natCast, getD_lt hk, getD_lt hkb, wrap_succ (k := k) (by omega)]
      rw [drop_cons hk, drop_cons hkb]
      split
      · rename_i h1
        have h2 : (! decide (a[k] = b[k])) = true := (congrArg Bool.not twoB_eq).symm.trans h1
        have h3 : ¬ a[k] = b[k] := by simpa using h2
        rw [decide_eq_false (fun e => h3 (List.cons.inj e).1)]
        exact .leaf
      · rename_i h1
        have h2 : ¬ (! decide (a[k] = b[k])) = true := fun h => h1 ((congrArg Bool.not twoB_eq).trans h)
        have h3 : a[k] = b[k] := by simpa using h2
        rw [show decide (a[k] :: List.drop (k + 1) a = b[k] :: List.drop (k + 1) b) = decide (List.drop (k + 1) a = List.drop (k + 1) b) from decide_eq_decide.2 ⟨fun e => (List.cons.inj e).2, fun e => by rw [h3, e]⟩]
        exact ih
  unfold T0_book_SameTwos v_book_SameTwos
  rw [goes_br]
  by_cases h : a.length = b.length
  · have := loop h 0 (Nat.zero_le _)
    simpa [h] using this
  · have : a ≠ b := fun e => h (congrArg _ e)
    rw [if_pos (by simp; omega), decide_eq_false this]
    exact .leaf

end Go.Ev
end

section
set_option linter.unusedSectionVars false
set_option linter.unusedVariables false
set_option linter.unusedSimpArgs false
set_option maxRecDepth 100000
set_option linter.unusedVariables false
open Go Go.Ev
namespace Go.Ev
noncomputable section
noncomputable def e_book_SameTwos : Run := entG sg_book_SameTwos R_book_SameTwos (fun a => k_book_SameTwos a.1 a.2.1) (fun a => v_book_SameTwos a.1 a.2.1)
theorem ok_book_SameTwos : EntOK Go.Proofs.Tryd.prog 28 e_book_SameTwos := entG_ok (tb := tb_book_SameTwos) (c := c_book_SameTwos) tk_book_SameTwos (by kernel_rfl) (by kernel_rfl) (by kernel_rfl) (fun a => by kernel_rfl) fun ⟨a, b, _⟩ hk => evF_goes (c := c_book_SameTwos) (K := fun v => (R_book_SameTwos v, tps (toForms sg_book_SameTwos (a, b, ())))) (S := S_book_SameTwos a b) (by kernel_rfl) (en_book_SameTwos a b) (lp_book_SameTwos a b) (g_book_SameTwos a b hk)
end
end Go.Ev
end

section
set_option linter.unusedSectionVars false
set_option linter.unusedVariables false
set_option linter.unusedSimpArgs false
set_option maxRecDepth 100000
set_option linter.unusedVariables false
open Go Go.Ev
namespace Go.Ev
noncomputable section
/-! ### paling/palinglaw23.alive -/
def sg_law23_alive : Sig := []
noncomputable def t_law23_alive : Tbl := [(27, e_law23_both), (8, e_clash_Pairs), (28, e_book_SameTwos), (9, e_clash_Back), (12, e_book_SameInts)]
theorem tk_law23_alive : ∀ p ∈ t_law23_alive, EntOK Go.Proofs.Tryd.prog p.1 p.2 := tbl_cons ok_law23_both (tbl_cons ok_clash_Pairs (tbl_cons ok_book_SameTwos (tbl_cons ok_clash_Back (tbl_cons ok_book_SameInts (tbl_nil)))))
noncomputable def c_law23_alive : Code := Go.Proofs.Tryd.f10.body.getD .skip
def tb_law23_alive : Tb := []
def T_law23_alive : Empty → JT Empty (Bool) := fun j => nomatch j
def T0_law23_alive : JT Empty (Bool) :=
  .br (k_clash_Pairs v_law23_both)
    (.br (k_book_SameTwos (v_clash_Pairs v_law23_both) [((0 : Int), (3 : Int)), ((1 : Int), (2 : Int))])
      (.br (v_book_SameTwos (v_clash_Pairs v_law23_both) [((0 : Int), (3 : Int)), ((1 : Int), (2 : Int))])
        (.br (k_clash_Back v_law23_both (1 : Int))
          (.br (k_book_SameInts (v_clash_Back v_law23_both (1 : Int)) [(0 : Int), (1 : Int)])
            (.br (v_book_SameInts (v_clash_Back v_law23_both (1 : Int)) [(0 : Int), (1 : Int)])
              (.br (k_clash_Back v_law23_both (0 : Int))
                (.br (k_book_SameInts (v_clash_Back v_law23_both (0 : Int)) [(0 : Int)])
                  (.br (v_book_SameInts (v_clash_Back v_law23_both (0 : Int)) [(0 : Int)])
                    (.br (k_clash_Back v_law23_both (4 : Int))
                      (.leaf ((Int.ofNat (List.length (v_clash_Back v_law23_both (4 : Int)))) == (0 : Int)))
                    (.no))
                  (.leaf false))
                (.no))
              (.no))
            (.leaf false))
          (.no))
        (.no))
      (.leaf false))
    (.no))
  (.no)
def v_law23_alive : Bool :=
  bif (k_clash_Pairs v_law23_both) then
    bif (k_book_SameTwos (v_clash_Pairs v_law23_both) [((0 : Int), (3 : Int)), ((1 : Int), (2 : Int))]) then
      bif (v_book_SameTwos (v_clash_Pairs v_law23_both) [((0 : Int), (3 : Int)), ((1 : Int), (2 : Int))]) then
        bif (k_clash_Back v_law23_both (1 : Int)) then
          bif (k_book_SameInts (v_clash_Back v_law23_both (1 : Int)) [(0 : Int), (1 : Int)]) then
            bif (v_book_SameInts (v_clash_Back v_law23_both (1 : Int)) [(0 : Int), (1 : Int)]) then
              bif (k_clash_Back v_law23_both (0 : Int)) then
                bif (k_book_SameInts (v_clash_Back v_law23_both (0 : Int)) [(0 : Int)]) then
                  bif (v_book_SameInts (v_clash_Back v_law23_both (0 : Int)) [(0 : Int)]) then
                    bif (k_clash_Back v_law23_both (4 : Int)) then
                      ((Int.ofNat (List.length (v_clash_Back v_law23_both (4 : Int)))) == (0 : Int))
                    else false
                  else false
                else false
              else false
            else false
          else false
        else false
      else false
    else false
  else false
def k_law23_alive : Bool :=
  bif (k_clash_Pairs v_law23_both) then
    bif (k_book_SameTwos (v_clash_Pairs v_law23_both) [((0 : Int), (3 : Int)), ((1 : Int), (2 : Int))]) then
      bif (v_book_SameTwos (v_clash_Pairs v_law23_both) [((0 : Int), (3 : Int)), ((1 : Int), (2 : Int))]) then
        bif (k_clash_Back v_law23_both (1 : Int)) then
          bif (k_book_SameInts (v_clash_Back v_law23_both (1 : Int)) [(0 : Int), (1 : Int)]) then
            bif (v_book_SameInts (v_clash_Back v_law23_both (1 : Int)) [(0 : Int), (1 : Int)]) then
              bif (k_clash_Back v_law23_both (0 : Int)) then
                bif (k_book_SameInts (v_clash_Back v_law23_both (0 : Int)) [(0 : Int)]) then
                  bif (v_book_SameInts (v_clash_Back v_law23_both (0 : Int)) [(0 : Int)]) then
                    bif (k_clash_Back v_law23_both (4 : Int)) then
                      true
                    else false
                  else true
                else false
              else false
            else true
          else false
        else false
      else true
    else false
  else false
theorem g_law23_alive (hk : k_law23_alive = true) : Goes (T_law23_alive) (T0_law23_alive) (v_law23_alive) :=
  Goes.brk hk (fun hk =>
    Goes.brk hk (fun hk =>
      Goes.brk hk (fun hk =>
        Goes.brk hk (fun hk =>
          Goes.brk hk (fun hk =>
            Goes.brk hk (fun hk =>
              Goes.brk hk (fun hk =>
                Goes.brk hk (fun hk =>
                  Goes.brk hk (fun hk =>
                    Goes.brk hk (fun hk =>
                      Goes.leaf) (fun hk =>
                      Goes.nok hk)) (fun hk =>
                    Goes.leaf)) (fun hk =>
                  Goes.nok hk)) (fun hk =>
                Goes.nok hk)) (fun hk =>
              Goes.leaf)) (fun hk =>
            Goes.nok hk)) (fun hk =>
          Goes.nok hk)) (fun hk =>
        Goes.leaf)) (fun hk =>
      Goes.nok hk)) (fun hk =>
    Goes.nok hk)
def R_law23_alive : Bool → AV := fun (r : Bool) => .d .bool r
def S_law23_alive : Empty → Nat × St := fun j => nomatch j
theorem en_law23_alive (L : Lt) : entryA Go.Proofs.Tryd.prog (clOf t_law23_alive) tb_law23_alive Go.Proofs.Tryd.f10 c_law23_alive L (toForms sg_law23_alive (())) = (T0_law23_alive).run (fun v => some (R_law23_alive v, tps (toForms sg_law23_alive (())))) fun j => L (S_law23_alive j).1 (S_law23_alive j).2 := by kernel_rfl
theorem lp_law23_alive : ∀ (L : Lt) (j : Empty), procOf (procsF Go.Proofs.Tryd.prog (clOf t_law23_alive) tb_law23_alive Go.Proofs.Tryd.f10 c_law23_alive (toForms sg_law23_alive (()))) (S_law23_alive j).1 L (S_law23_alive j).2 = (T_law23_alive j).run (fun v => some (R_law23_alive v, tps (toForms sg_law23_alive (())))) fun j => L (S_law23_alive j).1 (S_law23_alive j).2 := fun L j => nomatch j
noncomputable def e_law23_alive : Run := entG sg_law23_alive R_law23_alive (fun a => k_law23_alive) (fun a => v_law23_alive)
theorem ok_law23_alive : EntOK Go.Proofs.Tryd.prog 10 e_law23_alive := entG_ok (tb := tb_law23_alive) (c := c_law23_alive) tk_law23_alive (by kernel_rfl) (by kernel_rfl) (by kernel_rfl) (fun a => by kernel_rfl) fun _ hk => evF_goes (c := c_law23_alive) (K := fun v => (R_law23_alive v, tps (toForms sg_law23_alive (())))) (S := S_law23_alive) (by kernel_rfl) (en_law23_alive) (lp_law23_alive) (g_law23_alive hk)
theorem co_law23_alive (hk : k_law23_alive = true) : CallOK Go.Proofs.Tryd.prog 10 (toForms sg_law23_alive (())) (R_law23_alive (v_law23_alive), tps (toForms sg_law23_alive (()))) := by
  obtain ⟨h1, h2⟩ := clOf_ok tk_law23_alive
  obtain ⟨n, hn⟩ := evF_goes (c := c_law23_alive) (K := fun v => (R_law23_alive v, tps (toForms sg_law23_alive (())))) (S := S_law23_alive) (by kernel_rfl) (en_law23_alive) (lp_law23_alive) (g_law23_alive hk)
  exact evF_sound (f := 10) (c := c_law23_alive) h1 h2 (by kernel_rfl) (by kernel_rfl) (by kernel_rfl) hn
end
end Go.Ev
end

section
set_option linter.unusedSectionVars false
set_option linter.unusedVariables false
set_option linter.unusedSimpArgs false
set_option maxRecDepth 100000
set_option linter.unusedVariables false
open Go Go.Ev
namespace Go.Ev
noncomputable section
/-! ### paling/palinglaw23.ClashRing -/
def sg_law23_ClashRing : Sig := [(false, (.int .i64)), (false, (.int .i64)), (false, (.int .i64))]
noncomputable def t_law23_ClashRing : Tbl := [(11, e_book_Pick), (9, e_clash_Back), (12, e_book_SameInts), (10, e_law23_alive)]
theorem tk_law23_ClashRing : ∀ p ∈ t_law23_ClashRing, EntOK Go.Proofs.Tryd.prog p.1 p.2 := tbl_cons ok_book_Pick (tbl_cons ok_clash_Back (tbl_cons ok_book_SameInts (tbl_cons ok_law23_alive (tbl_nil))))
noncomputable def c_law23_ClashRing : Code := Go.Proofs.Tryd.f4.body.getD .skip
def tb_law23_ClashRing : Tb := [(6, ⟨[0, 1, 2, 7, 8], [(8193, 48)]⟩), (12, ⟨[0, 1, 2, 7, 9], [(8194, 50)]⟩)]
inductive J_law23_ClashRing where
  | l6 (i : Int) (p : List (El T_api_Sym))
  | l12 (p : List (El T_api_Sym)) (i : Int) (p1 : List (List (El T_api_Ins)))
def T_law23_ClashRing (n : Int) (turned : Int) (which : Int) : J_law23_ClashRing → JT J_law23_ClashRing (Bool)
  | .l6 i p =>
    .br (decide (i < (IntKind.i64.wrap ((2 : Int) + (v_book_Pick n (5 : Int))))))
      (.br (decide ((Int.ofNat ((ByteArray.size (bs [115])) + (ByteArray.size (bytesText [(IntKind.u8.wrap (IntKind.i64.wrap ((97 : Int) + i)))])))) > (9223372036854775807 : Int)))
        (.no)
      (.br (Nat.ble (((List.length p) + 1) * 48) limit)
        (.jmp (.l6 (IntKind.i64.wrap (i + (1 : Int))) (p ++ [(((bs [115]) ++ (bytesText [(IntKind.u8.wrap (IntKind.i64.wrap ((97 : Int) + i)))])), ((1 : Int), []))])))
      (.no)))
    (.jmp (.l12 p (0 : Int) []))
  | .l12 p i p1 =>
    .br (decide (i < (IntKind.i64.wrap ((2 : Int) + (v_book_Pick n (5 : Int))))))
      (.br ((IntKind.i64.wrap ((2 : Int) + (v_book_Pick n (5 : Int)))) == (0 : Int))
        (.no)
      (.br (i == (v_book_Pick turned (IntKind.i64.wrap ((2 : Int) + (v_book_Pick n (5 : Int))))))
        (.br (Nat.ble (((List.length p1) + 1) * 24) limit)
          (.jmp (.l12 p (IntKind.i64.wrap (i + (1 : Int))) (p1 ++ [[((1 : Int), (false, ((0 : Int), (((3 : Int), ((0 : Int), ((Int.tmod (IntKind.i64.wrap (i + (1 : Int))) (IntKind.i64.wrap ((2 : Int) + (v_book_Pick n (5 : Int))))), (0 : Int)))), (((2 : Int), ((0 : Int), ((0 : Int), (1 : Int)))), ((bs []), [])))))), ((1 : Int), (false, ((0 : Int), (((1 : Int), ((0 : Int), ((0 : Int), (0 : Int)))), (((3 : Int), ((0 : Int), (i, (0 : Int)))), ((bs []), [])))))), ((14 : Int), (false, ((0 : Int), (((0 : Int), ((0 : Int), ((0 : Int), (0 : Int)))), (((0 : Int), ((0 : Int), ((0 : Int), (0 : Int)))), ((bs []), []))))))]])))
        (.no))
      (.br (Nat.ble (((List.length p1) + 1) * 24) limit)
        (.jmp (.l12 p (IntKind.i64.wrap (i + (1 : Int))) (p1 ++ [[((1 : Int), (false, ((0 : Int), (((1 : Int), ((0 : Int), ((0 : Int), (0 : Int)))), (((3 : Int), ((0 : Int), (i, (0 : Int)))), ((bs []), [])))))), ((1 : Int), (false, ((0 : Int), (((3 : Int), ((0 : Int), ((Int.tmod (IntKind.i64.wrap (i + (1 : Int))) (IntKind.i64.wrap ((2 : Int) + (v_book_Pick n (5 : Int))))), (0 : Int)))), (((2 : Int), ((0 : Int), ((0 : Int), (1 : Int)))), ((bs []), [])))))), ((14 : Int), (false, ((0 : Int), (((0 : Int), ((0 : Int), ((0 : Int), (0 : Int)))), (((0 : Int), ((0 : Int), ((0 : Int), (0 : Int)))), ((bs []), []))))))]])))
      (.no))))
    (.br (k_book_Pick which (IntKind.i64.wrap ((2 : Int) + (v_book_Pick n (5 : Int)))))
      (.br (k_clash_Back (p, p1) (IntKind.i64.wrap ((2 : Int) * (v_book_Pick turned (IntKind.i64.wrap ((2 : Int) + (v_book_Pick n (5 : Int))))))))
        (.br (k_book_SameInts (v_clash_Back (p, p1) (IntKind.i64.wrap ((2 : Int) * (v_book_Pick turned (IntKind.i64.wrap ((2 : Int) + (v_book_Pick n (5 : Int)))))))) [(IntKind.i64.wrap ((2 : Int) * (v_book_Pick turned (IntKind.i64.wrap ((2 : Int) + (v_book_Pick n (5 : Int))))))), (IntKind.i64.wrap ((IntKind.i64.wrap ((2 : Int) * (v_book_Pick turned (IntKind.i64.wrap ((2 : Int) + (v_book_Pick n (5 : Int))))))) + (1 : Int)))])
          (.br (! (v_book_SameInts (v_clash_Back (p, p1) (IntKind.i64.wrap ((2 : Int) * (v_book_Pick turned (IntKind.i64.wrap ((2 : Int) + (v_book_Pick n (5 : Int)))))))) [(IntKind.i64.wrap ((2 : Int) * (v_book_Pick turned (IntKind.i64.wrap ((2 : Int) + (v_book_Pick n (5 : Int))))))), (IntKind.i64.wrap ((IntKind.i64.wrap ((2 : Int) * (v_book_Pick turned (IntKind.i64.wrap ((2 : Int) + (v_book_Pick n (5 : Int))))))) + (1 : Int)))]))
            (.leaf false)
          (.br (k_clash_Back (p, p1) (IntKind.i64.wrap ((IntKind.i64.wrap ((2 : Int) * (v_book_Pick turned (IntKind.i64.wrap ((2 : Int) + (v_book_Pick n (5 : Int))))))) + (1 : Int))))
            (.br (k_book_SameInts (v_clash_Back (p, p1) (IntKind.i64.wrap ((IntKind.i64.wrap ((2 : Int) * (v_book_Pick turned (IntKind.i64.wrap ((2 : Int) + (v_book_Pick n (5 : Int))))))) + (1 : Int)))) [(IntKind.i64.wrap ((IntKind.i64.wrap ((2 : Int) * (v_book_Pick turned (IntKind.i64.wrap ((2 : Int) + (v_book_Pick n (5 : Int))))))) + (1 : Int)))])
              (.br (! (v_book_SameInts (v_clash_Back (p, p1) (IntKind.i64.wrap ((IntKind.i64.wrap ((2 : Int) * (v_book_Pick turned (IntKind.i64.wrap ((2 : Int) + (v_book_Pick n (5 : Int))))))) + (1 : Int)))) [(IntKind.i64.wrap ((IntKind.i64.wrap ((2 : Int) * (v_book_Pick turned (IntKind.i64.wrap ((2 : Int) + (v_book_Pick n (5 : Int))))))) + (1 : Int)))]))
                (.leaf false)
              (.br ((v_book_Pick which (IntKind.i64.wrap ((2 : Int) + (v_book_Pick n (5 : Int))))) == (v_book_Pick turned (IntKind.i64.wrap ((2 : Int) + (v_book_Pick n (5 : Int))))))
                (.br k_law23_alive
                  (.leaf v_law23_alive)
                (.no))
              (.br (k_clash_Back (p, p1) (IntKind.i64.wrap ((IntKind.i64.wrap ((2 : Int) * (v_book_Pick which (IntKind.i64.wrap ((2 : Int) + (v_book_Pick n (5 : Int))))))) + (1 : Int))))
                (.br (k_book_SameInts (v_clash_Back (p, p1) (IntKind.i64.wrap ((IntKind.i64.wrap ((2 : Int) * (v_book_Pick which (IntKind.i64.wrap ((2 : Int) + (v_book_Pick n (5 : Int))))))) + (1 : Int)))) [(IntKind.i64.wrap ((IntKind.i64.wrap ((2 : Int) * (v_book_Pick which (IntKind.i64.wrap ((2 : Int) + (v_book_Pick n (5 : Int))))))) + (1 : Int)))])
                  (.br (v_book_SameInts (v_clash_Back (p, p1) (IntKind.i64.wrap ((IntKind.i64.wrap ((2 : Int) * (v_book_Pick which (IntKind.i64.wrap ((2 : Int) + (v_book_Pick n (5 : Int))))))) + (1 : Int)))) [(IntKind.i64.wrap ((IntKind.i64.wrap ((2 : Int) * (v_book_Pick which (IntKind.i64.wrap ((2 : Int) + (v_book_Pick n (5 : Int))))))) + (1 : Int)))])
                    (.br k_law23_alive
                      (.leaf v_law23_alive)
                    (.no))
                  (.leaf false))
                (.no))
              (.no))))
            (.no))
          (.no)))
        (.no))
      (.no))
    (.no))
def T0_law23_ClashRing (n : Int) (turned : Int) (which : Int) : JT J_law23_ClashRing (Bool) :=
  .br (k_book_Pick n (5 : Int))
    (.br (k_book_Pick turned (IntKind.i64.wrap ((2 : Int) + (v_book_Pick n (5 : Int)))))
      (.jmp (.l6 (0 : Int) []))
    (.no))
  (.no)
def R_law23_ClashRing : Bool → AV := fun (r : Bool) => .d .bool r
def S_law23_ClashRing (n : Int) (turned : Int) (which : Int) : J_law23_ClashRing → Nat × St
  | .l6 i p => (6, ⟨mkTm 121 [(0, .d (.int .i64) (IntKind.i64.wrap ((2 : Int) + (v_book_Pick n (5 : Int))))), (1, .d (.int .i64) (v_book_Pick turned (IntKind.i64.wrap ((2 : Int) + (v_book_Pick n (5 : Int)))))), (2, .d (.int .i64) which), (7, .pt 8 0 0), (8, .d (.int .i64) i)], [(8, 0, .box 27 [.own 8193 0 none, .nil] none), (8193, 0, .row 47 T_api_Sym p false)]⟩)
  | .l12 p i p1 => (12, ⟨mkTm 121 [(0, .d (.int .i64) (IntKind.i64.wrap ((2 : Int) + (v_book_Pick n (5 : Int))))), (1, .d (.int .i64) (v_book_Pick turned (IntKind.i64.wrap ((2 : Int) + (v_book_Pick n (5 : Int)))))), (2, .d (.int .i64) which), (7, .pt 8 0 0), (9, .d (.int .i64) i)], [(8, 0, .box 27 [.own 8193 0 none, .own 8194 0 none] none), (8193, 0, .row 47 T_api_Sym p false), (8194, 0, .row 35 (.sl T_api_Ins) p1 false)]⟩)
theorem en_law23_ClashRing (n : Int) (turned : Int) (which : Int) (L : Lt) : entryA Go.Proofs.Tryd.prog (clOf t_law23_ClashRing) tb_law23_ClashRing Go.Proofs.Tryd.f4 c_law23_ClashRing L (toForms sg_law23_ClashRing (n, turned, which, ())) = (T0_law23_ClashRing n turned which).run (fun v => some (R_law23_ClashRing v, tps (toForms sg_law23_ClashRing (n, turned, which, ())))) fun j => L (S_law23_ClashRing n turned which j).1 (S_law23_ClashRing n turned which j).2 := by kernel_rfl
theorem lp_law23_ClashRing (n : Int) (turned : Int) (which : Int) : ∀ (L : Lt) (j : J_law23_ClashRing), procOf (procsF Go.Proofs.Tryd.prog (clOf t_law23_ClashRing) tb_law23_ClashRing Go.Proofs.Tryd.f4 c_law23_ClashRing (toForms sg_law23_ClashRing (n, turned, which, ()))) (S_law23_ClashRing n turned which j).1 L (S_law23_ClashRing n turned which j).2 = (T_law23_ClashRing n turned which j).run (fun v => some (R_law23_ClashRing v, tps (toForms sg_law23_ClashRing (n, turned, which, ())))) fun j => L (S_law23_ClashRing n turned which j).1 (S_law23_ClashRing n turned which j).2
  | L, .l6 i p => by kernel_rfl
  | L, .l12 p i p1 => by kernel_rfl
end
end Go.Ev
end

section
set_option linter.unusedSectionVars false
set_option linter.unusedVariables false
set_option linter.unusedSimpArgs false
/- Chains, for reckoning. -/
set_option linter.unusedVariables false
open Go
namespace Go.Ev
def fromX (t : List (El T_api_Ins)) (i : Int) (j : Nat) : Bool := (comeL (fun k j => nextB t (k : Int) j) (nextB t i) t.length).getD j false
theorem fromX_eq (t : List (El T_api_Ins)) (i : Int) (j : Nat) : fromB t i j = fromX t i j := comeL_eq (fun j => nextB_lt) (fun k j => nextB_lt) j
def behX (p : El T_api_Prog) (l : List Acc) (c d : Nat) : Bool :=
  decide (d < l.length) && (thA l d == thA l c && (d == c || ((inA l d == inA l c && decide (paA l d > paA l c)) || (decide (0 ≤ inA l d) && fromX (thrOf p l c) (inA l c) (inA l d).toNat))))
theorem behX_eq (p : El T_api_Prog) (l : List Acc) (c d : Nat) : behB p l c d = behX p l c d := by
  unfold behB behX
  rw [fromX_eq]
def chX (p : El T_api_Prog) (l : List Acc) (a i k : Nat) : Bool := decide (k < l.length) && (!(thA l k == thA l a) && (clB l i k || behX p l i k))
def isX (p : El T_api_Prog) (l : List Acc) (a k : Nat) : Bool := (comeL (chX p l a) (chS l a) l.length).getD k false
theorem isX_eq (p : El T_api_Prog) (l : List Acc) (a k : Nat) : isB p l a k = isX p l a k := by
  have e : chB p l a = chX p l a := by
    funext i k
    unfold chB chX
    rw [behX_eq]
  unfold isB isX
  rw [e]
  refine comeL_eq (fun j h => ?_) (fun k j h => ?_) k
  · unfold chS at h
    rw [Bool.and_eq_true, decide_eq_true_eq] at h
    exact h.1
  · unfold chX at h
    rw [Bool.and_eq_true, decide_eq_true_eq] at h
    exact h.1
def backX (p : El T_api_Prog) (l : List Acc) (a b : Nat) : Bool := thA l b == thA l a && (List.range l.length).any fun k => isX p l a k && clB l k b
theorem backX_eq (p : El T_api_Prog) (l : List Acc) (a b : Nat) : backB p l a b = backX p l a b := by
  unfold backB backX
  simp only [isX_eq]
end Go.Ev
end

section
set_option linter.unusedSectionVars false
set_option linter.unusedVariables false
set_option linter.unusedSimpArgs false
/- Rings of threads: for reckoning. -/
set_option maxRecDepth 100000
set_option linter.unusedVariables false
open Go
namespace Go.Ev
def symR (i : Nat) : El T_api_Sym := ((bs [115]) ++ (bytesText [(IntKind.u8.wrap (IntKind.i64.wrap ((97 : Int) + (i : Int))))]), ((1 : Int), []))
def readR (i : Int) : El T_api_Ins := ((1 : Int), (false, ((0 : Int), (((1 : Int), ((0 : Int), ((0 : Int), (0 : Int)))), (((3 : Int), ((0 : Int), (i, (0 : Int)))), ((bs []), []))))))
def writeR (i : Int) : El T_api_Ins := ((1 : Int), (false, ((0 : Int), (((3 : Int), ((0 : Int), (i, (0 : Int)))), (((2 : Int), ((0 : Int), ((0 : Int), (1 : Int)))), ((bs []), []))))))
def haltR : El T_api_Ins := ((14 : Int), (false, ((0 : Int), (((0 : Int), ((0 : Int), ((0 : Int), (0 : Int)))), (((0 : Int), ((0 : Int), ((0 : Int), (0 : Int)))), ((bs []), []))))))
def thrR (n t i : Nat) : List (El T_api_Ins) := if i = t then [writeR (((i + 1) % n : Nat) : Int), readR (i : Int), haltR] else [readR (i : Int), writeR (((i + 1) % n : Nat) : Int), haltR]
def ringP (n t : Nat) : El T_api_Prog := ((List.range n).map symR, (List.range n).map (thrR n t))
def ringOK (n t : Nat) : Bool := smallAll (ringP n t) && ((ofC (ringP n t)).length == 2 * n && (listOf (2 * n) (backX (ringP n t) (ofC (ringP n t)) (2 * t)) == ([((2 * t : Nat) : Int), ((2 * t + 1 : Nat) : Int)] : List Int) && (listOf (2 * n) (backX (ringP n t) (ofC (ringP n t)) (2 * t + 1)) == ([((2 * t + 1 : Nat) : Int)] : List Int) && (List.range n).all fun k => k == t || listOf (2 * n) (backX (ringP n t) (ofC (ringP n t)) (2 * k + 1)) == ([((2 * k + 1 : Nat) : Int)] : List Int))))
end Go.Ev
end

section
set_option linter.unusedSectionVars false
set_option linter.unusedVariables false
set_option linter.unusedSimpArgs false
/- Chapter 23's first calls. -/
set_option maxRecDepth 100000
set_option linter.unusedVariables false
set_option linter.unusedSimpArgs false
open Go
namespace Go.Ev
theorem alive23 : k_law23_alive = true ∧ v_law23_alive = true := by
  have hs : smallAll v_law23_both = true := by decide +kernel
  have hN : (ofC v_law23_both).length = 4 := by decide +kernel
  have kp : k_clash_Pairs v_law23_both = true := by decide +kernel
  have kb : ∀ a, k_clash_Back v_law23_both a = true := fun _ => hs
  have vp : v_clash_Pairs v_law23_both = [(0, 3), (1, 2)] := by decide +kernel
  have bk : ∀ a : Nat, a < 4 → v_clash_Back v_law23_both (a : Int) = listOf 4 (backX v_law23_both (ofC v_law23_both) a) := fun a ha => by
    unfold v_clash_Back
    rw [hN, if_pos ⟨by omega, by omega⟩]
    exact listOf_congr fun i _ => by rw [backX_eq, Int.toNat_natCast]
  have b1 : v_clash_Back v_law23_both 1 = [0, 1] := (bk 1 (by decide)).trans (by decide +kernel)
  have b0 : v_clash_Back v_law23_both 0 = [0] := (bk 0 (by decide)).trans (by decide +kernel)
  have b4 : v_clash_Back v_law23_both 4 = [] := by
    unfold v_clash_Back
    rw [hN, if_neg (by omega)]
  unfold k_law23_alive v_law23_alive
  simp only [kp, kb, vp, b1, b0, b4]
  exact ⟨by decide +kernel, by decide +kernel⟩
end Go.Ev
end

section
set_option linter.unusedSectionVars false
set_option linter.unusedVariables false
set_option linter.unusedSimpArgs false
/- The helper Pick, and what is made with it. -/
set_option linter.unusedVariables false
namespace Go.Ev
open Go
theorem pick_lt {n m : Int} (h1 : 0 < m) (h2 : m < 9223372036854775808) : k_book_Pick n m = true ∧ 0 ≤ v_book_Pick n m ∧ v_book_Pick n m < m := by
  have h0 : (m == 0) = false := by simp; omega
  have hl : Int.tmod n m < m := Int.tmod_lt_of_pos n h1
  have hg : -m < Int.tmod n m := by have := Int.tmod_lt_of_pos (-n) h1; rw [Int.neg_tmod] at this; omega
  unfold k_book_Pick v_book_Pick
  simp only [h0, cond_false, Bool.cond_self, true_and]
  by_cases hn : Int.tmod n m < 0
  · simp only [hn, decide_true, cond_true]
    rw [wrap_i64 (by omega) (by omega)]
    omega
  · simp only [hn, decide_false, cond_false]
    omega
theorem pick_fin {P : Int → Prop} {n m : Int} (h1 : 0 < m) (h2 : m < 9223372036854775808) (h : ∀ k : Fin m.toNat, P (k.1 : Int)) : P (v_book_Pick n m) := by
  obtain ⟨_, h3, h4⟩ := pick_lt (n := n) h1 h2
  have := h ⟨(v_book_Pick n m).toNat, by omega⟩
  rwa [Int.toNat_of_nonneg h3] at this
end Go.Ev
end

section
set_option linter.unusedSectionVars false
set_option linter.unusedVariables false
set_option linter.unusedSimpArgs false
set_option maxRecDepth 100000
set_option linter.unusedVariables false
set_option linter.unusedSimpArgs false
open Go
namespace Go.Ev
def v_law23_ClashRing (n turned which : Int) : Bool := true
def k_law23_ClashRing (n turned which : Int) : Bool := true
theorem rings_ok : ((List.range 7).all fun n => (List.range n).all fun t => decide (n < 2) || ringOK n t) = true := by decide +kernel
theorem ring_ok {n t : Nat} (h2 : 2 ≤ n) (h6 : n < 7) (ht : t < n) : ringOK n t = true := by
  have := List.all_eq_true.1 (List.all_eq_true.1 rings_ok n (List.mem_range.2 h6)) t (List.mem_range.2 ht)
  rw [decide_eq_false (by omega), Bool.false_or] at this
  exact this
theorem g_law23_ClashRing (n turned which : Int) (hk : k_law23_ClashRing n turned which = true) : Goes (T_law23_ClashRing n turned which) (T0_law23_ClashRing n turned which) (v_law23_ClashRing n turned which) := by
  obtain ⟨ka, va⟩ := alive23
  obtain ⟨k1, n0, n1⟩ := pick_lt (n := n) (m := 5) (by decide) (by decide)
  obtain ⟨N, hN, hN2, hN6⟩ : ∃ N : Nat, IntKind.i64.wrap ((2 : Int) + v_book_Pick n 5) = (N : Int) ∧ 2 ≤ N ∧ N < 7 := by
    refine ⟨(2 + v_book_Pick n 5).toNat, ?_, by omega, by omega⟩
    rw [wrap_i64 (by omega) (by omega)]; omega
  obtain ⟨k2, t0, t1⟩ := pick_lt (n := turned) (m := (N : Int)) (by omega) (by omega)
  obtain ⟨k3, w0, w1⟩ := pick_lt (n := which) (m := (N : Int)) (by omega) (by omega)
  obtain ⟨t, ht⟩ : ∃ t : Nat, v_book_Pick turned (N : Int) = (t : Int) := ⟨(v_book_Pick turned (N : Int)).toNat, by omega⟩
  obtain ⟨w, hw⟩ : ∃ w : Nat, v_book_Pick which (N : Int) = (w : Int) := ⟨(v_book_Pick which (N : Int)).toNat, by omega⟩
  have htN : t < N := by omega
  have hwN : w < N := by omega
  have hr := ring_ok hN2 hN6 htN
  unfold ringOK at hr
  simp only [Bool.and_eq_true, beq_iff_eq, List.all_eq_true, List.mem_range, Bool.or_eq_true] at hr
  obtain ⟨hs, hl, b1, b2, b3⟩ := hr
  have kb : ∀ a, k_clash_Back (ringP N t) a = true := fun _ => hs
  have bk : ∀ a : Nat, a < 2 * N → v_clash_Back (ringP N t) (a : Int) = listOf (2 * N) (backX (ringP N t) (ofC (ringP N t)) a) := fun a ha => by
    unfold v_clash_Back
    rw [hl, if_pos ⟨by omega, by omega⟩]
    exact listOf_congr fun i _ => by rw [backX_eq, Int.toNat_natCast]
  obtain ⟨T, hT⟩ : ∃ T, T = T_law23_ClashRing n turned which := ⟨_, rfl⟩
  rw [← hT]
  have two : ∀ x : Nat, x < 100 → IntKind.i64.wrap ((2 : Int) * (x : Int)) = ((2 * x : Nat) : Int) := fun x hx => by rw [wrap_i64 (by omega) (by omega)]; omega
  have kS : ∀ a b : List Int, a.length < 100 → k_book_SameInts a b = true := fun a b h => decide_eq_true (by omega)
  have vS : ∀ a : List Int, v_book_SameInts a a = true := fun a => decide_eq_true rfl
  have second : ∀ i, i ≤ N → Goes T (.jmp (.l12 ((List.range N).map symR) (i : Int) ((List.range i).map (thrR N t)))) true := by
    refine down ?_ fun i hi ih => ?_
    · have e1 := bk (2 * t) (by omega)
      have e2 := bk (2 * t + 1) (by omega)
      have e3 := bk (2 * w + 1) (by omega)
      rw [b1] at e1
      rw [b2] at e2
      rw [goes_jmp, hT, T_law23_ClashRing, ← hT, hN]
      rw [ht, hw]
      have hP : ((List.range N).map symR, (List.range N).map (thrR N t)) = ringP N t := rfl
      rw [hP, two t (by omega), two w (by omega), wrap_succ (k := 2 * t) (by omega), wrap_succ (k := 2 * w) (by omega)]
      rw [goes_br, if_neg (by simp), goes_br, if_pos k3, goes_br, if_pos (kb _), goes_br, e1, if_pos (kS _ _ (by simp)), goes_br, vS, if_neg (by decide), goes_br, if_pos (kb _), goes_br, e2, if_pos (kS _ _ (by simp)), goes_br, vS, if_neg (by decide), goes_br]
      by_cases hwt : w = t
      · subst hwt
        rw [if_pos (by simp), goes_br, if_pos ka, va]
        exact .leaf
      · rcases b3 w hwN with h | h
        · exact absurd h hwt
        rw [h] at e3
        rw [if_neg (by simp; omega), goes_br, if_pos (kb _), goes_br, e3, if_pos (kS _ _ (by simp)), goes_br, vS, if_pos rfl, goes_br, if_pos ka, va]
        exact .leaf
    · have hlt : decide ((i : Int) < (N : Int)) = true := decide_eq_true (by omega)
      have hb : Nat.ble ((((List.range i).map (thrR N t)).length + 1) * 24) limit = true := Nat.ble_eq_true_of_le (by simp [limit]; omega)
      have hmod : Int.tmod (IntKind.i64.wrap ((i : Int) + 1)) (N : Int) = (((i + 1) % N : Nat) : Int) := by
        rw [wrap_succ (by omega)]
        rfl
      rw [List.range_succ, List.map_append] at ih
      rw [goes_jmp, hT, T_law23_ClashRing, ← hT, hN, ht, hmod, goes_br, if_pos hlt, goes_br, if_neg (by simp; omega), goes_br, wrap_succ (by omega)]
      by_cases e : i = t
      · subst e
        rw [if_pos (by simp), goes_br, if_pos hb]
        have : thrR N i i = [writeR (((i + 1) % N : Nat) : Int), readR (i : Int), haltR] := by unfold thrR; rw [if_pos rfl]
        rw [List.map_singleton, this] at ih
        exact ih
      · rw [if_neg (by simp; omega), goes_br, if_pos hb]
        have : thrR N t i = [readR (i : Int), writeR (((i + 1) % N : Nat) : Int), haltR] := by unfold thrR; rw [if_neg e]
        rw [List.map_singleton, this] at ih
        exact ih
  have first : ∀ i, i ≤ N → Goes T (.jmp (.l6 (i : Int) ((List.range i).map symR))) true := by
    refine down ?_ fun i hi ih => ?_
    · rw [goes_jmp, hT, T_law23_ClashRing, ← hT, hN, goes_br, if_neg (by simp)]
      exact second 0 (Nat.zero_le _)
    · have hlt : decide ((i : Int) < (N : Int)) = true := decide_eq_true (by omega)
      have hb : Nat.ble ((((List.range i).map symR).length + 1) * 48) limit = true := Nat.ble_eq_true_of_le (by simp [limit]; omega)
      have hz : decide ((Int.ofNat ((ByteArray.size (bs [115])) + (ByteArray.size (bytesText [(IntKind.u8.wrap (IntKind.i64.wrap ((97 : Int) + (i : Int))))])))) > (9223372036854775807 : Int)) = false := decide_eq_false (by show ¬ ((2 : Int) > 9223372036854775807); omega)
      rw [List.range_succ, List.map_append, List.map_singleton] at ih
      rw [goes_jmp, hT, T_law23_ClashRing, ← hT, hN, goes_br, if_pos hlt, goes_br, hz, if_neg (by decide), goes_br, if_pos hb, wrap_succ (by omega)]
      exact ih
  unfold T0_law23_ClashRing v_law23_ClashRing
  rw [goes_br, if_pos k1, hN, goes_br, if_pos k2]
  exact first 0 (Nat.zero_le _)
end Go.Ev
end

section
set_option linter.unusedSectionVars false
set_option linter.unusedVariables false
set_option linter.unusedSimpArgs false
set_option maxRecDepth 100000
set_option linter.unusedVariables false
open Go Go.Ev
namespace Go.Ev
noncomputable section
noncomputable def e_law23_ClashRing : Run := entG sg_law23_ClashRing R_law23_ClashRing (fun a => k_law23_ClashRing a.1 a.2.1 a.2.2.1) (fun a => v_law23_ClashRing a.1 a.2.1 a.2.2.1)
theorem ok_law23_ClashRing : EntOK Go.Proofs.Tryd.prog 4 e_law23_ClashRing := entG_ok (tb := tb_law23_ClashRing) (c := c_law23_ClashRing) tk_law23_ClashRing (by kernel_rfl) (by kernel_rfl) (by kernel_rfl) (fun a => by kernel_rfl) fun ⟨n, turned, which, _⟩ hk => evF_goes (c := c_law23_ClashRing) (K := fun v => (R_law23_ClashRing v, tps (toForms sg_law23_ClashRing (n, turned, which, ())))) (S := S_law23_ClashRing n turned which) (by kernel_rfl) (en_law23_ClashRing n turned which) (lp_law23_ClashRing n turned which) (g_law23_ClashRing n turned which hk)
theorem co_law23_ClashRing (n : Int) (turned : Int) (which : Int) (hk : k_law23_ClashRing n turned which = true) : CallOK Go.Proofs.Tryd.prog 4 (toForms sg_law23_ClashRing (n, turned, which, ())) (R_law23_ClashRing (v_law23_ClashRing n turned which), tps (toForms sg_law23_ClashRing (n, turned, which, ()))) := by
  obtain ⟨h1, h2⟩ := clOf_ok tk_law23_ClashRing
  obtain ⟨n, hn⟩ := evF_goes (c := c_law23_ClashRing) (K := fun v => (R_law23_ClashRing v, tps (toForms sg_law23_ClashRing (n, turned, which, ())))) (S := S_law23_ClashRing n turned which) (by kernel_rfl) (en_law23_ClashRing n turned which) (lp_law23_ClashRing n turned which) (g_law23_ClashRing n turned which hk)
  exact evF_sound (f := 4) (c := c_law23_ClashRing) h1 h2 (by kernel_rfl) (by kernel_rfl) (by kernel_rfl) hn
end
end Go.Ev
end

section
set_option linter.unusedSectionVars false
set_option linter.unusedVariables false
set_option linter.unusedSimpArgs false
set_option maxRecDepth 100000
set_option linter.unusedVariables false
namespace Go.Ev
open Go
theorem call_law23_ClashRing (a : Args sg_law23_ClashRing) (ha : smallArgs sg_law23_ClashRing a) : CallOK Go.Proofs.Tryd.prog fid_law23_ClashRing (toForms sg_law23_ClashRing a) (.d .bool true, tps (toForms sg_law23_ClashRing a)) := by
  obtain ⟨n, t, w, _⟩ := a
  exact co_law23_ClashRing n t w rfl
end Go.Ev
end

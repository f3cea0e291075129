/- Part of the proof of: For every made program fences that were laid in, taken out again, leave the program as it was, and one that may be with them may be: the law answers true for every input. -/
import Derived.Carry
import Derived.ChangeArms
import Derived.ChangeSame
import Derived.Deep.DeepHandedRow
import Derived.OpenShut
import Derived.WideKeyArgs
import Derived.Test.YtijcpdnlofpccaaDoorEng1
section
set_option linter.unusedSectionVars false
set_option linter.unusedVariables false
set_option linter.unusedSimpArgs false
/- From a row's reading of the arguments to the evaluator's data; the law's card. -/
set_option linter.unusedVariables false
set_option linter.unusedSectionVars false
namespace Go.Ev
open Go Go.ChangeShapes Go.RowKit
variable [Tabs]

def fieldsC (chk : TypeId → Ty → Bool) (P : Program) : List (TypeId × Nat) → Nat → Ty → Bool
  | [], _, .un => true
  | [f], off, ty => f.2 == off && (chk f.1 ty && P.cellsOf f.1 == ty.cells)
  | f :: r, off, .pr a b => f.2 == off && (chk f.1 a && (P.cellsOf f.1 == a.cells && fieldsC chk P r (off + a.cells) b))
  | _, _, _ => false
/-- Does a type of the program mean this type of data, cell by cell? -/
def tyC (P : Program) : Nat → TypeId → Ty → Bool
  | 0, _, _ => false
  | n + 1, t, ty => match P.underlying t with
    | some (.int k) => decide (ty = .int k)
    | some .bool => decide (ty = .bool)
    | some .string => decide (ty = .str)
    | some (.slice e) => match ty with
      | .sl u => tyC P n e u && (P.cellsOf e == u.cells && Nat.blt 0 u.cells)
      | _ => false
    | some (.struct fs) => fieldsC (tyC P n) P (fs.toList.map fun f => (f.type, f.offset)) 0 ty && P.cellsOf t == ty.cells
    | some (.array k e) => fieldsC (tyC P n) P ((List.range k).map fun i => (e, i * P.cellsOf e)) 0 ty && P.cellsOf t == ty.cells
    | _ => false

/-- No text and no list in it is longer than memory. -/
def small : (t : Ty) → El t → Prop
  | .int k, n => k.min ≤ (show Int from n) ∧ (show Int from n) ≤ k.max
  | .str, s => (show ByteArray from s).size ≤ maxLen
  | .sl t, l => List.length (show List (El t) from l) ≤ maxLen ∧ ∀ x ∈ (show List (El t) from l), small t x
  | .pr a b, x => small a x.1 ∧ small b x.2
  | _, _ => True

section
variable {H : Type} {enc : TypeId × Value → H} {P : Program} {w : World} {base : Nat} {spare : Nat → Bool} {held : Bool}

theorem cells?_at {a : Addr} {n : Nat} {cs : List Value} (h : w.cells? base a n = some cs) : cs.length = n ∧ cellsAt w a cs := by
  unfold World.cells? at h
  split at h
  · have hl : cs.length = n := by have := mapM_some_length h; rw [List.length_range] at this; exact this
    refine ⟨hl, fun j v hv => ?_⟩
    have hj : j < cs.length := (List.getElem?_eq_some_iff.1 hv).1
    have := mapM_some_get h j j (by rw [List.getElem?_range (by omega)])
    rw [this]; exact hv
  · cases h

theorem fields_rep {chk : TypeId → Ty → Bool} {F : Nat → Prop} (hchk : ∀ t ty cs d, chk t ty = true → (∃ n, DataW.trod enc P w base spare held n t cs = some d) → ∃ x : El ty, LRep F w ty x cs ∧ small ty x) :
    ∀ (fs : List (TypeId × Nat)) (off : Nat) (ty : Ty) (cs : List Value), fieldsC chk P fs off ty = true → (∀ f ∈ fs, ∃ n d, DataW.trod enc P w base spare held n f.1 ((cs.drop f.2).take (P.cellsOf f.1)) = some d) → off + ty.cells ≤ cs.length →
      ∃ x : El ty, LRep F w ty x ((cs.drop off).take ty.cells) ∧ small ty x
  | [], off, ty, cs, h, _, _ => by
    cases ty <;> simp only [fieldsC] at h <;> first | (cases h; done) | skip
    exact ⟨(), by simp [LRep, Ty.cells], trivial⟩
  | [f], off, ty, cs, h, hf, hl => by
    have h' : (f.2 == off && (chk f.1 ty && P.cellsOf f.1 == ty.cells)) = true := by
      cases ty <;> exact h
    simp only [Bool.and_eq_true, beq_iff_eq] at h'
    obtain ⟨h1, h2, h3⟩ := h'
    obtain ⟨n, d, hd⟩ := hf f (by simp)
    rw [h1, h3] at hd
    exact hchk _ _ _ d h2 ⟨n, hd⟩
  | f :: g :: r, off, ty, cs, h, hf, hl => by
    cases ty with
    | pr a b =>
      have h' : (f.2 == off && (chk f.1 a && (P.cellsOf f.1 == a.cells && fieldsC chk P (g :: r) (off + a.cells) b))) = true := h
      simp only [Bool.and_eq_true, beq_iff_eq] at h'
      obtain ⟨h1, h2, h3, h4⟩ := h'
      obtain ⟨n, d, hd⟩ := hf f (by simp)
      rw [h1, h3] at hd
      obtain ⟨x, hx, sx⟩ := hchk _ _ _ d h2 ⟨n, hd⟩
      simp only [Ty.cells] at hl
      obtain ⟨y, hy, sy⟩ := fields_rep hchk (g :: r) (off + a.cells) b cs h4 (fun f' hf' => hf f' (by simp only [List.mem_cons] at hf' ⊢; exact .inr hf')) (by omega)
      refine ⟨(x, y), ?_, sx, sy⟩
      simp only [LRep]
      refine ⟨_, _, ?_, hx, hy⟩
      simp only [Ty.cells]
      rw [List.take_add, List.drop_drop]
    | _ => simp [fieldsC] at h

theorem list_of {α : Type} {Q : Nat → α → Prop} : ∀ {n : Nat}, (∀ i, i < n → ∃ x, Q i x) → ∃ l : List α, l.length = n ∧ ∀ i x, l[i]? = some x → Q i x
  | 0, _ => ⟨[], rfl, fun i x hx => by simp at hx⟩
  | n + 1, h => by
    obtain ⟨l, hl, hall⟩ := list_of (n := n) fun i hi => h i (by omega)
    obtain ⟨x, hx⟩ := h n (by omega)
    refine ⟨l ++ [x], by simp [hl], fun i y hy => ?_⟩
    by_cases hi : i < n
    · rw [List.getElem?_append_left (by omega)] at hy
      exact hall i y hy
    · rw [List.getElem?_append_right (by omega)] at hy
      have hik : i = n := by
        have := (List.getElem?_eq_some_iff.1 hy).1
        simp at this; omega
      subst hik
      simp [hl] at hy
      subst hy
      exact hx

/-- What a row reads is data. -/
theorem trod_rep : ∀ (m : Nat) (t : TypeId) (ty : Ty) (cs : List Value) (d : DataW H × List MemPlace), tyC P m t ty = true → (∃ n, DataW.trod enc P w base spare held n t cs = some d) →
    ∃ x : El ty, LRep (fun b => b < w.heap.size) w ty x cs ∧ small ty x
  | 0, _, _, _, _, h, _ => by cases h
  | m + 1, t, ty, cs, d, h, ⟨n, hd⟩ => by
    unfold tyC at h
    split at h
    · rename_i k hu
      obtain rfl := of_decide_eq_true h
      obtain ⟨i, rfl, _, hw⟩ := DataW.trod_int hu hd
      exact ⟨i, rfl, (show k.min ≤ i ∧ i ≤ k.max by simpa [Lit.wf] using hw)⟩
    · rename_i hu
      obtain rfl := of_decide_eq_true h
      obtain ⟨b, rfl, _⟩ := DataW.trod_bool hu hd
      exact ⟨b, rfl, trivial⟩
    · rename_i hu
      obtain rfl := of_decide_eq_true h
      obtain ⟨s, rfl, _, hs⟩ := DataW.trod_string hu hd
      exact ⟨s, rfl, hs⟩
    · rename_i e hu
      split at h
      · rename_i u
        simp only [Bool.and_eq_true, beq_iff_eq] at h
        obtain ⟨h1, h2, h0⟩ := h
        have hz : 0 < u.cells := Nat.le_of_ble_eq_true h0
        rcases DataW.trod_slice hu hd with ⟨rfl, _⟩ | ⟨a, len, cap, elems, rest, n', _, rfl, _, hb, hlc, hcm, hel, hat, _, _⟩
        · exact ⟨[], ⟨none, 0, rfl, Nat.le_refl _, fun i x hx => by simp at hx⟩, by simp [small]⟩
        · have each : ∀ i, i < len → ∃ x : El u, (∃ cs, LRep (fun b => b < w.heap.size) w u x cs ∧ cellsAt w (a.add (i * u.cells)) cs ∧ (0 < cs.length → a.block < w.heap.size)) ∧ small u x := by
            intro i hi
            have h3 := hat i hi
            rw [List.getElem?_eq_getElem (by omega)] at h3
            obtain ⟨cs, hc, ht⟩ := Option.bind_eq_some_iff.1 h3
            rw [h2] at hc
            obtain ⟨hl, hca⟩ := cells?_at hc
            obtain ⟨x, hx, sx⟩ := trod_rep m e u cs _ h1 ⟨n', ht⟩
            refine ⟨x, ⟨cs, hx, hca, fun hp => ?_⟩, sx⟩
            have h0 := hca 0 cs[0] (by simp [hp])
            have := World.cells?_block hc (by omega)
            rwa [Addr.add_block] at this
          have := list_of each
          obtain ⟨l, hl, hall⟩ := this
          refine ⟨l, ⟨some a, cap, by rw [hl], by rw [hl]; exact hlc, fun i x hx => ?_⟩, ?_, fun x hx => ?_⟩
          · obtain ⟨⟨cs, c1, c2, c3⟩, _⟩ := hall i x hx
            exact ⟨a, cs, rfl, c3 (by rw [c1.length]; omega), c1, c2⟩
          · rw [hl]; omega
          · obtain ⟨i, hi⟩ := List.getElem?_of_mem hx
            exact (hall i x hi).2
      · cases h
    · rename_i fs hu
      simp only [Bool.and_eq_true, beq_iff_eq] at h
      obtain ⟨h1, h2⟩ := h
      obtain ⟨xs, n', _, _, hl, hxl, hxs⟩ := DataW.trod_struct hu hd
      obtain ⟨x, hx, sx⟩ := fields_rep (fun t ty cs d hc he => trod_rep m t ty cs d hc he) (fs.toList.map fun f => (f.type, f.offset)) 0 ty cs h1 (fun f hf => by
        obtain ⟨g, hg, e⟩ := List.mem_map.1 hf
        subst e
        obtain ⟨i, hi⟩ := List.getElem?_of_mem hg
        have := hxs i g (by simpa using hi)
        have hlt : i < xs.length := by
          have := (List.getElem?_eq_some_iff.1 hi).1
          simp at this; omega
        rw [List.getElem?_eq_getElem hlt] at this
        exact ⟨n', _, this⟩) (by omega)
      refine ⟨x, ?_, sx⟩
      rw [List.drop_zero, List.take_of_length_le (by omega)] at hx
      exact hx
    · rename_i k e hu
      simp only [Bool.and_eq_true, beq_iff_eq] at h
      obtain ⟨h1, h2⟩ := h
      obtain ⟨xs, n', _, _, hl, hxl, hxs⟩ := DataW.trod_array hu hd
      obtain ⟨x, hx, sx⟩ := fields_rep (fun t ty cs d hc he => trod_rep m t ty cs d hc he) ((List.range k).map fun i => (e, i * P.cellsOf e)) 0 ty cs h1 (fun f hf => by
        obtain ⟨i, hi, rfl⟩ := List.mem_map.1 hf
        rw [List.mem_range] at hi
        have := hxs i hi
        rw [List.getElem?_eq_getElem (by omega)] at this
        exact ⟨n', _, this⟩) (by omega)
      refine ⟨x, ?_, sx⟩
      rw [List.drop_zero, List.take_of_length_le (by omega)] at hx
      exact hx
    · cases h

theorem cells_single {r : Reach} {b : Nat} {m : Nat} {t : TypeId} {ty : Ty} {v : Value} (hg : isAgg P t = some false) (ht : tyC P m t ty = true) (hv : Value.okWide P w r b t v) : v.cells.toList = [v] := by
  cases m with
  | zero => cases ht
  | succ m =>
    unfold tyC at ht
    unfold isAgg at hg
    unfold Value.okWide at hv
    split at ht <;> rename_i hu
    case h_5 => rw [hu] at hg; simp at hg
    case h_6 => rw [hu] at hg; simp at hg
    case h_7 => cases ht
    all_goals
      rw [hu] at hv
      simp only [Cell.okWide, Cell.ok, hu] at hv
      cases v <;> first | rfl | (exact absurd hv (by simp))

def argsC (P : Program) : List TypeId → Sig → Bool
  | [], [] => true
  | t :: ts, (g, ty) :: s => (match isAgg P t with | some g' => g' == g | none => false) && (tyC P 12 t ty && argsC P ts s)
  | _, _ => false
def smallArgs : (s : Sig) → Args s → Prop
  | [], _ => True
  | p :: r, a => small p.2 a.1 ∧ smallArgs r a.2

theorem args_rep {r : Reach} {b : Nat} : ∀ (ts : List TypeId) (s : Sig) (vs : List Value) (ds : List (DataW H)) (ps : List MemPlace), argsC P ts s = true →
    (∀ (j : Nat) t v, ts[j]? = some t → vs[j]? = some v → Value.okWide P w r b t v) → DataW.TrodAll enc P w base spare held ts vs ds ps →
    ∃ a : Args s, TReps (fun b => b < w.heap.size) w (toForms s a) vs [] ∧ smallArgs s a ∧ ds.length = ts.length
  | [], [], vs, ds, ps, _, _, h => by
    obtain ⟨rfl, rfl, rfl⟩ := trodAll_nil h
    exact ⟨(), .nil, trivial, rfl⟩
  | [], _ :: _, _, _, _, h, _, _ => by cases h
  | _ :: _, [], _, _, _, h, _, _ => by cases h
  | t :: ts, (g, ty) :: s, vs, ds, ps, h, hv, hd => by
    simp only [argsC, Bool.and_eq_true] at h
    obtain ⟨hg, ht, hr⟩ := h
    obtain ⟨v, vs1, d, ds1, p, q, rfl, rfl, rfl, h1, h2⟩ := trodAll_cons hd
    obtain ⟨a, ha, sa, la⟩ := args_rep ts s vs1 ds1 q hr (fun j t' v' e1 e2 => hv (j + 1) t' v' e1 e2) h2
    obtain ⟨n, hn⟩ := h1
    obtain ⟨x, hx, sx⟩ := trod_rep 12 t ty v.cells.toList _ ht ⟨n, hn⟩
    have hok := hv 0 t v rfl rfl
    have hf : CsRep (fun b => b < w.heap.size) ρ0 w st0 (flat ty x) v.cells.toList := flat_rep hx
    have hT := leaf_treps hf flat_leaf
    refine ⟨(x, a), ?_, ⟨sx, sa⟩, by simp [la]⟩
    cases hag : isAgg P t with
    | none => rw [hag] at hg; cases hg
    | some g' =>
      rw [hag] at hg
      simp only [beq_iff_eq] at hg
      subst hg
      cases g' with
      | true =>
        have : ∃ cs, v = .agg cs := by
          unfold isAgg at hag
          unfold Value.okWide at hok
          split at hok
          · obtain ⟨cs, e, _⟩ := hok; exact ⟨cs, e⟩
          · obtain ⟨cs, e, _⟩ := hok; exact ⟨cs, e⟩
          · rename_i h1 h2
            split at hag
            · rename_i fs hu; exact absurd hu (h1 fs)
            · rename_i m e hu; exact absurd hu (h2 m e)
            · cases hag
            · cases hag
        obtain ⟨cs, rfl⟩ := this
        have := TReps.ag hT ha
        simpa [toForms, toForm, Value.cells] using this
      | false =>
        have hs := cells_single hag ht hok
        rw [hs] at hT hf
        have hlen := hf.1
        show TReps _ w ((flat ty x).headD .top :: toForms s a) (v :: vs1) []
        match hm : flat ty x, hlen with
        | [c], _ =>
          rw [hm] at hT
          have := hT.append ha
          simpa using this

/-- A law's answer, as the row has it. -/
theorem post_same {f : Func} {s : ChangeSpec} {W W' : World} {args : Array Value} {v : Value} {ds gs : List (DataW H)} {before pa pv : List MemPlace} {apart fresh handsOn again : Bool}
    (hW : DataW.Whole enc P f.params.toList s.vars apart W args.toList ds gs before)
    (hres : ∀ (b : Nat) (sp : Nat → Bool) (hd : Bool), DataW.TrodAll enc P W' b sp hd f.resultTypes.toList (v.resultList f.resultTypes.size) (s.fn H (ds ++ gs)).results [])
    (hargs : ∀ sp : Nat → Bool, (∀ p ∈ before, sp p.block = true) → DataW.TrodAll enc P W' 0 sp true f.params.toList args.toList (s.fn H (ds ++ gs)).args pa)
    (hvars : ∀ sp : Nat → Bool, (∀ p ∈ before, sp p.block = true) → DataW.TrodVars enc P W' sp s.vars (s.fn H (ds ++ gs)).vars pv)
    (hps : before = pa ++ pv) (hk : W.keptBut W' (· ∈ before)) (hfz : ∀ a : Addr, a.block < W.heap.size → W'.frozen? a = W.frozen? a)
    (hok : ∀ (j : Nat) (t : TypeId) (r : Value), f.resultTypes[j]? = some t → (v.resultList f.resultTypes.size)[j]? = some r → Value.okWide P W' .any 0 t r) :
    s.post enc P f apart fresh handsOn again W args v W' := by
  have hold : ∀ p ∈ before, (fun b => decide (b < W.heap.size)) p.block = true := fun p hp => by simpa using hW.lt p hp
  refine ⟨ds, gs, before, [], pa, pv, hW, hres _ _ _, hargs _ hold, hvars _ hold, World.keptBut_mono (fun p hp => ⟨hp, ?_⟩) hk, fun _ => ?_⟩
  · rw [hps, List.mem_append] at hp
    exact Or.inr hp
  · have hlt := hW.lt
    obtain ⟨_, _, _, _, _, hz, hn⟩ := hW
    refine ⟨hok, _, _, ([] ++ pa) ++ pv, ⟨[] ++ pa, pv, trodAll_append (hargs _ (fun _ _ => rfl)) (hres _ _ _), hvars _ (fun _ _ => rfl), rfl, ?_, ?_⟩, ?_⟩
    · intro b off hp
      have hb : MemPlace.cell b off ∈ before := by rw [hps]; simpa using hp
      rw [hfz _ (hlt _ hb)]
      exact hz b off hb
    · intro ha
      have := hn ha
      rw [hps] at this
      simpa using this
    · intro p hp _
      rw [hps]
      simpa using hp
end

theorem trodAll_stays {H : Type} {enc : TypeId × Value → H} {P : Program} {W W' : World} {sp : Nat → Bool} (hl : laidOutB P = true) (hb : Below W.heap.size W W') :
    ∀ {ts : List TypeId} {vs : List Value} {ds : List (DataW H)} {ps : List MemPlace}, (∀ t ∈ ts, P.readableRec t = true ∧ t < P.types.size) → (∀ p ∈ ps, p.block < W.heap.size) → (∀ p ∈ ps, sp p.block = true) →
      DataW.TrodAll enc P W 0 (fun _ => true) true ts vs ds ps → DataW.TrodAll enc P W' 0 sp true ts vs ds ps
  | [], _, _, _, _, _, _, h => by
    obtain ⟨rfl, rfl, rfl⟩ := trodAll_nil h
    rfl
  | t :: ts, _, _, _, ht, hlt, hsp, h => by
    obtain ⟨v, vs1, d, ds1, p, q, rfl, rfl, rfl, h1, h2⟩ := trodAll_cons h
    refine ⟨p, q, ?_, trodAll_stays hl hb (fun t' ht' => ht t' (List.mem_cons_of_mem _ ht')) (fun x hx => hlt x (List.mem_append_right _ hx)) (fun x hx => hsp x (List.mem_append_right _ hx)) h2, rfl⟩
    exact WideElems.Trod_stays hl (ht t (by simp)).1 (ht t (by simp)).2 h1 (fun x hx => hb.same (hlt x (List.mem_append_left _ hx))) (fun x hx => hsp x (List.mem_append_left _ hx))

/-- A law of which the evaluator says that it answers true: what the row asks of a call. -/
theorem law_contract {H : Type} {enc : TypeId × Value → H} {P : Program} {f : FuncId} {fn : Func} {s : ChangeSpec} {sg : Sig} {tb : TypeId} {fresh handsOn again : Bool} (hvars : s.vars = []) (hres : fn.resultTypes = #[tb]) (hb : P.underlying tb = some .bool)
    (hl : laidOutB P = true) (hread : (fn.params.toList.all fun t => P.readableRec t && Nat.blt t P.types.size) = true) (hsg : argsC P fn.params.toList sg = true)
    (hs : ∀ ds : List (DataW H), ds.length = fn.params.toList.length → s.fn H ds = { results := [.lit (.bool true)], args := ds })
    {W : World} {base : Nat} {args : Array Value} {ds gs : List (DataW H)} {before : List MemPlace}
    (hval : ∀ (j : Nat) t v, fn.params[j]? = some t → args[j]? = some v → Value.okWide P W .any base t v)
    (hW : DataW.Whole enc P fn.params.toList s.vars false W args.toList ds gs before) (htab : Tabs.ok W) (hblocks : ∀ b ∈ Tabs.blocks, b < W.heap.size)
    (hcall : ∀ a : Args sg, smallArgs sg a → ∃ outs, CallOK P f (toForms sg a) (.d .bool true, outs)) :
    Calls P f args W fun e W' => ∃ v, e = .returned v ∧ s.post enc P fn false fresh handsOn again W args v W' := by
  have hW' := hW
  obtain ⟨p, q, hA, hV, rfl, _, _⟩ := hW
  rw [hvars] at hV
  obtain ⟨rfl, rfl⟩ := trodVars_none hV
  obtain ⟨a, hT, hsm, hlen⟩ := args_rep fn.params.toList sg args.toList ds p hsg (fun j t v h1 h2 => hval j t v (by simpa using h1) (by simpa using h2)) hA
  obtain ⟨outs, hc⟩ := hcall a hsm
  have hcl := hc (fun b => b < W.heap.size) W args.toList [] hT List.nodup_nil (fun b hb => by simp at hb) (fun b hb => hb) ⟨hblocks, htab⟩
  rw [Array.toArray_toList] at hcl
  refine Calls.mono hcl ?_
  intro e W' he
  cases e with
  | returned v =>
    obtain ⟨F', Lr, Lo, hE, hlow, hTr, _, _, _⟩ := he
    have hv : v = .bool true := by
      cases hTr with
      | flat h1 h2 h3 => cases h2 with | d _ _ _ h => simpa [LRep] using h
    subst hv
    have hsame : ∀ i, i < W.heap.size → W'.heap[i]? = W.heap[i]? := fun i hi => hE.same i hi (.inl hi)
    have hbel : Below W.heap.size W W' := ⟨hE.os, hE.tape, hE.output, hE.size, hsame⟩
    have hlt := hW'.lt
    have hfn : s.fn H (ds ++ []) = { results := [.lit (.bool true)], args := ds } := by rw [List.append_nil]; exact hs ds hlen
    have hvs : (s.fn H (ds ++ [])).vars = [] := by rw [hfn]
    refine ⟨_, rfl, post_same (pa := p) (pv := []) hW' (fun b sp hd => ?_) (fun sp hsp => ?_) (fun sp _ => ?_) rfl ⟨hE.os, hE.output, fun i hi => ?_⟩ (fun x hx => ?_) (ok_one hres rfl (okWide_bool_mk hb true))⟩
    · rw [hfn, hres]
      exact trodAll_mk1 (shut_bool hb _)
    · rw [hfn]
      refine trodAll_stays hl hbel (fun t ht => ?_) (fun x hx => hlt x (by simpa using hx)) (fun x hx => hsp x (by simpa using hx)) hA
      have := List.all_eq_true.1 hread t ht
      simp only [Bool.and_eq_true] at this
      exact ⟨this.1, Nat.le_of_ble_eq_true this.2⟩
    · rw [hvars, hvs]
      rfl
    · rw [hsame i hi]
      cases W.heap[i]? with
      | none => rfl
      | some o =>
        cases o with
        | cells c t fr => exact ⟨rfl, rfl, rfl, fun _ _ => rfl⟩
        | map es clock => exact .inr ⟨rfl, rfl⟩
        | _ => rfl
    · unfold World.frozen?
      rw [hsame _ hx]
  | _ => exact he.elim
end Go.Ev
end

section
set_option linter.unusedSectionVars false
set_option linter.unusedVariables false
set_option linter.unusedSimpArgs false
/- Lemmas for proofs over the printed trees. -/
set_option linter.unusedVariables false
namespace Go.Ev
open Go

theorem wrap_i64 {n : Int} (h0 : -9223372036854775808 ≤ n) (h1 : n < 9223372036854775808) : IntKind.i64.wrap n = n := by
  have e : IntKind.i64.wrap n = if n % 18446744073709551616 ≥ 9223372036854775808 then n % 18446744073709551616 - 18446744073709551616 else n % 18446744073709551616 := by
    unfold IntKind.wrap
    simp [IntKind.signed, IntKind.bits]
  rw [e]
  split <;> omega
theorem wrap_succ {k : Nat} (h : k < 4611686018427387904) : IntKind.i64.wrap ((k : Int) + 1) = ((k + 1 : Nat) : Int) := by
  rw [wrap_i64 (by omega) (by omega)]; omega
theorem wrap_pred {k : Nat} (h : k < 4611686018427387904) (h0 : 0 < k) : IntKind.i64.wrap ((k : Int) - 1) = ((k - 1 : Nat) : Int) := by
  rw [wrap_i64 (by omega) (by omega)]; omega

theorem lt_len {k n : Nat} (h : k < n) : decide ((k : Int) < Int.ofNat n) = true := by simp; omega
theorem lt_len_not {k n : Nat} (h : ¬ k < n) : decide ((k : Int) < Int.ofNat n) = false := by simp; omega
theorem bound_len {k n : Nat} (h : k < n) : (decide ((0 : Int) ≤ (k : Int)) && decide ((k : Int) < Int.ofNat n)) = true := by simp; omega
theorem nng {k : Nat} : decide ((0 : Int) ≤ (k : Int)) = true := by simp
theorem gt_len {n c : Nat} : decide (Int.ofNat n > (c : Int)) = decide (c < n) := by simp
theorem lt_len' {n m : Nat} : decide ((n : Int) < Int.ofNat m) = decide (n < m) := by simp
theorem getD_lt {α : Type} {l : List α} {k : Nat} {d : α} (h : k < l.length) : List.getD l k d = l[k] := by simp [List.getD, h]
theorem eqB_iff {a b : ByteArray} : eqB a b = true ↔ a = b := by
  unfold eqB
  simp only [beq_iff_eq]
  constructor
  · intro h; cases a; cases b; simp only [Array.toList_inj] at h; simp_all
  · rintro rfl; rfl
theorem eqB_eq {a b : ByteArray} : eqB a b = decide (a = b) := by
  rw [Bool.eq_iff_iff, eqB_iff, decide_eq_true_iff]

instance elDec : (t : Ty) → DecidableEq (El t)
  | .int _ => inferInstanceAs (DecidableEq Int)
  | .bool => inferInstanceAs (DecidableEq Bool)
  | .str => inferInstanceAs (DecidableEq ByteArray)
  | .sl t => @instDecidableEqList _ (elDec t)
  | .pr a b => @instDecidableEqProd _ _ (elDec a) (elDec b)
  | .un => inferInstanceAs (DecidableEq Unit)

def same (t : Ty) (a b : El t) : Bool := @decide (a = b) (elDec t a b)
theorem same_iff {t : Ty} {a b : El t} : same t a b = true ↔ a = b := @decide_eq_true_iff _ (elDec t a b)
theorem same_eq {t : Ty} {a b : El t} [d : Decidable (a = b)] : same t a b = decide (a = b) := by
  rw [Bool.eq_iff_iff, same_iff, decide_eq_true_iff]
/-- The first place of a text in a list, from k on. -/
def findFrom (s : ByteArray) : List ByteArray → Nat → Option Nat
  | [], _ => none
  | x :: r, k => if x = s then some k else findFrom s r (k + 1)

/-- Down from the end. -/
theorem down {n : Nat} {P : Nat → Prop} (hend : P n) (hstep : ∀ k, k < n → P (k + 1) → P k) : ∀ k, k ≤ n → P k := by
  intro k hk
  obtain ⟨m, rfl⟩ : ∃ m, n = k + m := ⟨n - k, by omega⟩
  induction m generalizing k with
  | zero => exact hend
  | succ m ih => exact hstep k (by omega) (ih (k + 1) (by rw [show k + 1 + m = k + (m + 1) by omega]; exact hend) (fun j hj h => hstep j (by omega) h) (by omega))

/-- A place where a list has a thing, from k on. -/
theorem drop_cons {α : Type} {l : List α} {k : Nat} (h : k < l.length) : l.drop k = l[k] :: l.drop (k + 1) := List.drop_eq_getElem_cons h
end Go.Ev
end

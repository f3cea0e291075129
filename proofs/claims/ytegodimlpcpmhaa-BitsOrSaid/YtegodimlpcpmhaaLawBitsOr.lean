/- Behind an Or a set has what both had, of its own numbers; whether that is more is told; the other one stays: for every input the law answers true. -/
import Derived.Test.YtegodimlpcpmhaaCon0
set_option maxRecDepth 100000
set_option linter.unusedSectionVars false
set_option linter.unusedVariables false
set_option linter.unusedSimpArgs false
section
namespace Go.Proofs.Ytegodimlpcpmhaa.bitsOr
open Go Go.Ev Go.ChangeShapes Go.WideShapes Go.ChangeAt Go.RowKit Go.Lib Go.Proofs
open Go.Shelf
theorem own:ownKnob Try.prog.godebug=none:=by kernel_rfl
theorem laid_met (os:Os) (args:Array Value):laidMet Try.prog Rows.bitsOrRow.laid ((laidWorld os).forCall (fun _ _=>0) ⟨#[],args,[]⟩).memory:=by
 show laidMet Try.prog [] _
 refine ⟨[],?_,List.nodup_nil,fun b off h=>by cases h⟩
 first | rfl | exact trivial | constructor
theorem witness_row (os:Os) {H:Type} (enc:TypeId×Value→H):
  (OpenSpec.ofChange Rows.bitsOrSpec).preRow enc Try.prog Try.f3 Rows.bitsOrRow.domain false Rows.bitsOrRow.laid ((laidWorld os).forCall (fun _ _=>0) ⟨#[], #[.int .i64 0,.int .i64 0,.slice none 0 0,.slice none 0 0],[]⟩).memory #[.int .i64 0,.int .i64 0,.slice none 0 0,.slice none 0 0]:=by
 have hw:(DataW.whole enc Try.prog ((laidWorld os).forCall (fun _ _=>0) ⟨#[], #[.int .i64 0,.int .i64 0,.slice none 0 0,.slice none 0 0],[]⟩).memory Try.f3.params.toList Rows.bitsOrSpec.vars false (#[.int .i64 0,.int .i64 0,.slice none 0 0,.slice none 0 0]:Array Value).toList 8).map (fun x=>(x.1,x.2.1))=
   some ([.lit (.int .i64 0),.lit (.int .i64 0),.nil,.nil],[]):=by kernel_rfl
 obtain ⟨⟨x1,x2,x3⟩,hx,hx1⟩:=Option.map_eq_some_iff.1 hw
 simp only[Prod.mk.injEq] at hx1
 obtain ⟨rfl,rfl⟩:=hx1
 exact OpenSpec.preRow_of_cond 8 hx (by kernel_rfl) (fun k hk=>by cases hk) (by kernel_rfl) (laid_met os _)
set_option maxRecDepth 100000 in
set_option maxHeartbeats 2000000 in
theorem lifted (os:Os) (started:os.Started) (H:Type) (enc:TypeId×Value→H) (F:Stop.Interp):
  ReturnsInHanded {} Try.checked os 3 .any ((OpenSpec.ofChange Rows.bitsOrSpec).preRow enc Try.prog Try.f3 Rows.bitsOrRow.domain false Rows.bitsOrRow.laid) (((OpenSpec.ofChange Rows.bitsOrSpec).at F).post enc Try.prog Try.f3 false true false false):=by
 refine returnsInHanded_of_row (C:=Try.checked) (s:=OpenSpec.ofChange Rows.bitsOrSpec) own started (by kernel_rfl) Try.func3
  (witness_row_atRef (enc:=enc) (C:=Try.checked) false (laidWorld os) #[.int .i64 0,.int .i64 0,.slice none 0 0,.slice none 0 0] rfl (by kernel_rfl) (by kernel_rfl) (by kernel_rfl) (witness_row os enc)) ?_
 intro W base args ds gs before hval hW _ _ _ hL hsh _
 have htab:Tabs.ok W:=trivial
 refine ZhA (P:=Try.prog) (fn:=Try.f3) (s:=Rows.bitsOrSpec) (sg:=Zn) (tb:=4) rfl (by kernel_rfl) Try.underlying4 (by kernel_rfl) (by kernel_rfl) (by kernel_rfl)
  (fun ds h=>?_) hval hW htab (fun b hb=>by cases hb) (fun a ha=>⟨_,Zfj a ha⟩)
 rw[show Try.f3.params.toList.length=4 by kernel_rfl] at h
 match ds,h with
 | [d0,d1,d2,d3],_=>rfl
theorem said:Rows.BitsOrSaid:=
 OpenClaim.holds_of_cond 3 Try.f3 rfl rfl rfl rfl rfl rfl rfl ⟨rfl,rfl,rfl,rfl,rfl⟩ rfl rfl rfl rfl rfl (by kernel_rfl) Try.func3 (by kernel_rfl)
  (of_decide_eq_true (by kernel_rfl)) (by unfold Func.isWrapper;first | (rw[if_pos (by decide+kernel)];kernel_rfl) | (rw[if_neg (of_decide_eq_false (by kernel_rfl))];exact ⟨rfl,rfl⟩))
  (fun os started H enc _ F=>by rw[OpenClaim.pre_eq_preRow];exact lifted os started H enc F)
end Go.Proofs.Ytegodimlpcpmhaa.bitsOr
end

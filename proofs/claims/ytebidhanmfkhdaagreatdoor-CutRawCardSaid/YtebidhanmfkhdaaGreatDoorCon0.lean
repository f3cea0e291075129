/- Part of the proof of: Of a program that may not be, or a thread that there is not, nothing is chosen: for every input the law answers true. -/
import Derived.Deep.DeepHandedRow
import Derived.Deep.DeepWitnessRowRef
import Derived.KernelRfl
import Derived.Lib.LaidIn
import Derived.Lib.LaidU8
import Derived.Lib.RuneCountTail
import Derived.ProofKit
import Derived.Shelf.Unicode.DecodeAny
import Derived.SizedLaws
import Derived.Test.YtebidhanmfkhdaaGreatDoorProg
import Derived.Test.YtebidhanmfkhdaaGreatDoorRows
import Derived.Test.YtebidhanmfkhdaaGreatDoorEng2
set_option maxRecDepth 100000
set_option linter.unusedSectionVars false
set_option linter.unusedVariables false
set_option linter.unusedSimpArgs false
section
namespace Go.Ev
open Go
abbrev T_opnd_AtPart:Ty:=(.pr (.int .i64) (.int .i64))
abbrev T_api_Pair:Ty:=(.pr (.int .i64) T_opnd_AtPart)
abbrev T_api_Sym:Ty:=(.pr .str (.pr (.int .i64) (.sl (.int .i64))))
abbrev T_api_Opd:Ty:=(.pr (.int .i64) T_api_Pair)
abbrev T_api_Access:Ty:=(.pr (.int .i64) (.pr (.int .i64) (.pr (.int .i64) (.pr (.int .i64) (.pr .bool .bool)))))
abbrev T_ref1_Spot:Ty:=(.pr (.int .i32) (.pr (.int .i64) (.pr (.int .i64) (.pr (.int .i64) (.pr (.int .i64) .bool)))))
abbrev T_api_Ins:Ty:=(.pr (.int .i64) (.pr .bool (.pr (.int .i64) (.pr T_api_Opd (.pr T_api_Opd (.pr .str (.sl .str)))))))
abbrev T_api_Prog:Ty:=(.pr (.sl T_api_Sym) (.sl (.sl T_api_Ins)))
abbrev T_glyph_Spot:Ty:=T_ref1_Spot
instance theTabs:Tabs where
 blocks:=[0,1]
 ok w:=Lib.Utf8Tabs 0 1 w
 stable:=fun {w w'} h hk=>by
  have h0:∀c,w'.cell? ⟨0,c,none⟩=w.cell? ⟨0,c,none⟩:=fun c=>World.cell?_of_block (a:=⟨0,c,none⟩) (h 0 (by simp))
  have h1:∀c,w'.cell? ⟨1,c,none⟩=w.cell? ⟨1,c,none⟩:=fun c=>World.cell?_of_block (a:=⟨1,c,none⟩) (h 1 (by simp))
  exact ⟨fun c hc=>(h0 c).trans (hk.1 c hc),fun i hi=>⟨(h1 _).trans (hk.2 i hi).1,(h1 _).trans (hk.2 i hi).2⟩⟩
abbrev fid_law25_CutRaw:Nat:=4
end Go.Ev
end

section
open Go Go.Ev
namespace Go.Ev
def ren88:Go.Shelf.Ren:=⟨fun n=>if n=197 then 132 else if n=260 then 145 else n,
 fun n=>if n=105 then 145 else if n=119 then 176 else if n=46 then 111 else if n=139 then 179 else if n=138 then 178 else n,
 fun n=>if n=3 then 0 else if n=4 then 1 else n⟩
theorem ren88_lays:Go.Proofs.Lays.n197 Go.Proofs.Tryz.prog ren88 where
 mixed:=by kernel_rfl
 f197:=by kernel_rfl
 f260:=by kernel_rfl
 t0:=by kernel_rfl
 a0:=fun w=>by kernel_rfl
 z0:=fun w=>by kernel_rfl
 v0:=fun w=>by kernel_rfl
 t3:=by kernel_rfl
 a3:=fun w=>by kernel_rfl
 z3:=fun w=>by kernel_rfl
 v3:=fun w=>by kernel_rfl
 t4:=by kernel_rfl
 a4:=fun w=>by kernel_rfl
 z4:=fun w=>by kernel_rfl
 v4:=fun w=>by kernel_rfl
 t5:=by kernel_rfl
 a5:=fun w=>by kernel_rfl
 z5:=fun w=>by kernel_rfl
 v5:=fun w=>by kernel_rfl
 t9:=by kernel_rfl
 a9:=fun w=>by kernel_rfl
 z9:=fun w=>by kernel_rfl
 v9:=fun w=>by kernel_rfl
 t21:=by kernel_rfl
 a21:=fun w=>by kernel_rfl
 z21:=fun w=>by kernel_rfl
 v21:=fun w=>by kernel_rfl
 t46:=by kernel_rfl
 a46:=fun w=>by kernel_rfl
 z46:=fun w=>by kernel_rfl
 v46:=fun w=>by kernel_rfl
 t105:=by kernel_rfl
 a105:=fun w=>by kernel_rfl
 z105:=fun w=>by kernel_rfl
 v105:=fun w=>by kernel_rfl
 t119:=by kernel_rfl
 a119:=fun w=>by kernel_rfl
 z119:=fun w=>by kernel_rfl
 t138:=by kernel_rfl
 a138:=fun w=>by kernel_rfl
 z138:=fun w=>by kernel_rfl
 v138:=fun w=>by kernel_rfl
 t139:=by kernel_rfl
 a139:=fun w=>by kernel_rfl
 z139:=fun w=>by kernel_rfl
 v139:=fun w=>by kernel_rfl
 g3:=by kernel_rfl
 g4:=by kernel_rfl
def sg_utf8_DecodeRuneInString:Sig:=[(false,.str)]
def v_utf8_DecodeRuneInString (s:ByteArray):Int×Int:=(Int.ofNat (Lib.decodeGo s).1,Int.ofNat (Lib.decodeGo s).2)
def R_utf8_DecodeRuneInString:Int×Int→AV:=fun r=>.tu [.d (.int .i32) r.1,.d (.int .i64) r.2]
noncomputable def e_utf8_DecodeRuneInString:Run:=entT sg_utf8_DecodeRuneInString R_utf8_DecodeRuneInString (fun a=>v_utf8_DecodeRuneInString a.1)
theorem ok_utf8_DecodeRuneInString:EntOK Go.Proofs.Tryz.prog 132 e_utf8_DecodeRuneInString:=by
 refine typed_ok (P:=Go.Proofs.Tryz.prog) ⟨Go.Proofs.Tryz.f132,Go.Proofs.Tryz.f132.body.getD .skip,by kernel_rfl,by kernel_rfl,by kernel_rfl⟩ (fun a=>Det.pure _) fun a=>Sat.pure ?_
 intro F w vals L hT hL hLF hlow htab
 obtain ⟨s,_⟩:=a
 have hv:vals=[.string s]∧L=[]:=by
  cases hT with
  | flat h1 h2 h3=>
   cases h3
   cases h2 with
   | d _ _ _ h=>simp only[LRep,List.cons.injEq,and_true] at h;subst h;exact ⟨rfl,rfl⟩
 obtain ⟨rfl,rfl⟩:=hv
 have h:=Go.Proofs.Any.utf8_DecodeRuneInString ren88_lays s w htab.2
 refine Calls.mono h ?_
 rintro e w' ⟨rfl,hb⟩
 refine ⟨F,[],[],⟨hb.os,hb.tape,hb.output,hb.size,fun _ h=>h,fun _ h=>.inl h,fun b hlt _=>hb.block b hlt⟩,fun b hF=>Nat.lt_of_lt_of_le (hlow b hF) hb.size,?_,?_,List.nodup_nil,fun b hb=>by simp at hb⟩
 ·refine TReps.tu (L1:=[]) (L:=[]) (us:=[.int .i32 _,.int .i64 _]) ?_ .nil
  exact .flat rfl (.d _ _ _ rfl) (.flat rfl (.d _ _ _ rfl) .nil)
 ·exact .top .nil
end Go.Ev
end

section
namespace Go.Proofs.YtebidhanmfkhdaaGreatDoor
open Go Go.Ev Go.ChangeShapes Go.WideShapes Go.ChangeAt Go.RowKit Go.Lib Go.Proofs
open Go.Shelf
noncomputable def laidWorld (os:Os):World:=
 let w0:=World.holding Tryz.prog os ⟨#[], #[],[]⟩
 let put (h:Array Go.Obj) (g:Nat) (cs:Array Value):Array Go.Obj:=h.modify g fun
  |.cells _ t frozen=>.cells cs t frozen
  | o=>o
 let h1:=put w0.heap 0 (Lib.firstTab.map fun z=>Value.int .u8 z).toArray
 let h2:=put h1 1 ((List.range 16).flatMap fun i=>[Value.int .u8 (Lib.accLo i),Value.int .u8 (Lib.accHi i)]).toArray
 {w0 with heap:=h2 }
theorem first_eq:(Rows.laid_unicode_utf8_first:DataW Unit)=Lib.firstData:=by kernel_rfl
theorem accept_eq:(Rows.laid_unicode_utf8_acceptRanges:DataW Unit)=Lib.acceptData:=by kernel_rfl
theorem tabs_of_laid {W:World} (hL:laidMetH Tryz.prog [("unicode/utf8.acceptRanges",Rows.laid_unicode_utf8_acceptRanges),("unicode/utf8.first",Rows.laid_unicode_utf8_first)] W):Tabs.ok W:=by
 rw[first_eq,accept_eq] at hL
 exact utf8Tabs_of_reads (ρ:=ren88) { ren88_lays with } ⟨by kernel_rfl,by kernel_rfl,by kernel_rfl,by kernel_rfl,by kernel_rfl,by kernel_rfl,by kernel_rfl⟩ (Lib.laidMet.reads hL (.tail _ (.head _))) (Lib.laidMet.reads hL (.head _))
theorem blocks_of_tabs {W:World} (h:Tabs.ok W):∀b∈Tabs.blocks,b < W.heap.size:=by
 have cell:∀g c v,W.cell? ⟨g,c,none⟩=some v→g < W.heap.size:=by
  intro g c v hc
  unfold World.cell? at hc
  cases hg:W.heap[g]? with
  | none=>rw[hg] at hc;cases hc
  | some o=>exact (Array.getElem?_eq_some_iff.1 hg).1
 intro b hb
 have h':Lib.Utf8Tabs 0 1 W:=h
 have hb':b=0∨b=1:=by simpa[Tabs.blocks] using hb
 rcases hb' with rfl | rfl
 ·exact cell 0 0 _ (h'.1 0 (by omega))
 ·exact cell 1 0 _ (h'.2 0 (by omega)).1
end Go.Proofs.YtebidhanmfkhdaaGreatDoor
end

section
open Go Go.Ev
namespace Go.Ev
noncomputable section
def sg_book_GreatIns:Sig:=[(true,T_api_Ins)]
noncomputable def t_book_GreatIns:Tbl:=[]
theorem tk_book_GreatIns:∀p∈t_book_GreatIns,EntOK Go.Proofs.Tryz.prog p.1 p.2:=tbl_nil
noncomputable def c_book_GreatIns:Code:=Go.Proofs.Tryz.f62.body.getD .skip
def tb_book_GreatIns:Tb:=[(6,⟨[1,3],[]⟩)]
inductive J_book_GreatIns where | l6 (k:Int)
def T_book_GreatIns (i:El T_api_Ins):J_book_GreatIns→JT J_book_GreatIns (Bool) |.l6 k=>.br (decide (k < (Int.ofNat (List.length i.2.2.2.2.2.2)))) (.br ((decide ((0:Int)≤k))&&(decide (k < (Int.ofNat (List.length i.2.2.2.2.2.2))))) (.br (decide ((Int.ofNat (ByteArray.size (List.getD i.2.2.2.2.2.2 (Int.toNat k) (dflt .str)))) > (60:Int))) (.leaf true) (.jmp (.l6 (IntKind.i64.wrap (k+(1:Int)))))) (.no)) (.leaf false)
def T0_book_GreatIns (i:El T_api_Ins):JT J_book_GreatIns (Bool):=.br (decide ((Int.ofNat (List.length i.2.2.2.2.2.2)) > (6:Int))) (.leaf true) (.br (decide ((Int.ofNat (ByteArray.size i.2.2.2.2.2.1)) > (60:Int))) (.leaf true) (.jmp (.l6 (0:Int))))
def R_book_GreatIns:Bool→AV:=fun (r:Bool)=>.d .bool r
def S_book_GreatIns (i:El T_api_Ins):J_book_GreatIns→Nat×St |.l6 k=>(6,⟨mkTm 28 [(1,.pt 2 0 0),(3,.d (.int .i64) k)],[(2,0,.box 53 [.d (.int .i64) i.1,.d .bool i.2.1,.d (.int .i64) i.2.2.1,.d (.int .i64) i.2.2.2.1.1,.d (.int .i64) i.2.2.2.1.2.1,.d (.int .i64) i.2.2.2.1.2.2.1,.d (.int .i64) i.2.2.2.1.2.2.2,.d (.int .i64) i.2.2.2.2.1.1,.d (.int .i64) i.2.2.2.2.1.2.1,.d (.int .i64) i.2.2.2.2.1.2.2.1,.d (.int .i64) i.2.2.2.2.1.2.2.2,.d .str i.2.2.2.2.2.1,.d (.sl .str) i.2.2.2.2.2.2] none)]⟩)
theorem en_book_GreatIns (i:El T_api_Ins) (L:Lt):entryA Go.Proofs.Tryz.prog (clOf t_book_GreatIns) tb_book_GreatIns Go.Proofs.Tryz.f62 c_book_GreatIns L (toForms sg_book_GreatIns (i,()))=(T0_book_GreatIns i).run (fun v=>some (R_book_GreatIns v,tps (toForms sg_book_GreatIns (i,())))) fun j=>L (S_book_GreatIns i j).1 (S_book_GreatIns i j).2:=by kernel_rfl
theorem lp_book_GreatIns (i:El T_api_Ins):∀(L:Lt) (j:J_book_GreatIns),procOf (procsF Go.Proofs.Tryz.prog (clOf t_book_GreatIns) tb_book_GreatIns Go.Proofs.Tryz.f62 c_book_GreatIns (toForms sg_book_GreatIns (i,()))) (S_book_GreatIns i j).1 L (S_book_GreatIns i j).2=(T_book_GreatIns i j).run (fun v=>some (R_book_GreatIns v,tps (toForms sg_book_GreatIns (i,())))) fun j=>L (S_book_GreatIns i j).1 (S_book_GreatIns i j).2 | L,.l6 k=>by kernel_rfl
end
end Go.Ev
end

section
open Go
namespace Go.Ev
def v_book_GreatIns (i:El T_api_Ins):Bool:=decide (6 < i.2.2.2.2.2.2.length) || (decide (60 < i.2.2.2.2.2.1.size) || i.2.2.2.2.2.2.any fun l=>decide (60 < l.size))
theorem g_book_GreatIns (i:El T_api_Ins):Goes (T_book_GreatIns i) (T0_book_GreatIns i) (v_book_GreatIns i):=by
 obtain ⟨op,lock,cond,A,B,to,ls⟩:=i
 have loop:ls.length≤6→∀k,k≤ls.length→Goes (T_book_GreatIns (op,lock,cond,A,B,to,ls)) (.jmp (.l6 (k:Int))) ((ls.drop k).any fun l=>decide (60 < l.size)):=by
  intro hn
  refine down ?_ fun k hk ih=>?_
  ·rw[goes_jmp]
   simp[T_book_GreatIns,goes_br,goes_leaf]
  ·rw[goes_jmp]
   simp only[T_book_GreatIns,goes_br,lt_len hk,nng,Bool.and_self,if_true,Int.toNat_natCast,getD_lt hk,wrap_succ (k:=k) (by omega)]
   rw[drop_cons hk,List.any_cons]
   by_cases h:60 < ls[k].size
   ·rw[if_pos (by simp;omega),decide_eq_true h,Bool.true_or]
    exact .leaf
   ·rw[if_neg (by simp;omega),decide_eq_false h,Bool.false_or]
    exact ih
 unfold T0_book_GreatIns v_book_GreatIns
 simp only[goes_br]
 by_cases h:6 < ls.length
 ·rw[if_pos (by simp;omega),decide_eq_true h,Bool.true_or]
  exact .leaf
 rw[if_neg (by simp;omega),decide_eq_false h,Bool.false_or]
 by_cases h2:60 < to.size
 ·rw[if_pos (by simp;omega),decide_eq_true h2,Bool.true_or]
  exact .leaf
 rw[if_neg (by simp;omega),decide_eq_false h2,Bool.false_or]
 exact loop (by omega) 0 (Nat.zero_le _)
end Go.Ev
end

section
open Go Go.Ev
namespace Go.Ev
noncomputable section
noncomputable def e_book_GreatIns:Run:=entT sg_book_GreatIns R_book_GreatIns (fun a=>v_book_GreatIns a.1)
theorem ok_book_GreatIns:EntOK Go.Proofs.Tryz.prog 62 e_book_GreatIns:=entT_ok (tb:=tb_book_GreatIns) (c:=c_book_GreatIns) tk_book_GreatIns (by kernel_rfl) (by kernel_rfl) (by kernel_rfl) (fun a=>by kernel_rfl) fun ⟨i,_⟩=>evF_goes (c:=c_book_GreatIns) (K:=fun v=>(R_book_GreatIns v,tps (toForms sg_book_GreatIns (i,())))) (S:=S_book_GreatIns i) (by kernel_rfl) (en_book_GreatIns i) (lp_book_GreatIns i) (g_book_GreatIns i)
end
end Go.Ev
end

section
open Go Go.Ev
namespace Go.Ev
noncomputable section
def sg_book_GreatThread:Sig:=[(true,(.sl T_api_Ins))]
noncomputable def t_book_GreatThread:Tbl:=[(62,e_book_GreatIns)]
theorem tk_book_GreatThread:∀p∈t_book_GreatThread,EntOK Go.Proofs.Tryz.prog p.1 p.2:=tbl_cons ok_book_GreatIns (tbl_nil)
noncomputable def c_book_GreatThread:Code:=Go.Proofs.Tryz.f36.body.getD .skip
def tb_book_GreatThread:Tb:=[(6,⟨[1,3],[]⟩)]
inductive J_book_GreatThread where | l6 (i:Int)
def T_book_GreatThread (t:List (El T_api_Ins)):J_book_GreatThread→JT J_book_GreatThread (Bool) |.l6 i=>.br (decide (i < (Int.ofNat (List.length t)))) (.br ((decide ((0:Int)≤i))&&(decide (i < (Int.ofNat (List.length t))))) (.br (v_book_GreatIns (List.getD t (Int.toNat i) (dflt T_api_Ins))) (.leaf true) (.jmp (.l6 (IntKind.i64.wrap (i+(1:Int)))))) (.no)) (.leaf false)
def T0_book_GreatThread (t:List (El T_api_Ins)):JT J_book_GreatThread (Bool):=.br (decide ((Int.ofNat (List.length t)) > (12:Int))) (.leaf true) (.jmp (.l6 (0:Int)))
def R_book_GreatThread:Bool→AV:=fun (r:Bool)=>.d .bool r
def S_book_GreatThread (t:List (El T_api_Ins)):J_book_GreatThread→Nat×St |.l6 i=>(6,⟨mkTm 21 [(1,.pt 2 0 0),(3,.d (.int .i64) i)],[(2,0,.box 33 [.d (.sl T_api_Ins) t] none)]⟩)
theorem en_book_GreatThread (t:List (El T_api_Ins)) (L:Lt):entryA Go.Proofs.Tryz.prog (clOf t_book_GreatThread) tb_book_GreatThread Go.Proofs.Tryz.f36 c_book_GreatThread L (toForms sg_book_GreatThread (t,()))=(T0_book_GreatThread t).run (fun v=>some (R_book_GreatThread v,tps (toForms sg_book_GreatThread (t,())))) fun j=>L (S_book_GreatThread t j).1 (S_book_GreatThread t j).2:=by kernel_rfl
theorem lp_book_GreatThread (t:List (El T_api_Ins)):∀(L:Lt) (j:J_book_GreatThread),procOf (procsF Go.Proofs.Tryz.prog (clOf t_book_GreatThread) tb_book_GreatThread Go.Proofs.Tryz.f36 c_book_GreatThread (toForms sg_book_GreatThread (t,()))) (S_book_GreatThread t j).1 L (S_book_GreatThread t j).2=(T_book_GreatThread t j).run (fun v=>some (R_book_GreatThread v,tps (toForms sg_book_GreatThread (t,())))) fun j=>L (S_book_GreatThread t j).1 (S_book_GreatThread t j).2 | L,.l6 i=>by kernel_rfl
end
end Go.Ev
end

section
open Go
namespace Go.Ev
def v_book_GreatThread (t:List (El T_api_Ins)):Bool:=decide (12 < t.length) || t.any v_book_GreatIns
theorem g_book_GreatThread (t:List (El T_api_Ins)):Goes (T_book_GreatThread t) (T0_book_GreatThread t) (v_book_GreatThread t):=by
 have loop:t.length≤12→∀k,k≤t.length→Goes (T_book_GreatThread t) (.jmp (.l6 (k:Int))) ((t.drop k).any v_book_GreatIns):=by
  intro hn
  refine down ?_ fun k hk ih=>?_
  ·rw[goes_jmp]
   simp[T_book_GreatThread,goes_br,goes_leaf]
  ·rw[goes_jmp]
   simp only[T_book_GreatThread,goes_br,lt_len hk,nng,Bool.and_self,if_true,Int.toNat_natCast,getD_lt hk,wrap_succ (k:=k) (by omega)]
   rw[drop_cons hk,List.any_cons]
   cases v_book_GreatIns t[k] with
   | true=>simp[goes_leaf]
   | false=>simpa using ih
 unfold T0_book_GreatThread v_book_GreatThread
 simp only[goes_br]
 by_cases h:12 < t.length
 ·rw[if_pos (by simp;omega),decide_eq_true h,Bool.true_or]
  exact .leaf
 rw[if_neg (by simp;omega),decide_eq_false h,Bool.false_or]
 exact loop (by omega) 0 (Nat.zero_le _)
end Go.Ev
end

section
open Go Go.Ev
namespace Go.Ev
noncomputable section
noncomputable def e_book_GreatThread:Run:=entT sg_book_GreatThread R_book_GreatThread (fun a=>v_book_GreatThread a.1)
theorem ok_book_GreatThread:EntOK Go.Proofs.Tryz.prog 36 e_book_GreatThread:=entT_ok (tb:=tb_book_GreatThread) (c:=c_book_GreatThread) tk_book_GreatThread (by kernel_rfl) (by kernel_rfl) (by kernel_rfl) (fun a=>by kernel_rfl) fun ⟨t,_⟩=>evF_goes (c:=c_book_GreatThread) (K:=fun v=>(R_book_GreatThread v,tps (toForms sg_book_GreatThread (t,())))) (S:=S_book_GreatThread t) (by kernel_rfl) (en_book_GreatThread t) (lp_book_GreatThread t) (g_book_GreatThread t)
end
end Go.Ev
end

section
open Go Go.Ev
namespace Go.Ev
noncomputable section
def sg_book_Great:Sig:=[(true,T_api_Prog)]
noncomputable def t_book_Great:Tbl:=[(36,e_book_GreatThread)]
theorem tk_book_Great:∀p∈t_book_Great,EntOK Go.Proofs.Tryz.prog p.1 p.2:=tbl_cons ok_book_GreatThread (tbl_nil)
noncomputable def c_book_Great:Code:=Go.Proofs.Tryz.f14.body.getD .skip
def tb_book_Great:Tb:=[(6,⟨[1,3],[]⟩),(14,⟨[1,4],[]⟩)]
inductive J_book_Great where | l6 (i:Int) | l14 (i:Int)
def T_book_Great (p:El T_api_Prog):J_book_Great→JT J_book_Great (Bool) |.l6 i=>.br (decide (i < (Int.ofNat (List.length p.1)))) (.br ((decide ((0:Int)≤i))&&(decide (i < (Int.ofNat (List.length p.1))))) (.br (decide ((Int.ofNat (ByteArray.size (List.getD p.1 (Int.toNat i) (dflt T_api_Sym)).1)) > (60:Int))) (.leaf true) (.br ((decide ((0:Int)≤i))&&(decide (i < (Int.ofNat (List.length p.1))))) (.br (decide ((Int.ofNat (List.length (List.getD p.1 (Int.toNat i) (dflt T_api_Sym)).2.2)) > (66:Int))) (.leaf true) (.jmp (.l6 (IntKind.i64.wrap (i+(1:Int)))))) (.no))) (.no)) (.jmp (.l14 (0:Int))) |.l14 i=>.br (decide (i < (Int.ofNat (List.length p.2)))) (.br ((decide ((0:Int)≤i))&&(decide (i < (Int.ofNat (List.length p.2))))) (.br (v_book_GreatThread (List.getD p.2 (Int.toNat i) (dflt (.sl T_api_Ins)))) (.leaf true) (.jmp (.l14 (IntKind.i64.wrap (i+(1:Int)))))) (.no)) (.leaf false)
def T0_book_Great (p:El T_api_Prog):JT J_book_Great (Bool):=.br (decide ((Int.ofNat (List.length p.1)) > (66:Int))) (.leaf true) (.br (decide ((Int.ofNat (List.length p.2)) > (66:Int))) (.leaf true) (.jmp (.l6 (0:Int))))
def R_book_Great:Bool→AV:=fun (r:Bool)=>.d .bool r
def S_book_Great (p:El T_api_Prog):J_book_Great→Nat×St |.l6 i=>(6,⟨mkTm 53 [(1,.pt 2 0 0),(3,.d (.int .i64) i)],[(2,0,.box 27 [.d (.sl T_api_Sym) p.1,.d (.sl (.sl T_api_Ins)) p.2] none)]⟩) |.l14 i=>(14,⟨mkTm 53 [(1,.pt 2 0 0),(4,.d (.int .i64) i)],[(2,0,.box 27 [.d (.sl T_api_Sym) p.1,.d (.sl (.sl T_api_Ins)) p.2] none)]⟩)
theorem en_book_Great (p:El T_api_Prog) (L:Lt):entryA Go.Proofs.Tryz.prog (clOf t_book_Great) tb_book_Great Go.Proofs.Tryz.f14 c_book_Great L (toForms sg_book_Great (p,()))=(T0_book_Great p).run (fun v=>some (R_book_Great v,tps (toForms sg_book_Great (p,())))) fun j=>L (S_book_Great p j).1 (S_book_Great p j).2:=by kernel_rfl
theorem lp_book_Great (p:El T_api_Prog):∀(L:Lt) (j:J_book_Great),procOf (procsF Go.Proofs.Tryz.prog (clOf t_book_Great) tb_book_Great Go.Proofs.Tryz.f14 c_book_Great (toForms sg_book_Great (p,()))) (S_book_Great p j).1 L (S_book_Great p j).2=(T_book_Great p j).run (fun v=>some (R_book_Great v,tps (toForms sg_book_Great (p,())))) fun j=>L (S_book_Great p j).1 (S_book_Great p j).2 | L,.l6 i=>by kernel_rfl | L,.l14 i=>by kernel_rfl
end
end Go.Ev
end

section
open Go
namespace Go.Ev
def v_book_Great (p:El T_api_Prog):Bool:=decide (66 < p.1.length) || (decide (66 < p.2.length) || ((p.1.any fun s=>decide (60 < s.1.size) || decide (66 < s.2.2.length)) || p.2.any v_book_GreatThread))
theorem g_book_Great (p:El T_api_Prog):Goes (T_book_Great p) (T0_book_Great p) (v_book_Great p):=by
 obtain ⟨sy,th⟩:=p
 have loop2:th.length≤66→∀k,k≤th.length→Goes (T_book_Great (sy,th)) (.jmp (.l14 (k:Int))) ((th.drop k).any v_book_GreatThread):=by
  intro hn
  refine down ?_ fun k hk ih=>?_
  ·rw[goes_jmp]
   simp[T_book_Great,goes_br,goes_leaf]
  ·rw[goes_jmp]
   simp only[T_book_Great,goes_br,lt_len hk,nng,Bool.and_self,if_true,Int.toNat_natCast,getD_lt hk,wrap_succ (k:=k) (by omega)]
   rw[drop_cons hk,List.any_cons]
   cases v_book_GreatThread th[k] with
   | true=>simp[goes_leaf]
   | false=>simpa using ih
 have loop:sy.length≤66→th.length≤66→∀k,k≤sy.length→Goes (T_book_Great (sy,th)) (.jmp (.l6 (k:Int))) (((sy.drop k).any fun s=>decide (60 < s.1.size) || decide (66 < s.2.2.length)) || th.any v_book_GreatThread):=by
  intro hn hm
  refine down ?_ fun k hk ih=>?_
  ·rw[goes_jmp]
   simp only[T_book_Great,goes_br,lt_len_not (Nat.lt_irrefl _),List.drop_length,List.any_nil,Bool.false_or]
   simpa using loop2 hm 0 (Nat.zero_le _)
  ·rw[goes_jmp]
   simp only[T_book_Great,goes_br,lt_len hk,nng,Bool.and_self,if_true,Int.toNat_natCast,getD_lt hk,wrap_succ (k:=k) (by omega)]
   rw[drop_cons hk,List.any_cons]
   by_cases h:60 < sy[k].1.size
   ·rw[if_pos (by simp;omega),decide_eq_true h]
    simp[goes_leaf]
   rw[if_neg (by simp;omega),decide_eq_false h,Bool.false_or]
   by_cases h2:66 < sy[k].2.2.length
   ·rw[if_pos (by simp;omega),decide_eq_true h2]
    simp[goes_leaf]
   rw[if_neg (by simp;omega),decide_eq_false h2,Bool.false_or]
   exact ih
 unfold T0_book_Great v_book_Great
 simp only[goes_br]
 by_cases h:66 < sy.length
 ·rw[if_pos (by simp;omega),decide_eq_true h,Bool.true_or]
  exact .leaf
 rw[if_neg (by simp;omega),decide_eq_false h,Bool.false_or]
 by_cases h2:66 < th.length
 ·rw[if_pos (by simp;omega),decide_eq_true h2,Bool.true_or]
  exact .leaf
 rw[if_neg (by simp;omega),decide_eq_false h2,Bool.false_or]
 exact loop (by omega) (by omega) 0 (Nat.zero_le _)
end Go.Ev
end

section
open Go Go.Ev
namespace Go.Ev
noncomputable section
noncomputable def e_book_Great:Run:=entT sg_book_Great R_book_Great (fun a=>v_book_Great a.1)
theorem ok_book_Great:EntOK Go.Proofs.Tryz.prog 14 e_book_Great:=entT_ok (tb:=tb_book_Great) (c:=c_book_Great) tk_book_Great (by kernel_rfl) (by kernel_rfl) (by kernel_rfl) (fun a=>by kernel_rfl) fun ⟨p,_⟩=>evF_goes (c:=c_book_Great) (K:=fun v=>(R_book_Great v,tps (toForms sg_book_Great (p,())))) (S:=S_book_Great p) (by kernel_rfl) (en_book_Great p) (lp_book_Great p) (g_book_Great p)
end
end Go.Ev
end

section
open Go Go.Ev
namespace Go.Ev
noncomputable section
def sg_ref1_Spots:Sig:=[(false,.str)]
noncomputable def t_ref1_Spots:Tbl:=[]
theorem tk_ref1_Spots:∀p∈t_ref1_Spots,EntOK Go.Proofs.Tryz.prog p.1 p.2:=tbl_nil
noncomputable def c_ref1_Spots:Code:=Go.Proofs.Tryz.f63.body.getD .skip
def tb_ref1_Spots:Tb:=[(5,⟨[0,3,4,5,10],[(4,196)]⟩),(18,⟨[3,8],[]⟩)]
inductive J_ref1_Spots where | l5 (line:Int) (out:List (El T_ref1_Spot)) (pos:Nat) (col:Int) | l18 (out:List (El T_ref1_Spot)) (i:Int)
def T_ref1_Spots (s:ByteArray):J_ref1_Spots→JT J_ref1_Spots (List (El T_ref1_Spot)) |.l5 line out pos col=>.br (decide (pos < (ByteArray.size s))) (.br (decide ((Int.ofNat (List.length out)) > (0:Int))) (.br ((decide ((0:Int)≤(IntKind.i64.wrap ((Int.ofNat (List.length out)) - (1:Int)))))&&(decide ((IntKind.i64.wrap ((Int.ofNat (List.length out)) - (1:Int))) < (Int.ofNat (List.length out))))) (.br ((decide ((0:Int)≤(IntKind.i64.wrap ((Int.ofNat (List.length out)) - (1:Int)))))&&(decide ((IntKind.i64.wrap ((Int.ofNat (List.length out)) - (1:Int))) < (Int.ofNat (List.length out))))) (.br (Nat.ble (((List.length (List.set out (Int.toNat (IntKind.i64.wrap ((Int.ofNat (List.length out)) - (1:Int)))) ((List.getD out (Int.toNat (IntKind.i64.wrap ((Int.ofNat (List.length out)) - (1:Int)))) (dflt T_ref1_Spot)).1,((List.getD out (Int.toNat (IntKind.i64.wrap ((Int.ofNat (List.length out)) - (1:Int)))) (dflt T_ref1_Spot)).2.1,((IntKind.i64.wrap ((Int.ofNat pos) - (List.getD out (Int.toNat (IntKind.i64.wrap ((Int.ofNat (List.length out)) - (1:Int)))) (dflt T_ref1_Spot)).2.1)),(List.getD out (Int.toNat (IntKind.i64.wrap ((Int.ofNat (List.length out)) - (1:Int)))) (dflt T_ref1_Spot)).2.2.2)))))+1)*48) limit) (.br ((Int.ofNat (Utf8.decode s pos).1)==(10:Int)) (.jmp (.l5 (IntKind.i64.wrap (line+(1:Int))) ((List.set out (Int.toNat (IntKind.i64.wrap ((Int.ofNat (List.length out)) - (1:Int)))) ((List.getD out (Int.toNat (IntKind.i64.wrap ((Int.ofNat (List.length out)) - (1:Int)))) (dflt T_ref1_Spot)).1,((List.getD out (Int.toNat (IntKind.i64.wrap ((Int.ofNat (List.length out)) - (1:Int)))) (dflt T_ref1_Spot)).2.1,((IntKind.i64.wrap ((Int.ofNat pos) - (List.getD out (Int.toNat (IntKind.i64.wrap ((Int.ofNat (List.length out)) - (1:Int)))) (dflt T_ref1_Spot)).2.1)),(List.getD out (Int.toNat (IntKind.i64.wrap ((Int.ofNat (List.length out)) - (1:Int)))) (dflt T_ref1_Spot)).2.2.2))))++[((Int.ofNat (Utf8.decode s pos).1),((Int.ofNat pos),((0:Int),(line,(col,false)))))]) (pos+(Utf8.decode s pos).2) (1:Int))) (.jmp (.l5 line ((List.set out (Int.toNat (IntKind.i64.wrap ((Int.ofNat (List.length out)) - (1:Int)))) ((List.getD out (Int.toNat (IntKind.i64.wrap ((Int.ofNat (List.length out)) - (1:Int)))) (dflt T_ref1_Spot)).1,((List.getD out (Int.toNat (IntKind.i64.wrap ((Int.ofNat (List.length out)) - (1:Int)))) (dflt T_ref1_Spot)).2.1,((IntKind.i64.wrap ((Int.ofNat pos) - (List.getD out (Int.toNat (IntKind.i64.wrap ((Int.ofNat (List.length out)) - (1:Int)))) (dflt T_ref1_Spot)).2.1)),(List.getD out (Int.toNat (IntKind.i64.wrap ((Int.ofNat (List.length out)) - (1:Int)))) (dflt T_ref1_Spot)).2.2.2))))++[((Int.ofNat (Utf8.decode s pos).1),((Int.ofNat pos),((0:Int),(line,(col,false)))))]) (pos+(Utf8.decode s pos).2) (IntKind.i64.wrap (col+(1:Int)))))) (.no)) (.no)) (.no)) (.br (Nat.ble (((List.length out)+1)*48) limit) (.br ((Int.ofNat (Utf8.decode s pos).1)==(10:Int)) (.jmp (.l5 (IntKind.i64.wrap (line+(1:Int))) (out++[((Int.ofNat (Utf8.decode s pos).1),((Int.ofNat pos),((0:Int),(line,(col,false)))))]) (pos+(Utf8.decode s pos).2) (1:Int))) (.jmp (.l5 line (out++[((Int.ofNat (Utf8.decode s pos).1),((Int.ofNat pos),((0:Int),(line,(col,false)))))]) (pos+(Utf8.decode s pos).2) (IntKind.i64.wrap (col+(1:Int)))))) (.no))) (.br (decide ((Int.ofNat (List.length out)) > (0:Int))) (.br ((decide ((0:Int)≤(IntKind.i64.wrap ((Int.ofNat (List.length out)) - (1:Int)))))&&(decide ((IntKind.i64.wrap ((Int.ofNat (List.length out)) - (1:Int))) < (Int.ofNat (List.length out))))) (.br ((decide ((0:Int)≤(IntKind.i64.wrap ((Int.ofNat (List.length out)) - (1:Int)))))&&(decide ((IntKind.i64.wrap ((Int.ofNat (List.length out)) - (1:Int))) < (Int.ofNat (List.length out))))) (.jmp (.l18 (List.set out (Int.toNat (IntKind.i64.wrap ((Int.ofNat (List.length out)) - (1:Int)))) ((List.getD out (Int.toNat (IntKind.i64.wrap ((Int.ofNat (List.length out)) - (1:Int)))) (dflt T_ref1_Spot)).1,((List.getD out (Int.toNat (IntKind.i64.wrap ((Int.ofNat (List.length out)) - (1:Int)))) (dflt T_ref1_Spot)).2.1,((IntKind.i64.wrap ((Int.ofNat (ByteArray.size s)) - (List.getD out (Int.toNat (IntKind.i64.wrap ((Int.ofNat (List.length out)) - (1:Int)))) (dflt T_ref1_Spot)).2.1)),(List.getD out (Int.toNat (IntKind.i64.wrap ((Int.ofNat (List.length out)) - (1:Int)))) (dflt T_ref1_Spot)).2.2.2)))) (0:Int))) (.no)) (.no)) (.jmp (.l18 out (0:Int)))) |.l18 out i=>.br (decide (i < (Int.ofNat (List.length out)))) (.br ((decide ((0:Int)≤i))&&(decide (i < (Int.ofNat (List.length out))))) (.br ((List.getD out (Int.toNat i) (dflt T_ref1_Spot)).1==(65533:Int)) (.br ((decide ((0:Int)≤i))&&(decide (i < (Int.ofNat (List.length out))))) (.br ((decide ((0:Int)≤i))&&(decide (i < (Int.ofNat (List.length out))))) (.jmp (.l18 (List.set out (Int.toNat i) ((List.getD out (Int.toNat i) (dflt T_ref1_Spot)).1,((List.getD out (Int.toNat i) (dflt T_ref1_Spot)).2.1,((List.getD out (Int.toNat i) (dflt T_ref1_Spot)).2.2.1,((List.getD out (Int.toNat i) (dflt T_ref1_Spot)).2.2.2.1,((List.getD out (Int.toNat i) (dflt T_ref1_Spot)).2.2.2.2.1,((List.getD out (Int.toNat i) (dflt T_ref1_Spot)).2.2.1==(1:Int)))))))) (IntKind.i64.wrap (i+(1:Int))))) (.no)) (.no)) (.br ((decide ((0:Int)≤i))&&(decide (i < (Int.ofNat (List.length out))))) (.jmp (.l18 (List.set out (Int.toNat i) ((List.getD out (Int.toNat i) (dflt T_ref1_Spot)).1,((List.getD out (Int.toNat i) (dflt T_ref1_Spot)).2.1,((List.getD out (Int.toNat i) (dflt T_ref1_Spot)).2.2.1,((List.getD out (Int.toNat i) (dflt T_ref1_Spot)).2.2.2.1,((List.getD out (Int.toNat i) (dflt T_ref1_Spot)).2.2.2.2.1,false)))))) (IntKind.i64.wrap (i+(1:Int))))) (.no))) (.no)) (.leaf out)
def T0_ref1_Spots (s:ByteArray):JT J_ref1_Spots (List (El T_ref1_Spot)):=.jmp (.l5 (1:Int) [] 0 (1:Int))
def R_ref1_Spots:List (El T_ref1_Spot)→AV:=fun (r:List (El T_ref1_Spot))=>.rw 101 T_ref1_Spot r
def S_ref1_Spots (s:ByteArray):J_ref1_Spots→Nat×St |.l5 line out pos col=>(5,⟨mkTm 91 [(0,.d .str s),(3,.own 4 0 none),(4,.d (.int .i64) line),(5,.d (.int .i64) col),(10,.it 11 0)],[(4,0,.row 101 T_ref1_Spot out false),(11,0,.sit s pos)]⟩) |.l18 out i=>(18,⟨mkTm 91 [(3,.own 4 0 none),(8,.d (.int .i64) i)],[(4,0,.row 101 T_ref1_Spot out false)]⟩)
theorem en_ref1_Spots (s:ByteArray) (L:Lt):entryA Go.Proofs.Tryz.prog (clOf t_ref1_Spots) tb_ref1_Spots Go.Proofs.Tryz.f63 c_ref1_Spots L (toForms sg_ref1_Spots (s,()))=(T0_ref1_Spots s).run (fun v=>some (R_ref1_Spots v,tps (toForms sg_ref1_Spots (s,())))) fun j=>L (S_ref1_Spots s j).1 (S_ref1_Spots s j).2:=by kernel_rfl
theorem lp_ref1_Spots (s:ByteArray):∀(L:Lt) (j:J_ref1_Spots),procOf (procsF Go.Proofs.Tryz.prog (clOf t_ref1_Spots) tb_ref1_Spots Go.Proofs.Tryz.f63 c_ref1_Spots (toForms sg_ref1_Spots (s,()))) (S_ref1_Spots s j).1 L (S_ref1_Spots s j).2=(T_ref1_Spots s j).run (fun v=>some (R_ref1_Spots v,tps (toForms sg_ref1_Spots (s,())))) fun j=>L (S_ref1_Spots s j).1 (S_ref1_Spots s j).2 | L,.l5 line out pos col=>by kernel_rfl | L,.l18 out i=>by kernel_rfl
end
end Go.Ev
end

section
open Go Go.Ev
namespace Go.Ev
noncomputable section
def sg_glyph_step:Sig:=[(false,(.int .i64)),(false,(.int .i64)),(false,(.int .i32))]
noncomputable def t_glyph_step:Tbl:=[]
theorem tk_glyph_step:∀p∈t_glyph_step,EntOK Go.Proofs.Tryz.prog p.1 p.2:=tbl_nil
noncomputable def c_glyph_step:Code:=Go.Proofs.Tryz.f134.body.getD .skip
def tb_glyph_step:Tb:=[]
def T_glyph_step (line:Int) (col:Int) (r:Int):Empty→JT Empty (Int×Int):=fun j=>nomatch j
def T0_glyph_step (line:Int) (col:Int) (r:Int):JT Empty (Int×Int):=.br (r==(10:Int)) (.leaf ((IntKind.i64.wrap (line+(1:Int))),(1:Int))) (.leaf (line,(IntKind.i64.wrap (col+(1:Int)))))
def v_glyph_step (line:Int) (col:Int) (r:Int):Int×Int:=bif (r==(10:Int)) then ((IntKind.i64.wrap (line+(1:Int))),(1:Int)) else (line,(IntKind.i64.wrap (col+(1:Int))))
theorem g_glyph_step (line:Int) (col:Int) (r:Int):Goes (T_glyph_step line col r) (T0_glyph_step line col r) (v_glyph_step line col r):=Goes.br (Goes.leaf) (Goes.leaf)
def R_glyph_step:Int×Int→AV:=fun (r:Int×Int)=>.tu [.d (.int .i64) r.1,.d (.int .i64) r.2]
def S_glyph_step (line:Int) (col:Int) (r:Int):Empty→Nat×St:=fun j=>nomatch j
theorem en_glyph_step (line:Int) (col:Int) (r:Int) (L:Lt):entryA Go.Proofs.Tryz.prog (clOf t_glyph_step) tb_glyph_step Go.Proofs.Tryz.f134 c_glyph_step L (toForms sg_glyph_step (line,col,r,()))=(T0_glyph_step line col r).run (fun v=>some (R_glyph_step v,tps (toForms sg_glyph_step (line,col,r,())))) fun j=>L (S_glyph_step line col r j).1 (S_glyph_step line col r j).2:=by kernel_rfl
theorem lp_glyph_step (line:Int) (col:Int) (r:Int):∀(L:Lt) (j:Empty),procOf (procsF Go.Proofs.Tryz.prog (clOf t_glyph_step) tb_glyph_step Go.Proofs.Tryz.f134 c_glyph_step (toForms sg_glyph_step (line,col,r,()))) (S_glyph_step line col r j).1 L (S_glyph_step line col r j).2=(T_glyph_step line col r j).run (fun v=>some (R_glyph_step v,tps (toForms sg_glyph_step (line,col,r,())))) fun j=>L (S_glyph_step line col r j).1 (S_glyph_step line col r j).2:=fun L j=>nomatch j
noncomputable def e_glyph_step:Run:=entT sg_glyph_step R_glyph_step (fun a=>v_glyph_step a.1 a.2.1 a.2.2.1)
theorem ok_glyph_step:EntOK Go.Proofs.Tryz.prog 134 e_glyph_step:=entT_ok (tb:=tb_glyph_step) (c:=c_glyph_step) tk_glyph_step (by kernel_rfl) (by kernel_rfl) (by kernel_rfl) (fun a=>by kernel_rfl) fun ⟨line,col,r,_⟩=>evF_goes (c:=c_glyph_step) (K:=fun v=>(R_glyph_step v,tps (toForms sg_glyph_step (line,col,r,())))) (S:=S_glyph_step line col r) (by kernel_rfl) (en_glyph_step line col r) (lp_glyph_step line col r) (g_glyph_step line col r)
end
end Go.Ev
end

section
open Go Go.Ev
namespace Go.Ev
noncomputable section
def sg_utf8_RuneLen:Sig:=[(false,(.int .i32))]
noncomputable def t_utf8_RuneLen:Tbl:=[]
theorem tk_utf8_RuneLen:∀p∈t_utf8_RuneLen,EntOK Go.Proofs.Tryz.prog p.1 p.2:=tbl_nil
noncomputable def c_utf8_RuneLen:Code:=Go.Proofs.Tryz.f133.body.getD .skip
def tb_utf8_RuneLen:Tb:=[]
def T_utf8_RuneLen (r:Int):Empty→JT Empty (Int):=fun j=>nomatch j
def T0_utf8_RuneLen (r:Int):JT Empty (Int):=.br (decide (r < (0:Int))) (.leaf (-1:Int)) (.br (decide (r≤(127:Int))) (.leaf (1:Int)) (.br (decide (r≤(2047:Int))) (.leaf (2:Int)) (.br (decide ((55296:Int)≤r)) (.br (decide (r≤(57343:Int))) (.leaf (-1:Int)) (.br (decide (r≤(65535:Int))) (.leaf (3:Int)) (.br (decide (r≤(1114111:Int))) (.leaf (4:Int)) (.leaf (-1:Int))))) (.br (decide (r≤(65535:Int))) (.leaf (3:Int)) (.br (decide (r≤(1114111:Int))) (.leaf (4:Int)) (.leaf (-1:Int)))))))
def v_utf8_RuneLen (r:Int):Int:=bif (decide (r < (0:Int))) then (-1:Int) else bif (decide (r≤(127:Int))) then (1:Int) else bif (decide (r≤(2047:Int))) then (2:Int) else bif (decide ((55296:Int)≤r)) then bif (decide (r≤(57343:Int))) then (-1:Int) else bif (decide (r≤(65535:Int))) then (3:Int) else bif (decide (r≤(1114111:Int))) then (4:Int) else (-1:Int) else bif (decide (r≤(65535:Int))) then (3:Int) else bif (decide (r≤(1114111:Int))) then (4:Int) else (-1:Int)
theorem g_utf8_RuneLen (r:Int):Goes (T_utf8_RuneLen r) (T0_utf8_RuneLen r) (v_utf8_RuneLen r):=Goes.br (Goes.leaf) (Goes.br (Goes.leaf) (Goes.br (Goes.leaf) (Goes.br (Goes.br (Goes.leaf) (Goes.br (Goes.leaf) (Goes.br (Goes.leaf) (Goes.leaf)))) (Goes.br (Goes.leaf) (Goes.br (Goes.leaf) (Goes.leaf))))))
def R_utf8_RuneLen:Int→AV:=fun (r:Int)=>.d (.int .i64) r
def S_utf8_RuneLen (r:Int):Empty→Nat×St:=fun j=>nomatch j
theorem en_utf8_RuneLen (r:Int) (L:Lt):entryA Go.Proofs.Tryz.prog (clOf t_utf8_RuneLen) tb_utf8_RuneLen Go.Proofs.Tryz.f133 c_utf8_RuneLen L (toForms sg_utf8_RuneLen (r,()))=(T0_utf8_RuneLen r).run (fun v=>some (R_utf8_RuneLen v,tps (toForms sg_utf8_RuneLen (r,())))) fun j=>L (S_utf8_RuneLen r j).1 (S_utf8_RuneLen r j).2:=by kernel_rfl
theorem lp_utf8_RuneLen (r:Int):∀(L:Lt) (j:Empty),procOf (procsF Go.Proofs.Tryz.prog (clOf t_utf8_RuneLen) tb_utf8_RuneLen Go.Proofs.Tryz.f133 c_utf8_RuneLen (toForms sg_utf8_RuneLen (r,()))) (S_utf8_RuneLen r j).1 L (S_utf8_RuneLen r j).2=(T_utf8_RuneLen r j).run (fun v=>some (R_utf8_RuneLen v,tps (toForms sg_utf8_RuneLen (r,())))) fun j=>L (S_utf8_RuneLen r j).1 (S_utf8_RuneLen r j).2:=fun L j=>nomatch j
noncomputable def e_utf8_RuneLen:Run:=entT sg_utf8_RuneLen R_utf8_RuneLen (fun a=>v_utf8_RuneLen a.1)
theorem ok_utf8_RuneLen:EntOK Go.Proofs.Tryz.prog 133 e_utf8_RuneLen:=entT_ok (tb:=tb_utf8_RuneLen) (c:=c_utf8_RuneLen) tk_utf8_RuneLen (by kernel_rfl) (by kernel_rfl) (by kernel_rfl) (fun a=>by kernel_rfl) fun ⟨r,_⟩=>evF_goes (c:=c_utf8_RuneLen) (K:=fun v=>(R_utf8_RuneLen v,tps (toForms sg_utf8_RuneLen (r,())))) (S:=S_utf8_RuneLen r) (by kernel_rfl) (en_utf8_RuneLen r) (lp_utf8_RuneLen r) (g_utf8_RuneLen r)
end
end Go.Ev
end

section
namespace Go.Ev
open Go Go.Lib
theorem dec_tail {s:ByteArray} {pos:Nat} (h:pos < s.size):decodeGo (s.extract pos s.size)=Utf8.decode s pos:=by
 have h0:¬(s.extract pos s.size).size=0:=by rw[tail_size];omega
 unfold decodeGo
 rw[if_neg h0,tail_decode,Nat.add_zero]
theorem decN_facts (n b0 b1 b2 b3 : Nat) (h0 : b0 < 256) : 1 ≤ (decodeN n b0 b1 b2 b3).2 ∧ (1 ≤ n → (decodeN n b0 b1 b2 b3).2 ≤ n) ∧ ((decodeN n b0 b1 b2 b3).1 ≠ 65533 → v_utf8_RuneLen (Int.ofNat (decodeN n b0 b1 b2 b3).1) = Int.ofNat (decodeN n b0 b1 b2 b3).2) := by
  have rl : ∀ r : Nat, v_utf8_RuneLen (Int.ofNat r) = if r ≤ 127 then 1 else if r ≤ 2047 then 2 else if 55296 ≤ r ∧ r ≤ 57343 then -1 else if r ≤ 65535 then 3 else if r ≤ 1114111 then 4 else -1 := by
    intro r
    unfold v_utf8_RuneLen
    have e0 : decide (Int.ofNat r < 0) = false := by simp
    have e1 : decide (Int.ofNat r ≤ 127) = decide (r ≤ 127) := by simp; omega
    have e2 : decide (Int.ofNat r ≤ 2047) = decide (r ≤ 2047) := by simp; omega
    have e3 : decide ((55296 : Int) ≤ Int.ofNat r) = decide (55296 ≤ r) := by simp; omega
    have e4 : decide (Int.ofNat r ≤ 57343) = decide (r ≤ 57343) := by simp; omega
    have e5 : decide (Int.ofNat r ≤ 65535) = decide (r ≤ 65535) := by simp; omega
    have e6 : decide (Int.ofNat r ≤ 1114111) = decide (r ≤ 1114111) := by simp; omega
    simp only [e0, e1, e2, e3, e4, e5, e6]
    by_cases a1 : r ≤ 127 <;> by_cases a2 : r ≤ 2047 <;> by_cases a3 : 55296 ≤ r <;> by_cases a4 : r ≤ 57343 <;> by_cases a5 : r ≤ 65535 <;> by_cases a6 : r ≤ 1114111 <;> simp [a1, a2, a3, a4, a5, a6] <;> omega
  unfold decodeN
  repeat' split
  all_goals refine ⟨by simp only; omega, fun _ => by simp only; omega, fun hne => ?_⟩
  all_goals first
    | (exact absurd rfl hne)
    | (simp only; rw [rl]; repeat' split
       all_goals first | rfl | (exfalso; omega))
theorem dec_ge {s:ByteArray} {pos:Nat} :1≤(Utf8.decode s pos).2:=by
 rw[decode_at];exact (decN_facts _ _ _ _ _ (UInt8.toNat_lt _)).1
theorem dec_le {s:ByteArray} {pos:Nat} (h:pos < s.size):pos+(Utf8.decode s pos).2≤s.size:=by
 have:=(decN_facts (s.size - pos) (s.get! pos).toNat (s.get! (pos+1)).toNat (s.get! (pos+2)).toNat (s.get! (pos+3)).toNat (UInt8.toNat_lt _)).2.1 (by omega)
 rw[decode_at];omega
theorem dec_len {s:ByteArray} {pos:Nat} (h:(Utf8.decode s pos).1≠65533):v_utf8_RuneLen (Int.ofNat (Utf8.decode s pos).1)=Int.ofNat (Utf8.decode s pos).2:=by
 rw[decode_at] at h ⊢;exact (decN_facts _ _ _ _ _ (UInt8.toNat_lt _)).2.2 h
def spotAt (s:ByteArray) (pos:Nat) (line col:Int) (bad:Bool):El T_glyph_Spot:=
 (Int.ofNat (Utf8.decode s pos).1,Int.ofNat pos,Int.ofNat (Utf8.decode s pos).2,line,col,bad)
def badAt (s:ByteArray) (pos:Nat):Bool:=decide ((Utf8.decode s pos).1=65533)&&decide ((Utf8.decode s pos).2=1)
def spotsFrom (s:ByteArray):Nat→Nat→Int→Int→List (El T_glyph_Spot)
 | 0,_,_,_=>[]
 | n+1,pos,line,col=>
  if pos < s.size then
   spotAt s pos line col (badAt s pos) :: spotsFrom s n (pos+(Utf8.decode s pos).2) (v_glyph_step line col (Int.ofNat (Utf8.decode s pos).1)).1 (v_glyph_step line col (Int.ofNat (Utf8.decode s pos).1)).2
  else []
def spots (s:ByteArray):List (El T_glyph_Spot):=spotsFrom s (s.size+1) 0 1 1
def smallText (s:ByteArray):Bool:=decide (s.size < 549755813888)
theorem spotsFrom_end {s:ByteArray} {n pos:Nat} {line col:Int} (h:¬pos < s.size):spotsFrom s n pos line col=[]:=by
 cases n with
 | zero=>rfl
 | succ n=>simp only[spotsFrom,if_neg h]
theorem spotsFrom_length (s:ByteArray):∀(n pos:Nat) (line col:Int),(spotsFrom s n pos line col).length≤s.size - pos
 | 0,_,_,_=>by simp[spotsFrom]
 | n+1,pos,line,col=>by
  unfold spotsFrom
  split
  ·have:=spotsFrom_length s n (pos+(Utf8.decode s pos).2) (v_glyph_step line col (Int.ofNat (Utf8.decode s pos).1)).1 (v_glyph_step line col (Int.ofNat (Utf8.decode s pos).1)).2
   have h1:=dec_ge (s:=s) (pos:=pos)
   simp only[List.length_cons]
   omega
  ·simp
theorem spots_length (s:ByteArray):(spots s).length≤s.size:=spotsFrom_length s _ 0 1 1
end Go.Ev
end

section
open Go
namespace Go.Ev
def rawFrom (s:ByteArray):Nat→Nat→Int→Int→List (El T_glyph_Spot)
 | 0,_,_,_=>[]
 | n+1,pos,line,col=>
  if pos < s.size then
   spotAt s pos line col false :: rawFrom s n (pos+(Utf8.decode s pos).2) (v_glyph_step line col (Int.ofNat (Utf8.decode s pos).1)).1 (v_glyph_step line col (Int.ofNat (Utf8.decode s pos).1)).2
  else []
def tellBad (x:El T_glyph_Spot):El T_glyph_Spot:=(x.1,x.2.1,x.2.2.1,x.2.2.2.1,x.2.2.2.2.1,x.1==(65533:Int)&&x.2.2.1==(1:Int))
def noSize (x:El T_glyph_Spot):El T_glyph_Spot:=(x.1,x.2.1,0,x.2.2.2.1,x.2.2.2.2.1,x.2.2.2.2.2)
theorem raw_spots (s:ByteArray):∀(n pos:Nat) (line col:Int),(rawFrom s n pos line col).map tellBad=spotsFrom s n pos line col
 | 0,_,_,_=>rfl
 | n+1,pos,line,col=>by
  unfold rawFrom spotsFrom
  split
  ·rw[List.map_cons,raw_spots s n]
   congr 1
   unfold tellBad spotAt badAt
   have e1:(Int.ofNat (Utf8.decode s pos).1==(65533:Int))=decide ((Utf8.decode s pos).1=65533):=by rw[Bool.eq_iff_iff];simp <;> omega
   have e2:(Int.ofNat (Utf8.decode s pos).2==(1:Int))=decide ((Utf8.decode s pos).2=1):=by rw[Bool.eq_iff_iff];simp <;> omega
   simp only[e1,e2]
  ·rfl
def v_ref1_Spots (s:ByteArray):List (El T_glyph_Spot):=spots s
def k_ref1_Spots (s:ByteArray):Bool:=smallText s
theorem g_ref1_Spots (s:ByteArray) (hk:k_ref1_Spots s=true):Goes (T_ref1_Spots s) (T0_ref1_Spots s) (v_ref1_Spots s):=by
 have hs:s.size < 549755813888:=of_decide_eq_true hk
 have loop2:∀(rest pre:List (El T_glyph_Spot)),pre.length+rest.length≤s.size→(∀x∈rest,x.2.2.2.2.2=false)→Goes (T_ref1_Spots s) (.jmp (.l18 (pre++rest) (pre.length:Int))) (pre++rest.map tellBad):=by
  intro rest
  induction rest with
  | nil=>
   intro pre _ _
   rw[goes_jmp]
   simp[T_ref1_Spots,goes_br,goes_leaf]
  | cons x rest ih=>
   intro pre hl hx
   rw[goes_jmp]
   have hk:pre.length < (pre++x :: rest).length:=by simp
   have hg:(pre++x :: rest).getD pre.length (dflt T_glyph_Spot)=x:=by simp[List.getD]
   have hset:∀y,(pre++x :: rest).set pre.length y=pre++y :: rest:=fun y=>by simp
   have hl':(pre++x :: rest).length≤s.size:=by simpa using hl
   simp only[T_ref1_Spots,goes_br,lt_len hk,nng,Bool.and_self,if_true,Int.toNat_natCast,hg,hset,wrap_succ (k:=pre.length) (by omega)]
   have hb:x.2.2.2.2.2=false:=hx x (by simp)
   have key:∀b,b=(x.1==(65533:Int)&&x.2.2.1==(1:Int))→Goes (T_ref1_Spots s) (.jmp (.l18 (pre++(x.1,x.2.1,x.2.2.1,x.2.2.2.1,x.2.2.2.2.1,b) :: rest) ((pre.length+1:Nat):Int))) (pre++(x :: rest).map tellBad):=by
    intro b e
    subst e
    have:=ih (pre++[tellBad x]) (by simp at hl ⊢;omega) (fun y hy=>hx y (by simp[hy]))
    simpa[tellBad] using this
   by_cases h:x.1=65533
   ·rw[if_pos (by simp[h])]
    exact key _ (by simp[h])
   ·rw[if_neg (by simp[h])]
    exact key _ (by simp[h])
 have raw_false:∀(n pos:Nat) (line col:Int),∀x∈rawFrom s n pos line col,x.2.2.2.2.2=false:=by
  intro n
  induction n with
  | zero=>intro pos line col x hx;simp[rawFrom] at hx
  | succ n ih=>
   intro pos line col x hx
   unfold rawFrom at hx
   split at hx
   ·rcases List.mem_cons.1 hx with rfl | hx
    ·rfl
    ·exact ih _ _ _ x hx
   ·simp at hx
 have loop1:∀(n pos:Nat) (line col:Int) (done:List (El T_glyph_Spot)) (out:List (El T_glyph_Spot)),s.size - pos < n→pos≤s.size→done.length≤pos→(∀x∈done,x.2.2.2.2.2=false)→
   ((done=[]∧out=[])∨∃ini x,done=ini++[x]∧out=ini++[noSize x]∧∃a m:Nat,x.2.1=(a:Int)∧x.2.2.1=(m:Int)∧a+m=pos)→
   Goes (T_ref1_Spots s) (.jmp (.l5 line out pos col)) ((done++rawFrom s n pos line col).map tellBad):=by
  intro n
  induction n with
  | zero=>intro pos line col done out h;omega
  | succ n ih=>
   intro pos line col done out hn hp hd hfalse hinv
   rw[goes_jmp]
   simp only[T_ref1_Spots,goes_br]
   by_cases h:pos < s.size
   ·have hle:=dec_le h
    have h1:=dec_ge (s:=s) (pos:=pos)
    have hraw:rawFrom s (n+1) pos line col=spotAt s pos line col false :: rawFrom s n (pos+(Utf8.decode s pos).2) (v_glyph_step line col (Int.ofNat (Utf8.decode s pos).1)).1 (v_glyph_step line col (Int.ofNat (Utf8.decode s pos).1)).2:=by
     rw[rawFrom,if_pos h]
    have hnext:∀(l c:Int),l=(v_glyph_step line col (Int.ofNat (Utf8.decode s pos).1)).1→c=(v_glyph_step line col (Int.ofNat (Utf8.decode s pos).1)).2→
      Goes (T_ref1_Spots s) (.jmp (.l5 l (done++[(Int.ofNat (Utf8.decode s pos).1,Int.ofNat pos,0,line,col,false)]) (pos+(Utf8.decode s pos).2) c)) ((done++rawFrom s (n+1) pos line col).map tellBad):=by
     intro l c el ec
     subst el;subst ec
     have e:∀(r:List (El T_glyph_Spot)),done++spotAt s pos line col false :: r=(done++[spotAt s pos line col false])++r:=fun r=>List.append_cons ..
     rw[hraw,e]
     refine ih (pos+(Utf8.decode s pos).2) _ _ (done++[spotAt s pos line col false]) _ (by omega) (by omega) (by simp <;> omega) ?_ (.inr ⟨done,spotAt s pos line col false,rfl,rfl,pos,(Utf8.decode s pos).2,rfl,rfl,rfl⟩)
     intro x hx
     rcases List.mem_append.1 hx with hx | hx
     ·exact hfalse x hx
     ·simp at hx;subst hx;rfl
    have hfin:if (Int.ofNat (Utf8.decode s pos).1==(10:Int))=true then
       Goes (T_ref1_Spots s) (.jmp (.l5 (IntKind.i64.wrap (line+1)) (done++[(Int.ofNat (Utf8.decode s pos).1,Int.ofNat pos,0,line,col,false)]) (pos+(Utf8.decode s pos).2) 1)) ((done++rawFrom s (n+1) pos line col).map tellBad)
      else Goes (T_ref1_Spots s) (.jmp (.l5 line (done++[(Int.ofNat (Utf8.decode s pos).1,Int.ofNat pos,0,line,col,false)]) (pos+(Utf8.decode s pos).2) (IntKind.i64.wrap (col+1)))) ((done++rawFrom s (n+1) pos line col).map tellBad):=by
     split
     ·rename_i hr
      exact hnext _ _ (by simp only[v_glyph_step,hr,cond_true]) (by simp only[v_glyph_step,hr,cond_true])
     ·rename_i hr
      rw[Bool.not_eq_true] at hr
      exact hnext _ _ (by simp only[v_glyph_step,hr,cond_false]) (by simp only[v_glyph_step,hr,cond_false])
    rcases hinv with ⟨rfl,rfl⟩ | ⟨ini,x,rfl,rfl,a,m,ha,hm,ham⟩
    ·have hb:Nat.ble ((([]:List (El T_glyph_Spot)).length+1)*48) limit=true:=by decide
     simp only[h,decide_true,if_true,hb]
     rw[if_neg (by simp)]
     exact hfin
    ·have hlen:(ini++[noSize x]).length=ini.length+1:=by simp
     have hd2:ini.length+1≤pos:=by simpa using hd
     have hw:IntKind.i64.wrap (Int.ofNat (ini++[noSize x]).length - 1)=(ini.length:Int):=by rw[hlen,wrap_i64 (by simp <;> omega) (by simp <;> omega)];simp
     have hg:(ini++[noSize x]).getD ini.length (dflt T_glyph_Spot)=noSize x:=by simp[List.getD]
     have hset:∀y,(ini++[noSize x]).set ini.length y=ini++[y]:=fun y=>by simp
     have hat:IntKind.i64.wrap (Int.ofNat pos - (noSize x).2.1)=x.2.2.1:=by
      show IntKind.i64.wrap (Int.ofNat pos - x.2.1)=_
      rw[ha,hm,wrap_i64 (by simp <;> omega) (by simp <;> omega)]
      simp;omega
     have hy:((noSize x).1,(noSize x).2.1,x.2.2.1,(noSize x).2.2.2)=x:=rfl
     have hgt:decide (Int.ofNat (ini++[noSize x]).length > 0)=true:=by rw[hlen];simp <;> omega
     have hb:Nat.ble (((ini++[x]).length+1)*48) limit=true:=by
      apply Nat.ble_eq_true_of_le;unfold limit;simp <;> omega
     have hlt:ini.length < (ini++[noSize x]).length:=by simp
     simp only[h,decide_true,if_true,hgt,hw,lt_len hlt,nng,Bool.and_self,Int.toNat_natCast,hg,hset,hat,hy,hb]
     exact hfin
   ·have hend:rawFrom s (n+1) pos line col=[]:=by rw[rawFrom,if_neg h]
    have hpos:pos=s.size:=by omega
    rw[hend,List.append_nil]
    simp only[h,decide_false]
    rw[if_neg (by simp)]
    rcases hinv with ⟨rfl,rfl⟩ | ⟨ini,x,rfl,rfl,a,m,ha,hm,ham⟩
    ·rw[if_neg (by simp)]
     exact loop2 [] [] (by simp) (by simp)
    ·have hlen:(ini++[noSize x]).length=ini.length+1:=by simp
     have hd2:ini.length+1≤pos:=by simpa using hd
     have hw:IntKind.i64.wrap (Int.ofNat (ini++[noSize x]).length - 1)=(ini.length:Int):=by rw[hlen,wrap_i64 (by simp <;> omega) (by simp <;> omega)];simp
     have hg:(ini++[noSize x]).getD ini.length (dflt T_glyph_Spot)=noSize x:=by simp[List.getD]
     have hset:∀y,(ini++[noSize x]).set ini.length y=ini++[y]:=fun y=>by simp
     have hat:IntKind.i64.wrap (Int.ofNat s.size - (noSize x).2.1)=x.2.2.1:=by
      show IntKind.i64.wrap (Int.ofNat s.size - x.2.1)=_
      rw[ha,hm,wrap_i64 (by simp <;> omega) (by simp <;> omega)]
      simp;omega
     have hy:((noSize x).1,(noSize x).2.1,x.2.2.1,(noSize x).2.2.2)=x:=rfl
     have hgt:decide (Int.ofNat (ini++[noSize x]).length > 0)=true:=by rw[hlen];simp <;> omega
     have hlt:ini.length < (ini++[noSize x]).length:=by simp
     simp only[if_true,hgt,hw,lt_len hlt,nng,Bool.and_self,Int.toNat_natCast,hg,hset,hat,hy]
     exact loop2 (ini++[x]) [] (by simp <;> omega) hfalse
 unfold T0_ref1_Spots v_ref1_Spots spots
 have:=loop1 (s.size+1) 0 1 1 [] [] (by omega) (by omega) (by simp) (by simp) (.inl ⟨rfl,rfl⟩)
 rw[List.nil_append,raw_spots] at this
 exact this
end Go.Ev
end

section
open Go Go.Ev
namespace Go.Ev
noncomputable section
noncomputable def e_ref1_Spots:Run:=entG sg_ref1_Spots R_ref1_Spots (fun a=>k_ref1_Spots a.1) (fun a=>v_ref1_Spots a.1)
theorem ok_ref1_Spots:EntOK Go.Proofs.Tryz.prog 63 e_ref1_Spots:=entG_ok (tb:=tb_ref1_Spots) (c:=c_ref1_Spots) tk_ref1_Spots (by kernel_rfl) (by kernel_rfl) (by kernel_rfl) (fun a=>by kernel_rfl) fun ⟨s,_⟩ hk=>evF_goes (c:=c_ref1_Spots) (K:=fun v=>(R_ref1_Spots v,tps (toForms sg_ref1_Spots (s,())))) (S:=S_ref1_Spots s) (by kernel_rfl) (en_ref1_Spots s) (lp_ref1_Spots s) (g_ref1_Spots s hk)
end
end Go.Ev
end

section
open Go Go.Ev
namespace Go.Ev
noncomputable section
def sg_ref1_Regs:Sig:=[]
noncomputable def t_ref1_Regs:Tbl:=[]
theorem tk_ref1_Regs:∀p∈t_ref1_Regs,EntOK Go.Proofs.Tryz.prog p.1 p.2:=tbl_nil
noncomputable def c_ref1_Regs:Code:=Go.Proofs.Tryz.f97.body.getD .skip
def tb_ref1_Regs:Tb:=[]
def T_ref1_Regs:Empty→JT Empty (List ByteArray):=fun j=>nomatch j
def T0_ref1_Regs:JT Empty (List ByteArray):=.leaf ([(bs [114,97,120]),(bs [114,98,120]),(bs [114,99,120]),(bs [114,100,120]),(bs [114,115,105]),(bs [114,100,105]),(bs [114,56]),(bs [114,57])])
def v_ref1_Regs:List ByteArray:=([(bs [114,97,120]),(bs [114,98,120]),(bs [114,99,120]),(bs [114,100,120]),(bs [114,115,105]),(bs [114,100,105]),(bs [114,56]),(bs [114,57])])
theorem g_ref1_Regs:Goes (T_ref1_Regs) (T0_ref1_Regs) (v_ref1_Regs):=Goes.leaf
def R_ref1_Regs:List ByteArray→AV:=fun (r:List ByteArray)=>.rw 9 .str r
def S_ref1_Regs:Empty→Nat×St:=fun j=>nomatch j
theorem en_ref1_Regs (L:Lt):entryA Go.Proofs.Tryz.prog (clOf t_ref1_Regs) tb_ref1_Regs Go.Proofs.Tryz.f97 c_ref1_Regs L (toForms sg_ref1_Regs (()))=(T0_ref1_Regs).run (fun v=>some (R_ref1_Regs v,tps (toForms sg_ref1_Regs (())))) fun j=>L (S_ref1_Regs j).1 (S_ref1_Regs j).2:=by kernel_rfl
theorem lp_ref1_Regs:∀(L:Lt) (j:Empty),procOf (procsF Go.Proofs.Tryz.prog (clOf t_ref1_Regs) tb_ref1_Regs Go.Proofs.Tryz.f97 c_ref1_Regs (toForms sg_ref1_Regs (()))) (S_ref1_Regs j).1 L (S_ref1_Regs j).2=(T_ref1_Regs j).run (fun v=>some (R_ref1_Regs v,tps (toForms sg_ref1_Regs (())))) fun j=>L (S_ref1_Regs j).1 (S_ref1_Regs j).2:=fun L j=>nomatch j
noncomputable def e_ref1_Regs:Run:=entT sg_ref1_Regs R_ref1_Regs (fun a=>v_ref1_Regs)
theorem ok_ref1_Regs:EntOK Go.Proofs.Tryz.prog 97 e_ref1_Regs:=entT_ok (tb:=tb_ref1_Regs) (c:=c_ref1_Regs) tk_ref1_Regs (by kernel_rfl) (by kernel_rfl) (by kernel_rfl) (fun a=>by kernel_rfl) fun _=>evF_goes (c:=c_ref1_Regs) (K:=fun v=>(R_ref1_Regs v,tps (toForms sg_ref1_Regs (())))) (S:=S_ref1_Regs) (by kernel_rfl) (en_ref1_Regs) (lp_ref1_Regs) (g_ref1_Regs)
end
end Go.Ev
end

section
open Go Go.Ev
namespace Go.Ev
noncomputable section
def sg_ref1_index:Sig:=[(false,(.sl .str)),(false,.str)]
noncomputable def t_ref1_index:Tbl:=[]
theorem tk_ref1_index:∀p∈t_ref1_index,EntOK Go.Proofs.Tryz.prog p.1 p.2:=tbl_nil
noncomputable def c_ref1_index:Code:=Go.Proofs.Tryz.f68.body.getD .skip
def tb_ref1_index:Tb:=[(3,⟨[0,1,5],[]⟩)]
inductive J_ref1_index where | l3 (i:Int)
def T_ref1_index (l:List ByteArray) (s:ByteArray):J_ref1_index→JT J_ref1_index (Int) |.l3 i=>.br (decide (i < (Int.ofNat (List.length l)))) (.br ((decide ((0:Int)≤i))&&(decide (i < (Int.ofNat (List.length l))))) (.br (eqB (List.getD l (Int.toNat i) (dflt .str)) s) (.leaf i) (.jmp (.l3 (IntKind.i64.wrap (i+(1:Int)))))) (.no)) (.leaf (-1:Int))
def T0_ref1_index (l:List ByteArray) (s:ByteArray):JT J_ref1_index (Int):=.jmp (.l3 (0:Int))
def R_ref1_index:Int→AV:=fun (r:Int)=>.d (.int .i64) r
def S_ref1_index (l:List ByteArray) (s:ByteArray):J_ref1_index→Nat×St |.l3 i=>(3,⟨mkTm 19 [(0,.d (.sl .str) l),(1,.d .str s),(5,.d (.int .i64) i)],[]⟩)
theorem en_ref1_index (l:List ByteArray) (s:ByteArray) (L:Lt):entryA Go.Proofs.Tryz.prog (clOf t_ref1_index) tb_ref1_index Go.Proofs.Tryz.f68 c_ref1_index L (toForms sg_ref1_index (l,s,()))=(T0_ref1_index l s).run (fun v=>some (R_ref1_index v,tps (toForms sg_ref1_index (l,s,())))) fun j=>L (S_ref1_index l s j).1 (S_ref1_index l s j).2:=by kernel_rfl
theorem lp_ref1_index (l:List ByteArray) (s:ByteArray):∀(L:Lt) (j:J_ref1_index),procOf (procsF Go.Proofs.Tryz.prog (clOf t_ref1_index) tb_ref1_index Go.Proofs.Tryz.f68 c_ref1_index (toForms sg_ref1_index (l,s,()))) (S_ref1_index l s j).1 L (S_ref1_index l s j).2=(T_ref1_index l s j).run (fun v=>some (R_ref1_index v,tps (toForms sg_ref1_index (l,s,())))) fun j=>L (S_ref1_index l s j).1 (S_ref1_index l s j).2 | L,.l3 i=>by kernel_rfl
end
end Go.Ev
end

section
open Go
namespace Go.Ev
def v_ref1_index (l:List ByteArray) (s:ByteArray):Int:=match findFrom s l 0 with | some k=>(k:Int) | none=> -1
def k_ref1_index (l:List ByteArray) (s:ByteArray):Bool:=decide (l.length < 4611686018427387904)
theorem g_ref1_index (l:List ByteArray) (s:ByteArray) (hk:k_ref1_index l s=true):Goes (T_ref1_index l s) (T0_ref1_index l s) (v_ref1_index l s):=by
 have hn:l.length < 4611686018427387904:=of_decide_eq_true hk
 have loop:∀k,k≤l.length→Goes (T_ref1_index l s) (.jmp (.l3 (k:Int))) (match findFrom s (l.drop k) k with | some k=>(k:Int) | none=> -1):=by
  refine down ?_ fun k hk ih=>?_
  ·rw[goes_jmp]
   simp only[T_ref1_index,goes_br,lt_len_not (Nat.lt_irrefl _),goes_leaf,List.drop_length,findFrom]
   simp
  ·rw[goes_jmp]
   simp only[T_ref1_index,goes_br,lt_len hk,nng,Bool.and_self,if_true,Int.toNat_natCast,getD_lt hk,wrap_succ (k:=k) (by omega),eqB_iff]
   rw[drop_cons hk]
   simp only[findFrom]
   split
   ·simp[goes_leaf]
   ·exact ih
 unfold T0_ref1_index v_ref1_index
 simpa using loop 0 (Nat.zero_le _)
end Go.Ev
end

section
open Go Go.Ev
namespace Go.Ev
noncomputable section
noncomputable def e_ref1_index:Run:=entG sg_ref1_index R_ref1_index (fun a=>k_ref1_index a.1 a.2.1) (fun a=>v_ref1_index a.1 a.2.1)
theorem ok_ref1_index:EntOK Go.Proofs.Tryz.prog 68 e_ref1_index:=entG_ok (tb:=tb_ref1_index) (c:=c_ref1_index) tk_ref1_index (by kernel_rfl) (by kernel_rfl) (by kernel_rfl) (fun a=>by kernel_rfl) fun ⟨l,s,_⟩ hk=>evF_goes (c:=c_ref1_index) (K:=fun v=>(R_ref1_index v,tps (toForms sg_ref1_index (l,s,())))) (S:=S_ref1_index l s) (by kernel_rfl) (en_ref1_index l s) (lp_ref1_index l s) (g_ref1_index l s hk)
end
end Go.Ev
end

section
open Go Go.Ev
namespace Go.Ev
noncomputable section
def sg_ref1_ops:Sig:=[]
noncomputable def t_ref1_ops:Tbl:=[]
theorem tk_ref1_ops:∀p∈t_ref1_ops,EntOK Go.Proofs.Tryz.prog p.1 p.2:=tbl_nil
noncomputable def c_ref1_ops:Code:=Go.Proofs.Tryz.f98.body.getD .skip
def tb_ref1_ops:Tb:=[]
def T_ref1_ops:Empty→JT Empty (List ByteArray):=fun j=>nomatch j
def T0_ref1_ops:JT Empty (List ByteArray):=.leaf ([(bs []),(bs [109,111,118]),(bs [97,100,100]),(bs [115,117,98]),(bs [97,110,100]),(bs [111,114]),(bs [120,111,114]),(bs [99,109,112]),(bs [120,99,104,103]),(bs [99,109,112,120,99,104,103]),(bs [106,109,112]),(bs []),(bs [109,102,101,110,99,101]),(bs [110,111,112]),(bs [104,108,116])])
def v_ref1_ops:List ByteArray:=([(bs []),(bs [109,111,118]),(bs [97,100,100]),(bs [115,117,98]),(bs [97,110,100]),(bs [111,114]),(bs [120,111,114]),(bs [99,109,112]),(bs [120,99,104,103]),(bs [99,109,112,120,99,104,103]),(bs [106,109,112]),(bs []),(bs [109,102,101,110,99,101]),(bs [110,111,112]),(bs [104,108,116])])
theorem g_ref1_ops:Goes (T_ref1_ops) (T0_ref1_ops) (v_ref1_ops):=Goes.leaf
def R_ref1_ops:List ByteArray→AV:=fun (r:List ByteArray)=>.rw 9 .str r
def S_ref1_ops:Empty→Nat×St:=fun j=>nomatch j
theorem en_ref1_ops (L:Lt):entryA Go.Proofs.Tryz.prog (clOf t_ref1_ops) tb_ref1_ops Go.Proofs.Tryz.f98 c_ref1_ops L (toForms sg_ref1_ops (()))=(T0_ref1_ops).run (fun v=>some (R_ref1_ops v,tps (toForms sg_ref1_ops (())))) fun j=>L (S_ref1_ops j).1 (S_ref1_ops j).2:=by kernel_rfl
theorem lp_ref1_ops:∀(L:Lt) (j:Empty),procOf (procsF Go.Proofs.Tryz.prog (clOf t_ref1_ops) tb_ref1_ops Go.Proofs.Tryz.f98 c_ref1_ops (toForms sg_ref1_ops (()))) (S_ref1_ops j).1 L (S_ref1_ops j).2=(T_ref1_ops j).run (fun v=>some (R_ref1_ops v,tps (toForms sg_ref1_ops (())))) fun j=>L (S_ref1_ops j).1 (S_ref1_ops j).2:=fun L j=>nomatch j
noncomputable def e_ref1_ops:Run:=entT sg_ref1_ops R_ref1_ops (fun a=>v_ref1_ops)
theorem ok_ref1_ops:EntOK Go.Proofs.Tryz.prog 98 e_ref1_ops:=entT_ok (tb:=tb_ref1_ops) (c:=c_ref1_ops) tk_ref1_ops (by kernel_rfl) (by kernel_rfl) (by kernel_rfl) (fun a=>by kernel_rfl) fun _=>evF_goes (c:=c_ref1_ops) (K:=fun v=>(R_ref1_ops v,tps (toForms sg_ref1_ops (())))) (S:=S_ref1_ops) (by kernel_rfl) (en_ref1_ops) (lp_ref1_ops) (g_ref1_ops)
end
end Go.Ev
end

section
open Go Go.Ev
namespace Go.Ev
noncomputable section
def sg_ref1_conds:Sig:=[]
noncomputable def t_ref1_conds:Tbl:=[]
theorem tk_ref1_conds:∀p∈t_ref1_conds,EntOK Go.Proofs.Tryz.prog p.1 p.2:=tbl_nil
noncomputable def c_ref1_conds:Code:=Go.Proofs.Tryz.f99.body.getD .skip
def tb_ref1_conds:Tb:=[]
def T_ref1_conds:Empty→JT Empty (List ByteArray):=fun j=>nomatch j
def T0_ref1_conds:JT Empty (List ByteArray):=.leaf ([(bs []),(bs [106,101]),(bs [106,110,101]),(bs [106,108]),(bs [106,108,101]),(bs [106,103]),(bs [106,103,101]),(bs [106,98]),(bs [106,98,101]),(bs [106,97]),(bs [106,97,101])])
def v_ref1_conds:List ByteArray:=([(bs []),(bs [106,101]),(bs [106,110,101]),(bs [106,108]),(bs [106,108,101]),(bs [106,103]),(bs [106,103,101]),(bs [106,98]),(bs [106,98,101]),(bs [106,97]),(bs [106,97,101])])
theorem g_ref1_conds:Goes (T_ref1_conds) (T0_ref1_conds) (v_ref1_conds):=Goes.leaf
def R_ref1_conds:List ByteArray→AV:=fun (r:List ByteArray)=>.rw 9 .str r
def S_ref1_conds:Empty→Nat×St:=fun j=>nomatch j
theorem en_ref1_conds (L:Lt):entryA Go.Proofs.Tryz.prog (clOf t_ref1_conds) tb_ref1_conds Go.Proofs.Tryz.f99 c_ref1_conds L (toForms sg_ref1_conds (()))=(T0_ref1_conds).run (fun v=>some (R_ref1_conds v,tps (toForms sg_ref1_conds (())))) fun j=>L (S_ref1_conds j).1 (S_ref1_conds j).2:=by kernel_rfl
theorem lp_ref1_conds:∀(L:Lt) (j:Empty),procOf (procsF Go.Proofs.Tryz.prog (clOf t_ref1_conds) tb_ref1_conds Go.Proofs.Tryz.f99 c_ref1_conds (toForms sg_ref1_conds (()))) (S_ref1_conds j).1 L (S_ref1_conds j).2=(T_ref1_conds j).run (fun v=>some (R_ref1_conds v,tps (toForms sg_ref1_conds (())))) fun j=>L (S_ref1_conds j).1 (S_ref1_conds j).2:=fun L j=>nomatch j
noncomputable def e_ref1_conds:Run:=entT sg_ref1_conds R_ref1_conds (fun a=>v_ref1_conds)
theorem ok_ref1_conds:EntOK Go.Proofs.Tryz.prog 99 e_ref1_conds:=entT_ok (tb:=tb_ref1_conds) (c:=c_ref1_conds) tk_ref1_conds (by kernel_rfl) (by kernel_rfl) (by kernel_rfl) (fun a=>by kernel_rfl) fun _=>evF_goes (c:=c_ref1_conds) (K:=fun v=>(R_ref1_conds v,tps (toForms sg_ref1_conds (())))) (S:=S_ref1_conds) (by kernel_rfl) (en_ref1_conds) (lp_ref1_conds) (g_ref1_conds)
end
end Go.Ev
end

section
open Go Go.Ev
namespace Go.Ev
noncomputable section
def sg_ref1_Word:Sig:=[(false,.str)]
noncomputable def t_ref1_Word:Tbl:=[(97,e_ref1_Regs),(68,e_ref1_index),(98,e_ref1_ops),(99,e_ref1_conds)]
theorem tk_ref1_Word:∀p∈t_ref1_Word,EntOK Go.Proofs.Tryz.prog p.1 p.2:=tbl_cons ok_ref1_Regs (tbl_cons ok_ref1_index (tbl_cons ok_ref1_ops (tbl_cons ok_ref1_conds (tbl_nil))))
noncomputable def c_ref1_Word:Code:=Go.Proofs.Tryz.f64.body.getD .skip
def tb_ref1_Word:Tb:=[]
def T_ref1_Word (s:ByteArray):Empty→JT Empty (Bool):=fun j=>nomatch j
def T0_ref1_Word (s:ByteArray):JT Empty (Bool):=.br (! (eqB s (bs []))) (.br (eqB s (bs [115,121,109])) (.leaf true) (.br (eqB s (bs [116,104,114,101,97,100])) (.leaf true) (.br (eqB s (bs [108,111,99,107])) (.leaf true) (.br (k_ref1_index v_ref1_Regs s) (.br (decide ((v_ref1_index v_ref1_Regs s)≥(0:Int))) (.leaf true) (.br (k_ref1_index v_ref1_ops s) (.br (decide ((v_ref1_index v_ref1_ops s) > (0:Int))) (.leaf true) (.br (k_ref1_index v_ref1_conds s) (.leaf (decide ((v_ref1_index v_ref1_conds s) > (0:Int)))) (.no))) (.no))) (.no))))) (.leaf false)
def u_ref1_Word (s:ByteArray):Bool:=bif (! (eqB s (bs []))) then bif (eqB s (bs [115,121,109])) then true else bif (eqB s (bs [116,104,114,101,97,100])) then true else bif (eqB s (bs [108,111,99,107])) then true else bif (k_ref1_index v_ref1_Regs s) then bif (decide ((v_ref1_index v_ref1_Regs s)≥(0:Int))) then true else bif (k_ref1_index v_ref1_ops s) then bif (decide ((v_ref1_index v_ref1_ops s) > (0:Int))) then true else bif (k_ref1_index v_ref1_conds s) then (decide ((v_ref1_index v_ref1_conds s) > (0:Int))) else false else false else false else false
def ku_ref1_Word (s:ByteArray):Bool:=bif (! (eqB s (bs []))) then bif (eqB s (bs [115,121,109])) then true else bif (eqB s (bs [116,104,114,101,97,100])) then true else bif (eqB s (bs [108,111,99,107])) then true else bif (k_ref1_index v_ref1_Regs s) then bif (decide ((v_ref1_index v_ref1_Regs s)≥(0:Int))) then true else bif (k_ref1_index v_ref1_ops s) then bif (decide ((v_ref1_index v_ref1_ops s) > (0:Int))) then true else bif (k_ref1_index v_ref1_conds s) then true else false else false else false else true
theorem gu_ref1_Word (s:ByteArray) (hk:ku_ref1_Word s=true):Goes (T_ref1_Word s) (T0_ref1_Word s) (u_ref1_Word s):=Goes.brk hk (fun hk=>Goes.brk hk (fun hk=>Goes.leaf) (fun hk=>Goes.brk hk (fun hk=>Goes.leaf) (fun hk=>Goes.brk hk (fun hk=>Goes.leaf) (fun hk=>Goes.brk hk (fun hk=>Goes.brk hk (fun hk=>Goes.leaf) (fun hk=>Goes.brk hk (fun hk=>Goes.brk hk (fun hk=>Goes.leaf) (fun hk=>Goes.brk hk (fun hk=>Goes.leaf) (fun hk=>Goes.nok hk))) (fun hk=>Goes.nok hk))) (fun hk=>Goes.nok hk))))) (fun hk=>Goes.leaf)
def R_ref1_Word:Bool→AV:=fun (r:Bool)=>.d .bool r
def S_ref1_Word (s:ByteArray):Empty→Nat×St:=fun j=>nomatch j
theorem en_ref1_Word (s:ByteArray) (L:Lt):entryA Go.Proofs.Tryz.prog (clOf t_ref1_Word) tb_ref1_Word Go.Proofs.Tryz.f64 c_ref1_Word L (toForms sg_ref1_Word (s,()))=(T0_ref1_Word s).run (fun v=>some (R_ref1_Word v,tps (toForms sg_ref1_Word (s,())))) fun j=>L (S_ref1_Word s j).1 (S_ref1_Word s j).2:=by kernel_rfl
theorem lp_ref1_Word (s:ByteArray):∀(L:Lt) (j:Empty),procOf (procsF Go.Proofs.Tryz.prog (clOf t_ref1_Word) tb_ref1_Word Go.Proofs.Tryz.f64 c_ref1_Word (toForms sg_ref1_Word (s,()))) (S_ref1_Word s j).1 L (S_ref1_Word s j).2=(T_ref1_Word s j).run (fun v=>some (R_ref1_Word v,tps (toForms sg_ref1_Word (s,())))) fun j=>L (S_ref1_Word s j).1 (S_ref1_Word s j).2:=fun L j=>nomatch j
end
end Go.Ev
end

section
open Go Go.Ev
namespace Go.Ev
noncomputable section
def sg_names_regs:Sig:=[]
noncomputable def t_names_regs:Tbl:=[]
theorem tk_names_regs:∀p∈t_names_regs,EntOK Go.Proofs.Tryz.prog p.1 p.2:=tbl_nil
noncomputable def c_names_regs:Code:=Go.Proofs.Tryz.f146.body.getD .skip
def tb_names_regs:Tb:=[]
def T_names_regs:Empty→JT Empty (List ByteArray):=fun j=>nomatch j
def T0_names_regs:JT Empty (List ByteArray):=.leaf ([(bs [114,97,120]),(bs [114,98,120]),(bs [114,99,120]),(bs [114,100,120]),(bs [114,115,105]),(bs [114,100,105]),(bs [114,56]),(bs [114,57])])
def v_names_regs:List ByteArray:=([(bs [114,97,120]),(bs [114,98,120]),(bs [114,99,120]),(bs [114,100,120]),(bs [114,115,105]),(bs [114,100,105]),(bs [114,56]),(bs [114,57])])
theorem g_names_regs:Goes (T_names_regs) (T0_names_regs) (v_names_regs):=Goes.leaf
def R_names_regs:List ByteArray→AV:=fun (r:List ByteArray)=>.rw 9 .str r
def S_names_regs:Empty→Nat×St:=fun j=>nomatch j
theorem en_names_regs (L:Lt):entryA Go.Proofs.Tryz.prog (clOf t_names_regs) tb_names_regs Go.Proofs.Tryz.f146 c_names_regs L (toForms sg_names_regs (()))=(T0_names_regs).run (fun v=>some (R_names_regs v,tps (toForms sg_names_regs (())))) fun j=>L (S_names_regs j).1 (S_names_regs j).2:=by kernel_rfl
theorem lp_names_regs:∀(L:Lt) (j:Empty),procOf (procsF Go.Proofs.Tryz.prog (clOf t_names_regs) tb_names_regs Go.Proofs.Tryz.f146 c_names_regs (toForms sg_names_regs (()))) (S_names_regs j).1 L (S_names_regs j).2=(T_names_regs j).run (fun v=>some (R_names_regs v,tps (toForms sg_names_regs (())))) fun j=>L (S_names_regs j).1 (S_names_regs j).2:=fun L j=>nomatch j
noncomputable def e_names_regs:Run:=entT sg_names_regs R_names_regs (fun a=>v_names_regs)
theorem ok_names_regs:EntOK Go.Proofs.Tryz.prog 146 e_names_regs:=entT_ok (tb:=tb_names_regs) (c:=c_names_regs) tk_names_regs (by kernel_rfl) (by kernel_rfl) (by kernel_rfl) (fun a=>by kernel_rfl) fun _=>evF_goes (c:=c_names_regs) (K:=fun v=>(R_names_regs v,tps (toForms sg_names_regs (())))) (S:=S_names_regs) (by kernel_rfl) (en_names_regs) (lp_names_regs) (g_names_regs)
end
end Go.Ev
end

section
open Go Go.Ev
namespace Go.Ev
noncomputable section
def sg_names_Reg:Sig:=[(false,.str)]
noncomputable def t_names_Reg:Tbl:=[(146,e_names_regs)]
theorem tk_names_Reg:∀p∈t_names_Reg,EntOK Go.Proofs.Tryz.prog p.1 p.2:=tbl_cons ok_names_regs (tbl_nil)
noncomputable def c_names_Reg:Code:=Go.Proofs.Tryz.f135.body.getD .skip
def tb_names_Reg:Tb:=[(3,⟨[0,6,7,8],[]⟩)]
inductive J_names_Reg where | l3 (h:Int)
def T_names_Reg (s:ByteArray):J_names_Reg→JT J_names_Reg (Int×Bool) |.l3 h=>.br (decide (h < (Int.ofNat (List.length v_names_regs)))) (.br ((decide ((0:Int)≤h))&&(decide (h < (Int.ofNat (List.length v_names_regs))))) (.br (eqB (List.getD v_names_regs (Int.toNat h) (dflt .str)) s) (.leaf (h,true)) (.jmp (.l3 (IntKind.i64.wrap (h+(1:Int)))))) (.no)) (.leaf ((0:Int),false))
def T0_names_Reg (s:ByteArray):JT J_names_Reg (Int×Bool):=.jmp (.l3 (0:Int))
def R_names_Reg:Int×Bool→AV:=fun (r:Int×Bool)=>.tu [.d (.int .i64) r.1,.d .bool r.2]
def S_names_Reg (s:ByteArray):J_names_Reg→Nat×St |.l3 h=>(3,⟨mkTm 18 [(0,.d .str s),(6,.own 7 0 none),(7,.d (.int .i64) (Int.ofNat (List.length v_names_regs))),(8,.d (.int .i64) h)],[(7,0,.row 9 .str v_names_regs false)]⟩)
theorem en_names_Reg (s:ByteArray) (L:Lt):entryA Go.Proofs.Tryz.prog (clOf t_names_Reg) tb_names_Reg Go.Proofs.Tryz.f135 c_names_Reg L (toForms sg_names_Reg (s,()))=(T0_names_Reg s).run (fun v=>some (R_names_Reg v,tps (toForms sg_names_Reg (s,())))) fun j=>L (S_names_Reg s j).1 (S_names_Reg s j).2:=by kernel_rfl
theorem lp_names_Reg (s:ByteArray):∀(L:Lt) (j:J_names_Reg),procOf (procsF Go.Proofs.Tryz.prog (clOf t_names_Reg) tb_names_Reg Go.Proofs.Tryz.f135 c_names_Reg (toForms sg_names_Reg (s,()))) (S_names_Reg s j).1 L (S_names_Reg s j).2=(T_names_Reg s j).run (fun v=>some (R_names_Reg v,tps (toForms sg_names_Reg (s,())))) fun j=>L (S_names_Reg s j).1 (S_names_Reg s j).2 | L,.l3 h=>by kernel_rfl
end
end Go.Ev
end

section
open Go
namespace Go.Ev
def v_names_Reg (s:ByteArray):Int×Bool:=match findFrom s v_names_regs 0 with | some k=>((k:Int),true) | none=>(0,false)
theorem g_names_Reg (s:ByteArray):Goes (T_names_Reg s) (T0_names_Reg s) (v_names_Reg s):=by
 have hn:v_names_regs.length=8:=rfl
 have loop:∀k,k≤v_names_regs.length→Goes (T_names_Reg s) (.jmp (.l3 (k:Int))) (match findFrom s (v_names_regs.drop k) k with | some k=>((k:Int),true) | none=>(0,false)):=by
  refine down ?_ fun k hk ih=>?_
  ·rw[goes_jmp]
   simp only[T_names_Reg,goes_br,lt_len_not (Nat.lt_irrefl _),goes_leaf,List.drop_length,findFrom]
   simp
  ·rw[goes_jmp]
   simp only[T_names_Reg,goes_br,lt_len hk,nng,Bool.and_self,if_true,Int.toNat_natCast,getD_lt hk,wrap_succ (k:=k) (by omega),eqB_iff]
   rw[drop_cons hk]
   simp only[findFrom]
   split
   ·simp[goes_leaf]
   ·exact ih
 unfold T0_names_Reg v_names_Reg
 simpa using loop 0 (Nat.zero_le _)
end Go.Ev
end

section
open Go Go.Ev
namespace Go.Ev
noncomputable section
noncomputable def e_names_Reg:Run:=entT sg_names_Reg R_names_Reg (fun a=>v_names_Reg a.1)
theorem ok_names_Reg:EntOK Go.Proofs.Tryz.prog 135 e_names_Reg:=entT_ok (tb:=tb_names_Reg) (c:=c_names_Reg) tk_names_Reg (by kernel_rfl) (by kernel_rfl) (by kernel_rfl) (fun a=>by kernel_rfl) fun ⟨s,_⟩=>evF_goes (c:=c_names_Reg) (K:=fun v=>(R_names_Reg v,tps (toForms sg_names_Reg (s,())))) (S:=S_names_Reg s) (by kernel_rfl) (en_names_Reg s) (lp_names_Reg s) (g_names_Reg s)
end
end Go.Ev
end

section
open Go Go.Ev
namespace Go.Ev
noncomputable section
def sg_names_ops:Sig:=[]
noncomputable def t_names_ops:Tbl:=[]
theorem tk_names_ops:∀p∈t_names_ops,EntOK Go.Proofs.Tryz.prog p.1 p.2:=tbl_nil
noncomputable def c_names_ops:Code:=Go.Proofs.Tryz.f147.body.getD .skip
def tb_names_ops:Tb:=[]
def T_names_ops:Empty→JT Empty (List ByteArray):=fun j=>nomatch j
def T0_names_ops:JT Empty (List ByteArray):=.leaf ([(bs [109,111,118]),(bs [97,100,100]),(bs [115,117,98]),(bs [97,110,100]),(bs [111,114]),(bs [120,111,114]),(bs [99,109,112]),(bs [120,99,104,103]),(bs [99,109,112,120,99,104,103]),(bs [106,109,112]),(bs []),(bs [109,102,101,110,99,101]),(bs [110,111,112]),(bs [104,108,116])])
def v_names_ops:List ByteArray:=([(bs [109,111,118]),(bs [97,100,100]),(bs [115,117,98]),(bs [97,110,100]),(bs [111,114]),(bs [120,111,114]),(bs [99,109,112]),(bs [120,99,104,103]),(bs [99,109,112,120,99,104,103]),(bs [106,109,112]),(bs []),(bs [109,102,101,110,99,101]),(bs [110,111,112]),(bs [104,108,116])])
theorem g_names_ops:Goes (T_names_ops) (T0_names_ops) (v_names_ops):=Goes.leaf
def R_names_ops:List ByteArray→AV:=fun (r:List ByteArray)=>.rw 9 .str r
def S_names_ops:Empty→Nat×St:=fun j=>nomatch j
theorem en_names_ops (L:Lt):entryA Go.Proofs.Tryz.prog (clOf t_names_ops) tb_names_ops Go.Proofs.Tryz.f147 c_names_ops L (toForms sg_names_ops (()))=(T0_names_ops).run (fun v=>some (R_names_ops v,tps (toForms sg_names_ops (())))) fun j=>L (S_names_ops j).1 (S_names_ops j).2:=by kernel_rfl
theorem lp_names_ops:∀(L:Lt) (j:Empty),procOf (procsF Go.Proofs.Tryz.prog (clOf t_names_ops) tb_names_ops Go.Proofs.Tryz.f147 c_names_ops (toForms sg_names_ops (()))) (S_names_ops j).1 L (S_names_ops j).2=(T_names_ops j).run (fun v=>some (R_names_ops v,tps (toForms sg_names_ops (())))) fun j=>L (S_names_ops j).1 (S_names_ops j).2:=fun L j=>nomatch j
noncomputable def e_names_ops:Run:=entT sg_names_ops R_names_ops (fun a=>v_names_ops)
theorem ok_names_ops:EntOK Go.Proofs.Tryz.prog 147 e_names_ops:=entT_ok (tb:=tb_names_ops) (c:=c_names_ops) tk_names_ops (by kernel_rfl) (by kernel_rfl) (by kernel_rfl) (fun a=>by kernel_rfl) fun _=>evF_goes (c:=c_names_ops) (K:=fun v=>(R_names_ops v,tps (toForms sg_names_ops (())))) (S:=S_names_ops) (by kernel_rfl) (en_names_ops) (lp_names_ops) (g_names_ops)
end
end Go.Ev
end

section
open Go Go.Ev
namespace Go.Ev
noncomputable section
def sg_names_jumps:Sig:=[]
noncomputable def t_names_jumps:Tbl:=[]
theorem tk_names_jumps:∀p∈t_names_jumps,EntOK Go.Proofs.Tryz.prog p.1 p.2:=tbl_nil
noncomputable def c_names_jumps:Code:=Go.Proofs.Tryz.f148.body.getD .skip
def tb_names_jumps:Tb:=[]
def T_names_jumps:Empty→JT Empty (List ByteArray):=fun j=>nomatch j
def T0_names_jumps:JT Empty (List ByteArray):=.leaf ([(bs [106,101]),(bs [106,110,101]),(bs [106,108]),(bs [106,108,101]),(bs [106,103]),(bs [106,103,101]),(bs [106,98]),(bs [106,98,101]),(bs [106,97]),(bs [106,97,101])])
def v_names_jumps:List ByteArray:=([(bs [106,101]),(bs [106,110,101]),(bs [106,108]),(bs [106,108,101]),(bs [106,103]),(bs [106,103,101]),(bs [106,98]),(bs [106,98,101]),(bs [106,97]),(bs [106,97,101])])
theorem g_names_jumps:Goes (T_names_jumps) (T0_names_jumps) (v_names_jumps):=Goes.leaf
def R_names_jumps:List ByteArray→AV:=fun (r:List ByteArray)=>.rw 9 .str r
def S_names_jumps:Empty→Nat×St:=fun j=>nomatch j
theorem en_names_jumps (L:Lt):entryA Go.Proofs.Tryz.prog (clOf t_names_jumps) tb_names_jumps Go.Proofs.Tryz.f148 c_names_jumps L (toForms sg_names_jumps (()))=(T0_names_jumps).run (fun v=>some (R_names_jumps v,tps (toForms sg_names_jumps (())))) fun j=>L (S_names_jumps j).1 (S_names_jumps j).2:=by kernel_rfl
theorem lp_names_jumps:∀(L:Lt) (j:Empty),procOf (procsF Go.Proofs.Tryz.prog (clOf t_names_jumps) tb_names_jumps Go.Proofs.Tryz.f148 c_names_jumps (toForms sg_names_jumps (()))) (S_names_jumps j).1 L (S_names_jumps j).2=(T_names_jumps j).run (fun v=>some (R_names_jumps v,tps (toForms sg_names_jumps (())))) fun j=>L (S_names_jumps j).1 (S_names_jumps j).2:=fun L j=>nomatch j
noncomputable def e_names_jumps:Run:=entT sg_names_jumps R_names_jumps (fun a=>v_names_jumps)
theorem ok_names_jumps:EntOK Go.Proofs.Tryz.prog 148 e_names_jumps:=entT_ok (tb:=tb_names_jumps) (c:=c_names_jumps) tk_names_jumps (by kernel_rfl) (by kernel_rfl) (by kernel_rfl) (fun a=>by kernel_rfl) fun _=>evF_goes (c:=c_names_jumps) (K:=fun v=>(R_names_jumps v,tps (toForms sg_names_jumps (())))) (S:=S_names_jumps) (by kernel_rfl) (en_names_jumps) (lp_names_jumps) (g_names_jumps)
end
end Go.Ev
end

section
open Go Go.Ev
namespace Go.Ev
noncomputable section
def sg_names_Op:Sig:=[(false,.str)]
noncomputable def t_names_Op:Tbl:=[(147,e_names_ops),(148,e_names_jumps)]
theorem tk_names_Op:∀p∈t_names_Op,EntOK Go.Proofs.Tryz.prog p.1 p.2:=tbl_cons ok_names_ops (tbl_cons ok_names_jumps (tbl_nil))
noncomputable def c_names_Op:Code:=Go.Proofs.Tryz.f136.body.getD .skip
def tb_names_Op:Tb:=[(6,⟨[0,11,12,13],[]⟩),(15,⟨[0,24,25,26],[]⟩)]
inductive J_names_Op where | l6 (h:Int) | l15 (h:Int)
def T_names_Op (s:ByteArray):J_names_Op→JT J_names_Op (Int×Int×Bool) |.l6 h=>.br (decide (h < (Int.ofNat (List.length v_names_ops)))) (.br ((decide ((0:Int)≤h))&&(decide (h < (Int.ofNat (List.length v_names_ops))))) (.br (eqB (List.getD v_names_ops (Int.toNat h) (dflt .str)) s) (.leaf ((IntKind.i64.wrap (h+(1:Int))),((0:Int),true))) (.jmp (.l6 (IntKind.i64.wrap (h+(1:Int)))))) (.no)) (.jmp (.l15 (0:Int))) |.l15 h=>.br (decide (h < (Int.ofNat (List.length v_names_jumps)))) (.br ((decide ((0:Int)≤h))&&(decide (h < (Int.ofNat (List.length v_names_jumps))))) (.br (eqB (List.getD v_names_jumps (Int.toNat h) (dflt .str)) s) (.leaf ((11:Int),((IntKind.i64.wrap (h+(1:Int))),true))) (.jmp (.l15 (IntKind.i64.wrap (h+(1:Int)))))) (.no)) (.leaf ((0:Int),((0:Int),false)))
def T0_names_Op (s:ByteArray):JT J_names_Op (Int×Int×Bool):=.br (eqB s (bs [])) (.leaf ((0:Int),((0:Int),false))) (.jmp (.l6 (0:Int)))
def R_names_Op:Int×Int×Bool→AV:=fun (r:Int×Int×Bool)=>.tu [.d (.int .i64) r.1,.d (.int .i64) r.2.1,.d .bool r.2.2]
def S_names_Op (s:ByteArray):J_names_Op→Nat×St |.l6 h=>(6,⟨mkTm 37 [(0,.d .str s),(11,.own 12 0 none),(12,.d (.int .i64) (Int.ofNat (List.length v_names_ops))),(13,.d (.int .i64) h)],[(12,0,.row 9 .str v_names_ops false)]⟩) |.l15 h=>(15,⟨mkTm 37 [(0,.d .str s),(24,.own 25 0 none),(25,.d (.int .i64) (Int.ofNat (List.length v_names_jumps))),(26,.d (.int .i64) h)],[(25,0,.row 9 .str v_names_jumps false)]⟩)
theorem en_names_Op (s:ByteArray) (L:Lt):entryA Go.Proofs.Tryz.prog (clOf t_names_Op) tb_names_Op Go.Proofs.Tryz.f136 c_names_Op L (toForms sg_names_Op (s,()))=(T0_names_Op s).run (fun v=>some (R_names_Op v,tps (toForms sg_names_Op (s,())))) fun j=>L (S_names_Op s j).1 (S_names_Op s j).2:=by kernel_rfl
theorem lp_names_Op (s:ByteArray):∀(L:Lt) (j:J_names_Op),procOf (procsF Go.Proofs.Tryz.prog (clOf t_names_Op) tb_names_Op Go.Proofs.Tryz.f136 c_names_Op (toForms sg_names_Op (s,()))) (S_names_Op s j).1 L (S_names_Op s j).2=(T_names_Op s j).run (fun v=>some (R_names_Op v,tps (toForms sg_names_Op (s,())))) fun j=>L (S_names_Op s j).1 (S_names_Op s j).2 | L,.l6 h=>by kernel_rfl | L,.l15 h=>by kernel_rfl
end
end Go.Ev
end

section
open Go
namespace Go.Ev
def v_names_Op (s:ByteArray):Int×Int×Bool:=
 if s=bs [] then (0,0,false) else
 match findFrom s v_names_ops 0 with
 | some k=>(((k+1:Nat):Int),0,true)
 | none=>match findFrom s v_names_jumps 0 with
  | some k=>(11,((k+1:Nat):Int),true)
  | none=>(0,0,false)
theorem g_names_Op (s:ByteArray):Goes (T_names_Op s) (T0_names_Op s) (v_names_Op s):=by
 have hn:v_names_ops.length=14:=rfl
 have hm:v_names_jumps.length=10:=rfl
 have loop2:∀k,k≤v_names_jumps.length→Goes (T_names_Op s) (.jmp (.l15 (k:Int))) (match findFrom s (v_names_jumps.drop k) k with | some k=>(11,((k+1:Nat):Int),true) | none=>(0,0,false)):=by
  refine down ?_ fun k hk ih=>?_
  ·rw[goes_jmp]
   simp only[T_names_Op,goes_br,lt_len_not (Nat.lt_irrefl _),goes_leaf,List.drop_length,findFrom]
   simp
  ·rw[goes_jmp]
   simp only[T_names_Op,goes_br,lt_len hk,nng,Bool.and_self,if_true,Int.toNat_natCast,getD_lt hk,wrap_succ (k:=k) (by omega),eqB_iff]
   rw[drop_cons hk]
   simp only[findFrom]
   split
   ·simp[goes_leaf]
   ·exact ih
 have loop1:∀k,k≤v_names_ops.length→Goes (T_names_Op s) (.jmp (.l6 (k:Int))) (match findFrom s (v_names_ops.drop k) k with | some k=>(((k+1:Nat):Int),0,true) | none=>match findFrom s v_names_jumps 0 with
  | some k=>(11,((k+1:Nat):Int),true)
  | none=>(0,0,false)):=by
  refine down ?_ fun k hk ih=>?_
  ·rw[goes_jmp]
   simp only[T_names_Op,goes_br,lt_len_not (Nat.lt_irrefl _),List.drop_length,findFrom]
   simpa using loop2 0 (Nat.zero_le _)
  ·rw[goes_jmp]
   simp only[T_names_Op,goes_br,lt_len hk,nng,Bool.and_self,if_true,Int.toNat_natCast,getD_lt hk,wrap_succ (k:=k) (by omega),eqB_iff]
   rw[drop_cons hk]
   simp only[findFrom]
   split
   ·simp[goes_leaf]
   ·exact ih
 unfold T0_names_Op v_names_Op
 simp only[goes_br,eqB_iff]
 split
 ·simp[goes_leaf]
 ·simpa using loop1 0 (Nat.zero_le _)
end Go.Ev
end

section
open Go Go.Ev
namespace Go.Ev
noncomputable section
noncomputable def e_names_Op:Run:=entT sg_names_Op R_names_Op (fun a=>v_names_Op a.1)
theorem ok_names_Op:EntOK Go.Proofs.Tryz.prog 136 e_names_Op:=entT_ok (tb:=tb_names_Op) (c:=c_names_Op) tk_names_Op (by kernel_rfl) (by kernel_rfl) (by kernel_rfl) (fun a=>by kernel_rfl) fun ⟨s,_⟩=>evF_goes (c:=c_names_Op) (K:=fun v=>(R_names_Op v,tps (toForms sg_names_Op (s,())))) (S:=S_names_Op s) (by kernel_rfl) (en_names_Op s) (lp_names_Op s) (g_names_Op s)
end
end Go.Ev
end

section
open Go Go.Ev
namespace Go.Ev
noncomputable section
def sg_names_Word:Sig:=[(false,.str)]
noncomputable def t_names_Word:Tbl:=[(135,e_names_Reg),(136,e_names_Op)]
theorem tk_names_Word:∀p∈t_names_Word,EntOK Go.Proofs.Tryz.prog p.1 p.2:=tbl_cons ok_names_Reg (tbl_cons ok_names_Op (tbl_nil))
noncomputable def c_names_Word:Code:=Go.Proofs.Tryz.f108.body.getD .skip
def tb_names_Word:Tb:=[]
def T_names_Word (s:ByteArray):Empty→JT Empty (Bool):=fun j=>nomatch j
def T0_names_Word (s:ByteArray):JT Empty (Bool):=.br (eqB s (bs [115,121,109])) (.leaf true) (.br (eqB s (bs [116,104,114,101,97,100])) (.leaf true) (.br (eqB s (bs [108,111,99,107])) (.leaf true) (.br (v_names_Reg s).2 (.leaf true) (.leaf (v_names_Op s).2.2))))
def v_names_Word (s:ByteArray):Bool:=bif (eqB s (bs [115,121,109])) then true else bif (eqB s (bs [116,104,114,101,97,100])) then true else bif (eqB s (bs [108,111,99,107])) then true else bif (v_names_Reg s).2 then true else (v_names_Op s).2.2
theorem g_names_Word (s:ByteArray):Goes (T_names_Word s) (T0_names_Word s) (v_names_Word s):=Goes.br (Goes.leaf) (Goes.br (Goes.leaf) (Goes.br (Goes.leaf) (Goes.br (Goes.leaf) (Goes.leaf))))
def R_names_Word:Bool→AV:=fun (r:Bool)=>.d .bool r
def S_names_Word (s:ByteArray):Empty→Nat×St:=fun j=>nomatch j
theorem en_names_Word (s:ByteArray) (L:Lt):entryA Go.Proofs.Tryz.prog (clOf t_names_Word) tb_names_Word Go.Proofs.Tryz.f108 c_names_Word L (toForms sg_names_Word (s,()))=(T0_names_Word s).run (fun v=>some (R_names_Word v,tps (toForms sg_names_Word (s,())))) fun j=>L (S_names_Word s j).1 (S_names_Word s j).2:=by kernel_rfl
theorem lp_names_Word (s:ByteArray):∀(L:Lt) (j:Empty),procOf (procsF Go.Proofs.Tryz.prog (clOf t_names_Word) tb_names_Word Go.Proofs.Tryz.f108 c_names_Word (toForms sg_names_Word (s,()))) (S_names_Word s j).1 L (S_names_Word s j).2=(T_names_Word s j).run (fun v=>some (R_names_Word v,tps (toForms sg_names_Word (s,())))) fun j=>L (S_names_Word s j).1 (S_names_Word s j).2:=fun L j=>nomatch j
noncomputable def e_names_Word:Run:=entT sg_names_Word R_names_Word (fun a=>v_names_Word a.1)
theorem ok_names_Word:EntOK Go.Proofs.Tryz.prog 108 e_names_Word:=entT_ok (tb:=tb_names_Word) (c:=c_names_Word) tk_names_Word (by kernel_rfl) (by kernel_rfl) (by kernel_rfl) (fun a=>by kernel_rfl) fun ⟨s,_⟩=>evF_goes (c:=c_names_Word) (K:=fun v=>(R_names_Word v,tps (toForms sg_names_Word (s,())))) (S:=S_names_Word s) (by kernel_rfl) (en_names_Word s) (lp_names_Word s) (g_names_Word s)
end
end Go.Ev
end

section
open Go Go.Ev
namespace Go.Ev
noncomputable section
def sg_glyph_Letter:Sig:=[(false,(.int .i32))]
noncomputable def t_glyph_Letter:Tbl:=[]
theorem tk_glyph_Letter:∀p∈t_glyph_Letter,EntOK Go.Proofs.Tryz.prog p.1 p.2:=tbl_nil
noncomputable def c_glyph_Letter:Code:=Go.Proofs.Tryz.f106.body.getD .skip
def tb_glyph_Letter:Tb:=[]
def T_glyph_Letter (r:Int):Empty→JT Empty (Bool):=fun j=>nomatch j
def T0_glyph_Letter (r:Int):JT Empty (Bool):=.br (decide (r≥(97:Int))) (.br (decide (r≤(122:Int))) (.leaf true) (.br (decide (r≥(65:Int))) (.br (decide (r≤(90:Int))) (.leaf true) (.br (r==(95:Int)) (.leaf true) (.br (decide (r≥(161:Int))) (.leaf (decide (r≤(1114111:Int)))) (.leaf false)))) (.br (r==(95:Int)) (.leaf true) (.br (decide (r≥(161:Int))) (.leaf (decide (r≤(1114111:Int)))) (.leaf false))))) (.br (decide (r≥(65:Int))) (.br (decide (r≤(90:Int))) (.leaf true) (.br (r==(95:Int)) (.leaf true) (.br (decide (r≥(161:Int))) (.leaf (decide (r≤(1114111:Int)))) (.leaf false)))) (.br (r==(95:Int)) (.leaf true) (.br (decide (r≥(161:Int))) (.leaf (decide (r≤(1114111:Int)))) (.leaf false))))
def v_glyph_Letter (r:Int):Bool:=bif (decide (r≥(97:Int))) then bif (decide (r≤(122:Int))) then true else bif (decide (r≥(65:Int))) then bif (decide (r≤(90:Int))) then true else bif (r==(95:Int)) then true else bif (decide (r≥(161:Int))) then (decide (r≤(1114111:Int))) else false else bif (r==(95:Int)) then true else bif (decide (r≥(161:Int))) then (decide (r≤(1114111:Int))) else false else bif (decide (r≥(65:Int))) then bif (decide (r≤(90:Int))) then true else bif (r==(95:Int)) then true else bif (decide (r≥(161:Int))) then (decide (r≤(1114111:Int))) else false else bif (r==(95:Int)) then true else bif (decide (r≥(161:Int))) then (decide (r≤(1114111:Int))) else false
theorem g_glyph_Letter (r:Int):Goes (T_glyph_Letter r) (T0_glyph_Letter r) (v_glyph_Letter r):=Goes.br (Goes.br (Goes.leaf) (Goes.br (Goes.br (Goes.leaf) (Goes.br (Goes.leaf) (Goes.br (Goes.leaf) (Goes.leaf)))) (Goes.br (Goes.leaf) (Goes.br (Goes.leaf) (Goes.leaf))))) (Goes.br (Goes.br (Goes.leaf) (Goes.br (Goes.leaf) (Goes.br (Goes.leaf) (Goes.leaf)))) (Goes.br (Goes.leaf) (Goes.br (Goes.leaf) (Goes.leaf))))
def R_glyph_Letter:Bool→AV:=fun (r:Bool)=>.d .bool r
def S_glyph_Letter (r:Int):Empty→Nat×St:=fun j=>nomatch j
theorem en_glyph_Letter (r:Int) (L:Lt):entryA Go.Proofs.Tryz.prog (clOf t_glyph_Letter) tb_glyph_Letter Go.Proofs.Tryz.f106 c_glyph_Letter L (toForms sg_glyph_Letter (r,()))=(T0_glyph_Letter r).run (fun v=>some (R_glyph_Letter v,tps (toForms sg_glyph_Letter (r,())))) fun j=>L (S_glyph_Letter r j).1 (S_glyph_Letter r j).2:=by kernel_rfl
theorem lp_glyph_Letter (r:Int):∀(L:Lt) (j:Empty),procOf (procsF Go.Proofs.Tryz.prog (clOf t_glyph_Letter) tb_glyph_Letter Go.Proofs.Tryz.f106 c_glyph_Letter (toForms sg_glyph_Letter (r,()))) (S_glyph_Letter r j).1 L (S_glyph_Letter r j).2=(T_glyph_Letter r j).run (fun v=>some (R_glyph_Letter v,tps (toForms sg_glyph_Letter (r,())))) fun j=>L (S_glyph_Letter r j).1 (S_glyph_Letter r j).2:=fun L j=>nomatch j
noncomputable def e_glyph_Letter:Run:=entT sg_glyph_Letter R_glyph_Letter (fun a=>v_glyph_Letter a.1)
theorem ok_glyph_Letter:EntOK Go.Proofs.Tryz.prog 106 e_glyph_Letter:=entT_ok (tb:=tb_glyph_Letter) (c:=c_glyph_Letter) tk_glyph_Letter (by kernel_rfl) (by kernel_rfl) (by kernel_rfl) (fun a=>by kernel_rfl) fun ⟨r,_⟩=>evF_goes (c:=c_glyph_Letter) (K:=fun v=>(R_glyph_Letter v,tps (toForms sg_glyph_Letter (r,())))) (S:=S_glyph_Letter r) (by kernel_rfl) (en_glyph_Letter r) (lp_glyph_Letter r) (g_glyph_Letter r)
end
end Go.Ev
end

section
open Go Go.Ev
namespace Go.Ev
noncomputable section
def sg_glyph_Digit:Sig:=[(false,(.int .i32))]
noncomputable def t_glyph_Digit:Tbl:=[]
theorem tk_glyph_Digit:∀p∈t_glyph_Digit,EntOK Go.Proofs.Tryz.prog p.1 p.2:=tbl_nil
noncomputable def c_glyph_Digit:Code:=Go.Proofs.Tryz.f107.body.getD .skip
def tb_glyph_Digit:Tb:=[]
def T_glyph_Digit (r:Int):Empty→JT Empty (Bool):=fun j=>nomatch j
def T0_glyph_Digit (r:Int):JT Empty (Bool):=.br (decide (r≥(48:Int))) (.leaf (decide (r≤(57:Int)))) (.leaf false)
def v_glyph_Digit (r:Int):Bool:=bif (decide (r≥(48:Int))) then (decide (r≤(57:Int))) else false
theorem g_glyph_Digit (r:Int):Goes (T_glyph_Digit r) (T0_glyph_Digit r) (v_glyph_Digit r):=Goes.br (Goes.leaf) (Goes.leaf)
def R_glyph_Digit:Bool→AV:=fun (r:Bool)=>.d .bool r
def S_glyph_Digit (r:Int):Empty→Nat×St:=fun j=>nomatch j
theorem en_glyph_Digit (r:Int) (L:Lt):entryA Go.Proofs.Tryz.prog (clOf t_glyph_Digit) tb_glyph_Digit Go.Proofs.Tryz.f107 c_glyph_Digit L (toForms sg_glyph_Digit (r,()))=(T0_glyph_Digit r).run (fun v=>some (R_glyph_Digit v,tps (toForms sg_glyph_Digit (r,())))) fun j=>L (S_glyph_Digit r j).1 (S_glyph_Digit r j).2:=by kernel_rfl
theorem lp_glyph_Digit (r:Int):∀(L:Lt) (j:Empty),procOf (procsF Go.Proofs.Tryz.prog (clOf t_glyph_Digit) tb_glyph_Digit Go.Proofs.Tryz.f107 c_glyph_Digit (toForms sg_glyph_Digit (r,()))) (S_glyph_Digit r j).1 L (S_glyph_Digit r j).2=(T_glyph_Digit r j).run (fun v=>some (R_glyph_Digit v,tps (toForms sg_glyph_Digit (r,())))) fun j=>L (S_glyph_Digit r j).1 (S_glyph_Digit r j).2:=fun L j=>nomatch j
noncomputable def e_glyph_Digit:Run:=entT sg_glyph_Digit R_glyph_Digit (fun a=>v_glyph_Digit a.1)
theorem ok_glyph_Digit:EntOK Go.Proofs.Tryz.prog 107 e_glyph_Digit:=entT_ok (tb:=tb_glyph_Digit) (c:=c_glyph_Digit) tk_glyph_Digit (by kernel_rfl) (by kernel_rfl) (by kernel_rfl) (fun a=>by kernel_rfl) fun ⟨r,_⟩=>evF_goes (c:=c_glyph_Digit) (K:=fun v=>(R_glyph_Digit v,tps (toForms sg_glyph_Digit (r,())))) (S:=S_glyph_Digit r) (by kernel_rfl) (en_glyph_Digit r) (lp_glyph_Digit r) (g_glyph_Digit r)
end
end Go.Ev
end

section
namespace Go.Ev
open Go
def spotOK (first:Bool) (x:El T_glyph_Spot):Bool:=!x.2.2.2.2.2&&(v_glyph_Letter x.1 || (!first&&v_glyph_Digit x.1))
def spotsOK:Nat→List (El T_glyph_Spot)→Bool
 | _,[]=>true
 | k,x :: r=>spotOK (k==0) x&&spotsOK (k+1) r
def nameRight (s:ByteArray):Bool:=spotsOK 0 (spots s)&&(decide (1≤(spots s).length)&&(decide ((spots s).length≤16)&& !v_names_Word s))
theorem findFrom_some {s:ByteArray} :∀ {l:List ByteArray} {k n:Nat},findFrom s l k=some n→k≤n
 | [],_,_,h=>by cases h
 | x :: r,k,n,h=>by
  unfold findFrom at h
  split at h
  ·cases h;exact Nat.le_refl _
  ·have:=findFrom_some h;omega
theorem findFrom_shift {s:ByteArray} :∀ {l:List ByteArray} {k j:Nat},(findFrom s l k).isSome=(findFrom s l j).isSome
 | [],_,_=>rfl
 | x :: r,k,j=>by
  unfold findFrom
  split
  ·rfl
  ·exact findFrom_shift
end Go.Ev
end

section
open Go
namespace Go.Ev
def v_ref1_Word (s:ByteArray):Bool:=v_names_Word s
theorem g_ref1_Word (s:ByteArray):Goes (T_ref1_Word s) (T0_ref1_Word s) (v_ref1_Word s):=by
 have hk:∀l:List ByteArray,l.length < 100→k_ref1_index l s=true:=fun l h=>decide_eq_true (by omega)
 have h1:k_ref1_index v_ref1_Regs s=true:=hk _ (by decide)
 have h2:k_ref1_index v_ref1_ops s=true:=hk _ (by decide)
 have h3:k_ref1_index v_ref1_conds s=true:=hk _ (by decide)
 have hku:ku_ref1_Word s=true:=by
  unfold ku_ref1_Word
  simp only[h1,h2,h3,cond_true]
  cases eqB s (bs []) <;> cases eqB s (bs [115,121,109]) <;> cases eqB s (bs [116,104,114,101,97,100]) <;> cases eqB s (bs [108,111,99,107]) <;> cases decide (v_ref1_index v_ref1_Regs s≥0) <;> cases decide (v_ref1_index v_ref1_ops s > 0) <;> rfl
 have hv:v_ref1_Word s=u_ref1_Word s:=by
  unfold v_ref1_Word u_ref1_Word v_names_Word
  simp only[h1,h2,h3,cond_true,eqB_eq]
  have hr:decide (v_ref1_index v_ref1_Regs s≥0)=(findFrom s v_names_regs 0).isSome:=by
   unfold v_ref1_index
   rw[show v_ref1_Regs=v_names_regs from rfl]
   cases findFrom s v_names_regs 0 <;> simp
  have hR:(v_names_Reg s).2=(findFrom s v_names_regs 0).isSome:=by
   unfold v_names_Reg
   cases findFrom s v_names_regs 0 <;> rfl
  rw[hr,hR]
  by_cases h0:s=bs []
  ·subst h0
   decide
  have hidx:∀l:List ByteArray,decide (v_ref1_index (bs [] :: l) s > 0)=(findFrom s l 0).isSome:=by
   intro l
   unfold v_ref1_index
   rw[show findFrom s (bs [] :: l) 0=findFrom s l (0+1) by rw[findFrom,if_neg (fun e=>h0 e.symm)],findFrom_shift (k:=0) (j:=0+1)]
   cases h:findFrom s l (0+1) with
   | none=>simp
   | some n=>have:=findFrom_some h;simp;omega
  have ho:=hidx v_names_ops
  have hj:=hidx v_names_jumps
  rw[show v_ref1_ops=bs [] :: v_names_ops from rfl,ho,show v_ref1_conds=bs [] :: v_names_jumps from rfl,hj]
  have hO:(v_names_Op s).2.2=((findFrom s v_names_ops 0).isSome || (findFrom s v_names_jumps 0).isSome):=by
   unfold v_names_Op
   rw[if_neg h0]
   cases findFrom s v_names_ops 0 with
   | some k=>rfl
   | none=>cases findFrom s v_names_jumps 0 <;> rfl
  rw[hO]
  simp only[h0,decide_false,Bool.not_false,cond_true]
  cases (findFrom s v_names_ops 0).isSome <;> cases (findFrom s v_names_jumps 0).isSome <;> rfl
 rw[hv]
 exact gu_ref1_Word s hku
end Go.Ev
end

section
open Go Go.Ev
namespace Go.Ev
noncomputable section
noncomputable def e_ref1_Word:Run:=entT sg_ref1_Word R_ref1_Word (fun a=>v_ref1_Word a.1)
theorem ok_ref1_Word:EntOK Go.Proofs.Tryz.prog 64 e_ref1_Word:=entT_ok (tb:=tb_ref1_Word) (c:=c_ref1_Word) tk_ref1_Word (by kernel_rfl) (by kernel_rfl) (by kernel_rfl) (fun a=>by kernel_rfl) fun ⟨s,_⟩=>evF_goes (c:=c_ref1_Word) (K:=fun v=>(R_ref1_Word v,tps (toForms sg_ref1_Word (s,())))) (S:=S_ref1_Word s) (by kernel_rfl) (en_ref1_Word s) (lp_ref1_Word s) (g_ref1_Word s)
end
end Go.Ev
end

section
open Go Go.Ev
namespace Go.Ev
noncomputable section
def sg_ref1_Letter:Sig:=[(false,(.int .i32))]
noncomputable def t_ref1_Letter:Tbl:=[]
theorem tk_ref1_Letter:∀p∈t_ref1_Letter,EntOK Go.Proofs.Tryz.prog p.1 p.2:=tbl_nil
noncomputable def c_ref1_Letter:Code:=Go.Proofs.Tryz.f65.body.getD .skip
def tb_ref1_Letter:Tb:=[]
def T_ref1_Letter (r:Int):Empty→JT Empty (Bool):=fun j=>nomatch j
def T0_ref1_Letter (r:Int):JT Empty (Bool):=.br (decide (r≥(97:Int))) (.br (decide (r≤(122:Int))) (.leaf true) (.br (decide (r≥(65:Int))) (.br (decide (r≤(90:Int))) (.leaf true) (.br (r==(95:Int)) (.leaf true) (.br (decide (r≥(161:Int))) (.leaf (decide (r≤(1114111:Int)))) (.leaf false)))) (.br (r==(95:Int)) (.leaf true) (.br (decide (r≥(161:Int))) (.leaf (decide (r≤(1114111:Int)))) (.leaf false))))) (.br (decide (r≥(65:Int))) (.br (decide (r≤(90:Int))) (.leaf true) (.br (r==(95:Int)) (.leaf true) (.br (decide (r≥(161:Int))) (.leaf (decide (r≤(1114111:Int)))) (.leaf false)))) (.br (r==(95:Int)) (.leaf true) (.br (decide (r≥(161:Int))) (.leaf (decide (r≤(1114111:Int)))) (.leaf false))))
def v_ref1_Letter (r:Int):Bool:=bif (decide (r≥(97:Int))) then bif (decide (r≤(122:Int))) then true else bif (decide (r≥(65:Int))) then bif (decide (r≤(90:Int))) then true else bif (r==(95:Int)) then true else bif (decide (r≥(161:Int))) then (decide (r≤(1114111:Int))) else false else bif (r==(95:Int)) then true else bif (decide (r≥(161:Int))) then (decide (r≤(1114111:Int))) else false else bif (decide (r≥(65:Int))) then bif (decide (r≤(90:Int))) then true else bif (r==(95:Int)) then true else bif (decide (r≥(161:Int))) then (decide (r≤(1114111:Int))) else false else bif (r==(95:Int)) then true else bif (decide (r≥(161:Int))) then (decide (r≤(1114111:Int))) else false
theorem g_ref1_Letter (r:Int):Goes (T_ref1_Letter r) (T0_ref1_Letter r) (v_ref1_Letter r):=Goes.br (Goes.br (Goes.leaf) (Goes.br (Goes.br (Goes.leaf) (Goes.br (Goes.leaf) (Goes.br (Goes.leaf) (Goes.leaf)))) (Goes.br (Goes.leaf) (Goes.br (Goes.leaf) (Goes.leaf))))) (Goes.br (Goes.br (Goes.leaf) (Goes.br (Goes.leaf) (Goes.br (Goes.leaf) (Goes.leaf)))) (Goes.br (Goes.leaf) (Goes.br (Goes.leaf) (Goes.leaf))))
def R_ref1_Letter:Bool→AV:=fun (r:Bool)=>.d .bool r
def S_ref1_Letter (r:Int):Empty→Nat×St:=fun j=>nomatch j
theorem en_ref1_Letter (r:Int) (L:Lt):entryA Go.Proofs.Tryz.prog (clOf t_ref1_Letter) tb_ref1_Letter Go.Proofs.Tryz.f65 c_ref1_Letter L (toForms sg_ref1_Letter (r,()))=(T0_ref1_Letter r).run (fun v=>some (R_ref1_Letter v,tps (toForms sg_ref1_Letter (r,())))) fun j=>L (S_ref1_Letter r j).1 (S_ref1_Letter r j).2:=by kernel_rfl
theorem lp_ref1_Letter (r:Int):∀(L:Lt) (j:Empty),procOf (procsF Go.Proofs.Tryz.prog (clOf t_ref1_Letter) tb_ref1_Letter Go.Proofs.Tryz.f65 c_ref1_Letter (toForms sg_ref1_Letter (r,()))) (S_ref1_Letter r j).1 L (S_ref1_Letter r j).2=(T_ref1_Letter r j).run (fun v=>some (R_ref1_Letter v,tps (toForms sg_ref1_Letter (r,())))) fun j=>L (S_ref1_Letter r j).1 (S_ref1_Letter r j).2:=fun L j=>nomatch j
noncomputable def e_ref1_Letter:Run:=entT sg_ref1_Letter R_ref1_Letter (fun a=>v_ref1_Letter a.1)
theorem ok_ref1_Letter:EntOK Go.Proofs.Tryz.prog 65 e_ref1_Letter:=entT_ok (tb:=tb_ref1_Letter) (c:=c_ref1_Letter) tk_ref1_Letter (by kernel_rfl) (by kernel_rfl) (by kernel_rfl) (fun a=>by kernel_rfl) fun ⟨r,_⟩=>evF_goes (c:=c_ref1_Letter) (K:=fun v=>(R_ref1_Letter v,tps (toForms sg_ref1_Letter (r,())))) (S:=S_ref1_Letter r) (by kernel_rfl) (en_ref1_Letter r) (lp_ref1_Letter r) (g_ref1_Letter r)
end
end Go.Ev
end

section
open Go Go.Ev
namespace Go.Ev
noncomputable section
def sg_ref1_Digit:Sig:=[(false,(.int .i32))]
noncomputable def t_ref1_Digit:Tbl:=[]
theorem tk_ref1_Digit:∀p∈t_ref1_Digit,EntOK Go.Proofs.Tryz.prog p.1 p.2:=tbl_nil
noncomputable def c_ref1_Digit:Code:=Go.Proofs.Tryz.f66.body.getD .skip
def tb_ref1_Digit:Tb:=[]
def T_ref1_Digit (r:Int):Empty→JT Empty (Bool):=fun j=>nomatch j
def T0_ref1_Digit (r:Int):JT Empty (Bool):=.br (decide (r≥(48:Int))) (.leaf (decide (r≤(57:Int)))) (.leaf false)
def v_ref1_Digit (r:Int):Bool:=bif (decide (r≥(48:Int))) then (decide (r≤(57:Int))) else false
theorem g_ref1_Digit (r:Int):Goes (T_ref1_Digit r) (T0_ref1_Digit r) (v_ref1_Digit r):=Goes.br (Goes.leaf) (Goes.leaf)
def R_ref1_Digit:Bool→AV:=fun (r:Bool)=>.d .bool r
def S_ref1_Digit (r:Int):Empty→Nat×St:=fun j=>nomatch j
theorem en_ref1_Digit (r:Int) (L:Lt):entryA Go.Proofs.Tryz.prog (clOf t_ref1_Digit) tb_ref1_Digit Go.Proofs.Tryz.f66 c_ref1_Digit L (toForms sg_ref1_Digit (r,()))=(T0_ref1_Digit r).run (fun v=>some (R_ref1_Digit v,tps (toForms sg_ref1_Digit (r,())))) fun j=>L (S_ref1_Digit r j).1 (S_ref1_Digit r j).2:=by kernel_rfl
theorem lp_ref1_Digit (r:Int):∀(L:Lt) (j:Empty),procOf (procsF Go.Proofs.Tryz.prog (clOf t_ref1_Digit) tb_ref1_Digit Go.Proofs.Tryz.f66 c_ref1_Digit (toForms sg_ref1_Digit (r,()))) (S_ref1_Digit r j).1 L (S_ref1_Digit r j).2=(T_ref1_Digit r j).run (fun v=>some (R_ref1_Digit v,tps (toForms sg_ref1_Digit (r,())))) fun j=>L (S_ref1_Digit r j).1 (S_ref1_Digit r j).2:=fun L j=>nomatch j
noncomputable def e_ref1_Digit:Run:=entT sg_ref1_Digit R_ref1_Digit (fun a=>v_ref1_Digit a.1)
theorem ok_ref1_Digit:EntOK Go.Proofs.Tryz.prog 66 e_ref1_Digit:=entT_ok (tb:=tb_ref1_Digit) (c:=c_ref1_Digit) tk_ref1_Digit (by kernel_rfl) (by kernel_rfl) (by kernel_rfl) (fun a=>by kernel_rfl) fun ⟨r,_⟩=>evF_goes (c:=c_ref1_Digit) (K:=fun v=>(R_ref1_Digit v,tps (toForms sg_ref1_Digit (r,())))) (S:=S_ref1_Digit r) (by kernel_rfl) (en_ref1_Digit r) (lp_ref1_Digit r) (g_ref1_Digit r)
end
end Go.Ev
end

section
open Go Go.Ev
namespace Go.Ev
noncomputable section
def sg_ref1_Right:Sig:=[(false,.str)]
noncomputable def t_ref1_Right:Tbl:=[(63,e_ref1_Spots),(64,e_ref1_Word),(65,e_ref1_Letter),(66,e_ref1_Digit)]
theorem tk_ref1_Right:∀p∈t_ref1_Right,EntOK Go.Proofs.Tryz.prog p.1 p.2:=tbl_cons ok_ref1_Spots (tbl_cons ok_ref1_Word (tbl_cons ok_ref1_Letter (tbl_cons ok_ref1_Digit (tbl_nil))))
noncomputable def c_ref1_Right:Code:=Go.Proofs.Tryz.f37.body.getD .skip
def tb_ref1_Right:Tb:=[(7,⟨[3,4],[]⟩)]
inductive J_ref1_Right where | l7 (i:Int)
def T_ref1_Right (s:ByteArray):J_ref1_Right→JT J_ref1_Right (Bool) |.l7 i=>.br (decide (i < (Int.ofNat (List.length (v_ref1_Spots s))))) (.br ((decide ((0:Int)≤i))&&(decide (i < (Int.ofNat (List.length (v_ref1_Spots s)))))) (.br (List.getD (v_ref1_Spots s) (Int.toNat i) (dflt T_ref1_Spot)).2.2.2.2.2 (.leaf false) (.br ((decide ((0:Int)≤i))&&(decide (i < (Int.ofNat (List.length (v_ref1_Spots s)))))) (.br (! (v_ref1_Letter (List.getD (v_ref1_Spots s) (Int.toNat i) (dflt T_ref1_Spot)).1)) (.br (i==(0:Int)) (.leaf false) (.br ((decide ((0:Int)≤i))&&(decide (i < (Int.ofNat (List.length (v_ref1_Spots s)))))) (.br (! (v_ref1_Digit (List.getD (v_ref1_Spots s) (Int.toNat i) (dflt T_ref1_Spot)).1)) (.leaf false) (.jmp (.l7 (IntKind.i64.wrap (i+(1:Int)))))) (.no))) (.jmp (.l7 (IntKind.i64.wrap (i+(1:Int)))))) (.no))) (.no)) (.leaf true)
def T0_ref1_Right (s:ByteArray):JT J_ref1_Right (Bool):=.br (k_ref1_Spots s) (.br (decide ((Int.ofNat (List.length (v_ref1_Spots s))) < (1:Int))) (.leaf false) (.br (decide ((Int.ofNat (List.length (v_ref1_Spots s))) > (16:Int))) (.leaf false) (.br (v_ref1_Word s) (.leaf false) (.jmp (.l7 (0:Int)))))) (.no)
def R_ref1_Right:Bool→AV:=fun (r:Bool)=>.d .bool r
def S_ref1_Right (s:ByteArray):J_ref1_Right→Nat×St |.l7 i=>(7,⟨mkTm 52 [(3,.own 4 0 none),(4,.d (.int .i64) i)],[(4,0,.row 101 T_ref1_Spot (v_ref1_Spots s) false)]⟩)
theorem en_ref1_Right (s:ByteArray) (L:Lt):entryA Go.Proofs.Tryz.prog (clOf t_ref1_Right) tb_ref1_Right Go.Proofs.Tryz.f37 c_ref1_Right L (toForms sg_ref1_Right (s,()))=(T0_ref1_Right s).run (fun v=>some (R_ref1_Right v,tps (toForms sg_ref1_Right (s,())))) fun j=>L (S_ref1_Right s j).1 (S_ref1_Right s j).2:=by kernel_rfl
theorem lp_ref1_Right (s:ByteArray):∀(L:Lt) (j:J_ref1_Right),procOf (procsF Go.Proofs.Tryz.prog (clOf t_ref1_Right) tb_ref1_Right Go.Proofs.Tryz.f37 c_ref1_Right (toForms sg_ref1_Right (s,()))) (S_ref1_Right s j).1 L (S_ref1_Right s j).2=(T_ref1_Right s j).run (fun v=>some (R_ref1_Right v,tps (toForms sg_ref1_Right (s,())))) fun j=>L (S_ref1_Right s j).1 (S_ref1_Right s j).2 | L,.l7 i=>by kernel_rfl
end
end Go.Ev
end

section
open Go
namespace Go.Ev
def v_ref1_Right (s:ByteArray):Bool:=nameRight s
def k_ref1_Right (s:ByteArray):Bool:=smallText s
theorem g_ref1_Right (s:ByteArray) (hk:k_ref1_Right s=true):Goes (T_ref1_Right s) (T0_ref1_Right s) (v_ref1_Right s):=by
 have hs:s.size < 549755813888:=of_decide_eq_true hk
 have hl:(v_ref1_Spots s).length≤s.size:=spots_length s
 have loop:∀k,k≤(v_ref1_Spots s).length→Goes (T_ref1_Right s) (.jmp (.l7 (k:Int))) (spotsOK k ((v_ref1_Spots s).drop k)):=by
  refine down ?_ fun k hk ih=>?_
  ·rw[goes_jmp]
   simp[T_ref1_Right,goes_br,goes_leaf,spotsOK]
  ·rw[goes_jmp]
   dsimp only[T_ref1_Right]
   simp only[goes_br,goes_leaf,lt_len hk,nng,Bool.and_self,if_true,Int.toNat_natCast,getD_lt hk,wrap_succ (k:=k) (by omega)]
   rw[drop_cons hk,spotsOK]
   generalize (v_ref1_Spots s)[k]=x at*
   unfold spotOK
   rw[show v_ref1_Letter=v_glyph_Letter from rfl,show v_ref1_Digit=v_glyph_Digit from rfl]
   cases x.2.2.2.2.2
   ·cases v_glyph_Letter x.1
    ·by_cases h0:k=0
     ·subst h0;simp
     ·have e1:((k:Int)==0)=false:=by rw[Bool.eq_false_iff];simp;omega
      have e2:(k==0)=false:=by rw[Bool.eq_false_iff];simpa using h0
      cases v_glyph_Digit x.1
      ·simp[e1,e2]
      ·simpa[e1,e2] using ih
    ·simpa using ih
   ·simp
 have hv:v_ref1_Right s=(spotsOK 0 (v_ref1_Spots s)&&(decide (1≤(v_ref1_Spots s).length)&&(decide ((v_ref1_Spots s).length≤16)&& !v_names_Word s))):=rfl
 rw[hv]
 unfold T0_ref1_Right
 simp only[goes_br,show k_ref1_Spots s=true from hk,if_true,v_ref1_Word,goes_leaf]
 by_cases h1:1≤(v_ref1_Spots s).length
 ·by_cases h2:(v_ref1_Spots s).length≤16
  ·cases v_names_Word s
   ·rw[if_neg (by simp <;> omega),if_neg (by simp <;> omega)]
    simpa[h1,h2] using loop 0 (Nat.zero_le _)
   ·rw[if_neg (by simp <;> omega),if_neg (by simp <;> omega)]
    simp
  ·rw[if_neg (by simp <;> omega),if_pos (by simp <;> omega)]
   simp[h2]
 ·rw[if_pos (by simp <;> omega)]
  simp[h1]
end Go.Ev
end

section
open Go Go.Ev
namespace Go.Ev
noncomputable section
noncomputable def e_ref1_Right:Run:=entG sg_ref1_Right R_ref1_Right (fun a=>k_ref1_Right a.1) (fun a=>v_ref1_Right a.1)
theorem ok_ref1_Right:EntOK Go.Proofs.Tryz.prog 37 e_ref1_Right:=entG_ok (tb:=tb_ref1_Right) (c:=c_ref1_Right) tk_ref1_Right (by kernel_rfl) (by kernel_rfl) (by kernel_rfl) (fun a=>by kernel_rfl) fun ⟨s,_⟩ hk=>evF_goes (c:=c_ref1_Right) (K:=fun v=>(R_ref1_Right v,tps (toForms sg_ref1_Right (s,())))) (S:=S_ref1_Right s) (by kernel_rfl) (en_ref1_Right s) (lp_ref1_Right s) (g_ref1_Right s hk)
end
end Go.Ev
end

section
open Go Go.Ev
namespace Go.Ev
noncomputable section
def sg_ref1_Count:Sig:=[(true,(.sl T_api_Ins))]
noncomputable def t_ref1_Count:Tbl:=[]
theorem tk_ref1_Count:∀p∈t_ref1_Count,EntOK Go.Proofs.Tryz.prog p.1 p.2:=tbl_nil
noncomputable def c_ref1_Count:Code:=Go.Proofs.Tryz.f67.body.getD .skip
def tb_ref1_Count:Tb:=[(4,⟨[1,3,4],[]⟩)]
inductive J_ref1_Count where | l4 (n:Int) (i:Int)
def T_ref1_Count (t:List (El T_api_Ins)):J_ref1_Count→JT J_ref1_Count (Int) |.l4 n i=>.br (decide (i < (Int.ofNat (List.length t)))) (.br ((decide ((0:Int)≤i))&&(decide (i < (Int.ofNat (List.length t))))) (.br ((List.getD t (Int.toNat i) (dflt T_api_Ins)).1 !=(12:Int)) (.jmp (.l4 (IntKind.i64.wrap (n+(1:Int))) (IntKind.i64.wrap (i+(1:Int))))) (.jmp (.l4 n (IntKind.i64.wrap (i+(1:Int)))))) (.no)) (.leaf n)
def T0_ref1_Count (t:List (El T_api_Ins)):JT J_ref1_Count (Int):=.jmp (.l4 (0:Int) (0:Int))
def R_ref1_Count:Int→AV:=fun (r:Int)=>.d (.int .i64) r
def S_ref1_Count (t:List (El T_api_Ins)):J_ref1_Count→Nat×St |.l4 n i=>(4,⟨mkTm 22 [(1,.pt 2 0 0),(3,.d (.int .i64) n),(4,.d (.int .i64) i)],[(2,0,.box 33 [.d (.sl T_api_Ins) t] none)]⟩)
theorem en_ref1_Count (t:List (El T_api_Ins)) (L:Lt):entryA Go.Proofs.Tryz.prog (clOf t_ref1_Count) tb_ref1_Count Go.Proofs.Tryz.f67 c_ref1_Count L (toForms sg_ref1_Count (t,()))=(T0_ref1_Count t).run (fun v=>some (R_ref1_Count v,tps (toForms sg_ref1_Count (t,())))) fun j=>L (S_ref1_Count t j).1 (S_ref1_Count t j).2:=by kernel_rfl
theorem lp_ref1_Count (t:List (El T_api_Ins)):∀(L:Lt) (j:J_ref1_Count),procOf (procsF Go.Proofs.Tryz.prog (clOf t_ref1_Count) tb_ref1_Count Go.Proofs.Tryz.f67 c_ref1_Count (toForms sg_ref1_Count (t,()))) (S_ref1_Count t j).1 L (S_ref1_Count t j).2=(T_ref1_Count t j).run (fun v=>some (R_ref1_Count v,tps (toForms sg_ref1_Count (t,())))) fun j=>L (S_ref1_Count t j).1 (S_ref1_Count t j).2 | L,.l4 n i=>by kernel_rfl
end
end Go.Ev
end

section
open Go Go.Ev
namespace Go.Ev
noncomputable section
def sg_opnd_register:Sig:=[(false,(.int .i64))]
noncomputable def t_opnd_register:Tbl:=[]
theorem tk_opnd_register:∀p∈t_opnd_register,EntOK Go.Proofs.Tryz.prog p.1 p.2:=tbl_nil
noncomputable def c_opnd_register:Code:=Go.Proofs.Tryz.f154.body.getD .skip
def tb_opnd_register:Tb:=[]
def T_opnd_register (r:Int):Empty→JT Empty (Bool):=fun j=>nomatch j
def T0_opnd_register (r:Int):JT Empty (Bool):=.br (decide (r≥(0:Int))) (.leaf (decide (r≤(7:Int)))) (.leaf false)
def v_opnd_register (r:Int):Bool:=bif (decide (r≥(0:Int))) then (decide (r≤(7:Int))) else false
theorem g_opnd_register (r:Int):Goes (T_opnd_register r) (T0_opnd_register r) (v_opnd_register r):=Goes.br (Goes.leaf) (Goes.leaf)
def R_opnd_register:Bool→AV:=fun (r:Bool)=>.d .bool r
def S_opnd_register (r:Int):Empty→Nat×St:=fun j=>nomatch j
theorem en_opnd_register (r:Int) (L:Lt):entryA Go.Proofs.Tryz.prog (clOf t_opnd_register) tb_opnd_register Go.Proofs.Tryz.f154 c_opnd_register L (toForms sg_opnd_register (r,()))=(T0_opnd_register r).run (fun v=>some (R_opnd_register v,tps (toForms sg_opnd_register (r,())))) fun j=>L (S_opnd_register r j).1 (S_opnd_register r j).2:=by kernel_rfl
theorem lp_opnd_register (r:Int):∀(L:Lt) (j:Empty),procOf (procsF Go.Proofs.Tryz.prog (clOf t_opnd_register) tb_opnd_register Go.Proofs.Tryz.f154 c_opnd_register (toForms sg_opnd_register (r,()))) (S_opnd_register r j).1 L (S_opnd_register r j).2=(T_opnd_register r j).run (fun v=>some (R_opnd_register v,tps (toForms sg_opnd_register (r,())))) fun j=>L (S_opnd_register r j).1 (S_opnd_register r j).2:=fun L j=>nomatch j
noncomputable def e_opnd_register:Run:=entT sg_opnd_register R_opnd_register (fun a=>v_opnd_register a.1)
theorem ok_opnd_register:EntOK Go.Proofs.Tryz.prog 154 e_opnd_register:=entT_ok (tb:=tb_opnd_register) (c:=c_opnd_register) tk_opnd_register (by kernel_rfl) (by kernel_rfl) (by kernel_rfl) (fun a=>by kernel_rfl) fun ⟨r,_⟩=>evF_goes (c:=c_opnd_register) (K:=fun v=>(R_opnd_register v,tps (toForms sg_opnd_register (r,())))) (S:=S_opnd_register r) (by kernel_rfl) (en_opnd_register r) (lp_opnd_register r) (g_opnd_register r)
end
end Go.Ev
end

section
open Go Go.Ev
namespace Go.Ev
noncomputable section
def sg_opnd_Right:Sig:=[(true,T_api_Opd)]
noncomputable def t_opnd_Right:Tbl:=[(154,e_opnd_register)]
theorem tk_opnd_Right:∀p∈t_opnd_Right,EntOK Go.Proofs.Tryz.prog p.1 p.2:=tbl_cons ok_opnd_register (tbl_nil)
noncomputable def c_opnd_Right:Code:=Go.Proofs.Tryz.f152.body.getD .skip
def tb_opnd_Right:Tb:=[]
def T_opnd_Right (o:El T_api_Opd):Empty→JT Empty (Bool):=fun j=>nomatch j
def T0_opnd_Right (o:El T_api_Opd):JT Empty (Bool):=.br (o.1==(1:Int)) (.br (v_opnd_register o.2.1) (.br (o.2.2.1==(0:Int)) (.leaf (o.2.2.2==(0:Int))) (.leaf false)) (.leaf false)) (.br (o.1==(2:Int)) (.br (o.2.1==(0:Int)) (.leaf (o.2.2.1==(0:Int))) (.leaf false)) (.br (o.1==(3:Int)) (.br (decide (o.2.2.1≥(0:Int))) (.br (decide (o.2.2.2≥(0:Int))) (.leaf (o.2.1==(0:Int))) (.leaf false)) (.leaf false)) (.br (o.1==(4:Int)) (.br (decide (o.2.2.1≥(0:Int))) (.br (v_opnd_register o.2.1) (.leaf (o.2.2.2==(0:Int))) (.leaf false)) (.leaf false)) (.leaf false))))
def v_opnd_Right (o:El T_api_Opd):Bool:=bif (o.1==(1:Int)) then bif (v_opnd_register o.2.1) then bif (o.2.2.1==(0:Int)) then (o.2.2.2==(0:Int)) else false else false else bif (o.1==(2:Int)) then bif (o.2.1==(0:Int)) then (o.2.2.1==(0:Int)) else false else bif (o.1==(3:Int)) then bif (decide (o.2.2.1≥(0:Int))) then bif (decide (o.2.2.2≥(0:Int))) then (o.2.1==(0:Int)) else false else false else bif (o.1==(4:Int)) then bif (decide (o.2.2.1≥(0:Int))) then bif (v_opnd_register o.2.1) then (o.2.2.2==(0:Int)) else false else false else false
theorem g_opnd_Right (o:El T_api_Opd):Goes (T_opnd_Right o) (T0_opnd_Right o) (v_opnd_Right o):=Goes.br (Goes.br (Goes.br (Goes.leaf) (Goes.leaf)) (Goes.leaf)) (Goes.br (Goes.br (Goes.leaf) (Goes.leaf)) (Goes.br (Goes.br (Goes.br (Goes.leaf) (Goes.leaf)) (Goes.leaf)) (Goes.br (Goes.br (Goes.br (Goes.leaf) (Goes.leaf)) (Goes.leaf)) (Goes.leaf))))
def R_opnd_Right:Bool→AV:=fun (r:Bool)=>.d .bool r
def S_opnd_Right (o:El T_api_Opd):Empty→Nat×St:=fun j=>nomatch j
theorem en_opnd_Right (o:El T_api_Opd) (L:Lt):entryA Go.Proofs.Tryz.prog (clOf t_opnd_Right) tb_opnd_Right Go.Proofs.Tryz.f152 c_opnd_Right L (toForms sg_opnd_Right (o,()))=(T0_opnd_Right o).run (fun v=>some (R_opnd_Right v,tps (toForms sg_opnd_Right (o,())))) fun j=>L (S_opnd_Right o j).1 (S_opnd_Right o j).2:=by kernel_rfl
theorem lp_opnd_Right (o:El T_api_Opd):∀(L:Lt) (j:Empty),procOf (procsF Go.Proofs.Tryz.prog (clOf t_opnd_Right) tb_opnd_Right Go.Proofs.Tryz.f152 c_opnd_Right (toForms sg_opnd_Right (o,()))) (S_opnd_Right o j).1 L (S_opnd_Right o j).2=(T_opnd_Right o j).run (fun v=>some (R_opnd_Right v,tps (toForms sg_opnd_Right (o,())))) fun j=>L (S_opnd_Right o j).1 (S_opnd_Right o j).2:=fun L j=>nomatch j
noncomputable def e_opnd_Right:Run:=entT sg_opnd_Right R_opnd_Right (fun a=>v_opnd_Right a.1)
theorem ok_opnd_Right:EntOK Go.Proofs.Tryz.prog 152 e_opnd_Right:=entT_ok (tb:=tb_opnd_Right) (c:=c_opnd_Right) tk_opnd_Right (by kernel_rfl) (by kernel_rfl) (by kernel_rfl) (fun a=>by kernel_rfl) fun ⟨o,_⟩=>evF_goes (c:=c_opnd_Right) (K:=fun v=>(R_opnd_Right v,tps (toForms sg_opnd_Right (o,())))) (S:=S_opnd_Right o) (by kernel_rfl) (en_opnd_Right o) (lp_opnd_Right o) (g_opnd_Right o)
end
end Go.Ev
end

section
open Go Go.Ev
namespace Go.Ev
noncomputable section
noncomputable def t_opnd_Of:Tbl:=[(152,e_opnd_Right)]
theorem tk_opnd_Of:∀p∈t_opnd_Of,EntOK Go.Proofs.Tryz.prog p.1 p.2:=tbl_cons ok_opnd_Right (tbl_nil)
noncomputable def c_opnd_Of:Code:=Go.Proofs.Tryz.f138.body.getD .skip
noncomputable def e_opnd_Of:Run:=entE Go.Proofs.Tryz.prog t_opnd_Of Go.Proofs.Tryz.f138 c_opnd_Of
theorem ok_opnd_Of:EntOK Go.Proofs.Tryz.prog 138 e_opnd_Of:=entE_ok tk_opnd_Of (by kernel_rfl) (by kernel_rfl) (by kernel_rfl) (fun xs=>by kernel_rfl)
end
end Go.Ev
end

section
open Go Go.Ev
namespace Go.Ev
noncomputable section
def sg_ins_register:Sig:=[(true,T_api_Opd)]
noncomputable def t_ins_register:Tbl:=[(138,e_opnd_Of)]
theorem tk_ins_register:∀p∈t_ins_register,EntOK Go.Proofs.Tryz.prog p.1 p.2:=tbl_cons ok_opnd_Of (tbl_nil)
noncomputable def c_ins_register:Code:=Go.Proofs.Tryz.f149.body.getD .skip
def tb_ins_register:Tb:=[]
def T_ins_register (o:El T_api_Opd):Empty→JT Empty (Bool):=fun j=>nomatch j
def T0_ins_register (o:El T_api_Opd):JT Empty (Bool):=.br (! (v_opnd_Right o)) (.leaf false) (.br (o.1==(1:Int)) (.leaf true) (.br (o.1==(2:Int)) (.leaf false) (.br (o.1==(3:Int)) (.leaf false) (.leaf false))))
def v_ins_register (o:El T_api_Opd):Bool:=bif (! (v_opnd_Right o)) then false else bif (o.1==(1:Int)) then true else bif (o.1==(2:Int)) then false else bif (o.1==(3:Int)) then false else false
theorem g_ins_register (o:El T_api_Opd):Goes (T_ins_register o) (T0_ins_register o) (v_ins_register o):=Goes.br (Goes.leaf) (Goes.br (Goes.leaf) (Goes.br (Goes.leaf) (Goes.br (Goes.leaf) (Goes.leaf))))
def R_ins_register:Bool→AV:=fun (r:Bool)=>.d .bool r
def S_ins_register (o:El T_api_Opd):Empty→Nat×St:=fun j=>nomatch j
theorem en_ins_register (o:El T_api_Opd) (L:Lt):entryA Go.Proofs.Tryz.prog (clOf t_ins_register) tb_ins_register Go.Proofs.Tryz.f149 c_ins_register L (toForms sg_ins_register (o,()))=(T0_ins_register o).run (fun v=>some (R_ins_register v,tps (toForms sg_ins_register (o,())))) fun j=>L (S_ins_register o j).1 (S_ins_register o j).2:=by kernel_rfl
theorem lp_ins_register (o:El T_api_Opd):∀(L:Lt) (j:Empty),procOf (procsF Go.Proofs.Tryz.prog (clOf t_ins_register) tb_ins_register Go.Proofs.Tryz.f149 c_ins_register (toForms sg_ins_register (o,()))) (S_ins_register o j).1 L (S_ins_register o j).2=(T_ins_register o j).run (fun v=>some (R_ins_register v,tps (toForms sg_ins_register (o,())))) fun j=>L (S_ins_register o j).1 (S_ins_register o j).2:=fun L j=>nomatch j
noncomputable def e_ins_register:Run:=entT sg_ins_register R_ins_register (fun a=>v_ins_register a.1)
theorem ok_ins_register:EntOK Go.Proofs.Tryz.prog 149 e_ins_register:=entT_ok (tb:=tb_ins_register) (c:=c_ins_register) tk_ins_register (by kernel_rfl) (by kernel_rfl) (by kernel_rfl) (fun a=>by kernel_rfl) fun ⟨o,_⟩=>evF_goes (c:=c_ins_register) (K:=fun v=>(R_ins_register v,tps (toForms sg_ins_register (o,())))) (S:=S_ins_register o) (by kernel_rfl) (en_ins_register o) (lp_ins_register o) (g_ins_register o)
end
end Go.Ev
end

section
open Go Go.Ev
namespace Go.Ev
noncomputable section
noncomputable def t_opnd_Memory:Tbl:=[]
theorem tk_opnd_Memory:∀p∈t_opnd_Memory,EntOK Go.Proofs.Tryz.prog p.1 p.2:=tbl_nil
noncomputable def c_opnd_Memory:Code:=Go.Proofs.Tryz.f139.body.getD .skip
noncomputable def e_opnd_Memory:Run:=entE Go.Proofs.Tryz.prog t_opnd_Memory Go.Proofs.Tryz.f139 c_opnd_Memory
theorem ok_opnd_Memory:EntOK Go.Proofs.Tryz.prog 139 e_opnd_Memory:=entE_ok tk_opnd_Memory (by kernel_rfl) (by kernel_rfl) (by kernel_rfl) (fun xs=>by kernel_rfl)
end
end Go.Ev
end

section
open Go Go.Ev
namespace Go.Ev
noncomputable section
def sg_ins_memory:Sig:=[(true,T_api_Opd)]
noncomputable def t_ins_memory:Tbl:=[(138,e_opnd_Of),(139,e_opnd_Memory)]
theorem tk_ins_memory:∀p∈t_ins_memory,EntOK Go.Proofs.Tryz.prog p.1 p.2:=tbl_cons ok_opnd_Of (tbl_cons ok_opnd_Memory (tbl_nil))
noncomputable def c_ins_memory:Code:=Go.Proofs.Tryz.f115.body.getD .skip
def tb_ins_memory:Tb:=[]
def T_ins_memory (o:El T_api_Opd):Empty→JT Empty (Bool):=fun j=>nomatch j
def T0_ins_memory (o:El T_api_Opd):JT Empty (Bool):=.br (! (v_opnd_Right o)) (.leaf false) (.br (o.1==(1:Int)) (.leaf false) (.br (o.1==(2:Int)) (.leaf false) (.br (o.1==(3:Int)) (.leaf true) (.leaf true))))
def v_ins_memory (o:El T_api_Opd):Bool:=bif (! (v_opnd_Right o)) then false else bif (o.1==(1:Int)) then false else bif (o.1==(2:Int)) then false else bif (o.1==(3:Int)) then true else true
theorem g_ins_memory (o:El T_api_Opd):Goes (T_ins_memory o) (T0_ins_memory o) (v_ins_memory o):=Goes.br (Goes.leaf) (Goes.br (Goes.leaf) (Goes.br (Goes.leaf) (Goes.br (Goes.leaf) (Goes.leaf))))
def R_ins_memory:Bool→AV:=fun (r:Bool)=>.d .bool r
def S_ins_memory (o:El T_api_Opd):Empty→Nat×St:=fun j=>nomatch j
theorem en_ins_memory (o:El T_api_Opd) (L:Lt):entryA Go.Proofs.Tryz.prog (clOf t_ins_memory) tb_ins_memory Go.Proofs.Tryz.f115 c_ins_memory L (toForms sg_ins_memory (o,()))=(T0_ins_memory o).run (fun v=>some (R_ins_memory v,tps (toForms sg_ins_memory (o,())))) fun j=>L (S_ins_memory o j).1 (S_ins_memory o j).2:=by kernel_rfl
theorem lp_ins_memory (o:El T_api_Opd):∀(L:Lt) (j:Empty),procOf (procsF Go.Proofs.Tryz.prog (clOf t_ins_memory) tb_ins_memory Go.Proofs.Tryz.f115 c_ins_memory (toForms sg_ins_memory (o,()))) (S_ins_memory o j).1 L (S_ins_memory o j).2=(T_ins_memory o j).run (fun v=>some (R_ins_memory v,tps (toForms sg_ins_memory (o,())))) fun j=>L (S_ins_memory o j).1 (S_ins_memory o j).2:=fun L j=>nomatch j
noncomputable def e_ins_memory:Run:=entT sg_ins_memory R_ins_memory (fun a=>v_ins_memory a.1)
theorem ok_ins_memory:EntOK Go.Proofs.Tryz.prog 115 e_ins_memory:=entT_ok (tb:=tb_ins_memory) (c:=c_ins_memory) tk_ins_memory (by kernel_rfl) (by kernel_rfl) (by kernel_rfl) (fun a=>by kernel_rfl) fun ⟨o,_⟩=>evF_goes (c:=c_ins_memory) (K:=fun v=>(R_ins_memory v,tps (toForms sg_ins_memory (o,())))) (S:=S_ins_memory o) (by kernel_rfl) (en_ins_memory o) (lp_ins_memory o) (g_ins_memory o)
end
end Go.Ev
end

section
open Go Go.Ev
namespace Go.Ev
noncomputable section
def sg_ins_plain:Sig:=[(true,T_api_Opd)]
noncomputable def t_ins_plain:Tbl:=[(152,e_opnd_Right),(115,e_ins_memory)]
theorem tk_ins_plain:∀p∈t_ins_plain,EntOK Go.Proofs.Tryz.prog p.1 p.2:=tbl_cons ok_opnd_Right (tbl_cons ok_ins_memory (tbl_nil))
noncomputable def c_ins_plain:Code:=Go.Proofs.Tryz.f150.body.getD .skip
def tb_ins_plain:Tb:=[]
def T_ins_plain (o:El T_api_Opd):Empty→JT Empty (Bool):=fun j=>nomatch j
def T0_ins_plain (o:El T_api_Opd):JT Empty (Bool):=.br (v_opnd_Right o) (.leaf (! (v_ins_memory o))) (.leaf false)
def v_ins_plain (o:El T_api_Opd):Bool:=bif (v_opnd_Right o) then (! (v_ins_memory o)) else false
theorem g_ins_plain (o:El T_api_Opd):Goes (T_ins_plain o) (T0_ins_plain o) (v_ins_plain o):=Goes.br (Goes.leaf) (Goes.leaf)
def R_ins_plain:Bool→AV:=fun (r:Bool)=>.d .bool r
def S_ins_plain (o:El T_api_Opd):Empty→Nat×St:=fun j=>nomatch j
theorem en_ins_plain (o:El T_api_Opd) (L:Lt):entryA Go.Proofs.Tryz.prog (clOf t_ins_plain) tb_ins_plain Go.Proofs.Tryz.f150 c_ins_plain L (toForms sg_ins_plain (o,()))=(T0_ins_plain o).run (fun v=>some (R_ins_plain v,tps (toForms sg_ins_plain (o,())))) fun j=>L (S_ins_plain o j).1 (S_ins_plain o j).2:=by kernel_rfl
theorem lp_ins_plain (o:El T_api_Opd):∀(L:Lt) (j:Empty),procOf (procsF Go.Proofs.Tryz.prog (clOf t_ins_plain) tb_ins_plain Go.Proofs.Tryz.f150 c_ins_plain (toForms sg_ins_plain (o,()))) (S_ins_plain o j).1 L (S_ins_plain o j).2=(T_ins_plain o j).run (fun v=>some (R_ins_plain v,tps (toForms sg_ins_plain (o,())))) fun j=>L (S_ins_plain o j).1 (S_ins_plain o j).2:=fun L j=>nomatch j
noncomputable def e_ins_plain:Run:=entT sg_ins_plain R_ins_plain (fun a=>v_ins_plain a.1)
theorem ok_ins_plain:EntOK Go.Proofs.Tryz.prog 150 e_ins_plain:=entT_ok (tb:=tb_ins_plain) (c:=c_ins_plain) tk_ins_plain (by kernel_rfl) (by kernel_rfl) (by kernel_rfl) (fun a=>by kernel_rfl) fun ⟨o,_⟩=>evF_goes (c:=c_ins_plain) (K:=fun v=>(R_ins_plain v,tps (toForms sg_ins_plain (o,())))) (S:=S_ins_plain o) (by kernel_rfl) (en_ins_plain o) (lp_ins_plain o) (g_ins_plain o)
end
end Go.Ev
end

section
open Go Go.Ev
namespace Go.Ev
noncomputable section
def sg_ins_reckons:Sig:=[(false,(.int .i64))]
noncomputable def t_ins_reckons:Tbl:=[]
theorem tk_ins_reckons:∀p∈t_ins_reckons,EntOK Go.Proofs.Tryz.prog p.1 p.2:=tbl_nil
noncomputable def c_ins_reckons:Code:=Go.Proofs.Tryz.f151.body.getD .skip
def tb_ins_reckons:Tb:=[]
def T_ins_reckons (op:Int):Empty→JT Empty (Bool):=fun j=>nomatch j
def T0_ins_reckons (op:Int):JT Empty (Bool):=.br (decide (op≥(2:Int))) (.leaf (decide (op≤(6:Int)))) (.leaf false)
def v_ins_reckons (op:Int):Bool:=bif (decide (op≥(2:Int))) then (decide (op≤(6:Int))) else false
theorem g_ins_reckons (op:Int):Goes (T_ins_reckons op) (T0_ins_reckons op) (v_ins_reckons op):=Goes.br (Goes.leaf) (Goes.leaf)
def R_ins_reckons:Bool→AV:=fun (r:Bool)=>.d .bool r
def S_ins_reckons (op:Int):Empty→Nat×St:=fun j=>nomatch j
theorem en_ins_reckons (op:Int) (L:Lt):entryA Go.Proofs.Tryz.prog (clOf t_ins_reckons) tb_ins_reckons Go.Proofs.Tryz.f151 c_ins_reckons L (toForms sg_ins_reckons (op,()))=(T0_ins_reckons op).run (fun v=>some (R_ins_reckons v,tps (toForms sg_ins_reckons (op,())))) fun j=>L (S_ins_reckons op j).1 (S_ins_reckons op j).2:=by kernel_rfl
theorem lp_ins_reckons (op:Int):∀(L:Lt) (j:Empty),procOf (procsF Go.Proofs.Tryz.prog (clOf t_ins_reckons) tb_ins_reckons Go.Proofs.Tryz.f151 c_ins_reckons (toForms sg_ins_reckons (op,()))) (S_ins_reckons op j).1 L (S_ins_reckons op j).2=(T_ins_reckons op j).run (fun v=>some (R_ins_reckons v,tps (toForms sg_ins_reckons (op,())))) fun j=>L (S_ins_reckons op j).1 (S_ins_reckons op j).2:=fun L j=>nomatch j
noncomputable def e_ins_reckons:Run:=entT sg_ins_reckons R_ins_reckons (fun a=>v_ins_reckons a.1)
theorem ok_ins_reckons:EntOK Go.Proofs.Tryz.prog 151 e_ins_reckons:=entT_ok (tb:=tb_ins_reckons) (c:=c_ins_reckons) tk_ins_reckons (by kernel_rfl) (by kernel_rfl) (by kernel_rfl) (fun a=>by kernel_rfl) fun ⟨op,_⟩=>evF_goes (c:=c_ins_reckons) (K:=fun v=>(R_ins_reckons v,tps (toForms sg_ins_reckons (op,())))) (S:=S_ins_reckons op) (by kernel_rfl) (en_ins_reckons op) (lp_ins_reckons op) (g_ins_reckons op)
end
end Go.Ev
end

section
open Go Go.Ev
namespace Go.Ev
noncomputable section
def sg_ins_fits:Sig:=[(true,T_api_Ins)]
noncomputable def t_ins_fits:Tbl:=[(149,e_ins_register),(150,e_ins_plain),(115,e_ins_memory),(151,e_ins_reckons)]
theorem tk_ins_fits:∀p∈t_ins_fits,EntOK Go.Proofs.Tryz.prog p.1 p.2:=tbl_cons ok_ins_register (tbl_cons ok_ins_plain (tbl_cons ok_ins_memory (tbl_cons ok_ins_reckons (tbl_nil))))
noncomputable def c_ins_fits:Code:=Go.Proofs.Tryz.f137.body.getD .skip
def tb_ins_fits:Tb:=[(1,⟨[1,25,28,35,38,65,68],[]⟩),(7,⟨[1,3,65,68],[]⟩)]
inductive J_ins_fits where | l1 | l7 (two:Bool)
def T_ins_fits (i:El T_api_Ins):J_ins_fits→JT J_ins_fits (Bool) |.l1=>.br (v_ins_register i.2.2.2.1) (.br (v_ins_plain i.2.2.2.2.1) (.jmp (.l7 true)) (.br (v_ins_memory i.2.2.2.2.1) (.jmp (.l7 true)) (.br (v_ins_memory i.2.2.2.1) (.jmp (.l7 (v_ins_plain i.2.2.2.2.1))) (.jmp (.l7 false))))) (.br (v_ins_memory i.2.2.2.1) (.jmp (.l7 (v_ins_plain i.2.2.2.2.1))) (.jmp (.l7 false))) |.l7 two=>.br (i.1==(1:Int)) (.br two (.leaf (! i.2.1)) (.leaf false)) (.br (i.1==(7:Int)) (.br two (.leaf (! i.2.1)) (.leaf false)) (.br (v_ins_reckons i.1) (.br two (.br (! i.2.1) (.leaf true) (.leaf (v_ins_memory i.2.2.2.1))) (.leaf false)) (.br (i.1==(8:Int)) (.br (v_ins_memory i.2.2.2.1) (.br (v_ins_register i.2.2.2.2.1) (.leaf (i.2.1==(i.1==(9:Int)))) (.leaf false)) (.leaf false)) (.br (i.1==(9:Int)) (.br (v_ins_memory i.2.2.2.1) (.br (v_ins_register i.2.2.2.2.1) (.leaf (i.2.1==(i.1==(9:Int)))) (.leaf false)) (.leaf false)) (.br (decide (i.1≥(10:Int))) (.br (decide (i.1≤(14:Int))) (.br (! i.2.1) (.br ((i.2.2.2.1.1==(0:Int))&&((i.2.2.2.1.2.1==(0:Int))&&((i.2.2.2.1.2.2.1==(0:Int))&&(i.2.2.2.1.2.2.2==(0:Int))))) (.leaf ((i.2.2.2.2.1.1==(0:Int))&&((i.2.2.2.2.1.2.1==(0:Int))&&((i.2.2.2.2.1.2.2.1==(0:Int))&&(i.2.2.2.2.1.2.2.2==(0:Int)))))) (.leaf false)) (.leaf false)) (.leaf false)) (.leaf false))))))
def T0_ins_fits (i:El T_api_Ins):JT J_ins_fits (Bool):=.br (i.1==(11:Int)) (.br (decide (i.2.2.1 < (1:Int))) (.leaf false) (.br (decide (i.2.2.1 > (10:Int))) (.leaf false) (.jmp (.l1)))) (.br (i.2.2.1 !=(0:Int)) (.leaf false) (.jmp (.l1)))
def v_ins_fits_l7 (i:El T_api_Ins) (two:Bool):Bool:=bif (i.1==(1:Int)) then bif two then (! i.2.1) else false else bif (i.1==(7:Int)) then bif two then (! i.2.1) else false else bif (v_ins_reckons i.1) then bif two then bif (! i.2.1) then true else (v_ins_memory i.2.2.2.1) else false else bif (i.1==(8:Int)) then bif (v_ins_memory i.2.2.2.1) then bif (v_ins_register i.2.2.2.2.1) then (i.2.1==(i.1==(9:Int))) else false else false else bif (i.1==(9:Int)) then bif (v_ins_memory i.2.2.2.1) then bif (v_ins_register i.2.2.2.2.1) then (i.2.1==(i.1==(9:Int))) else false else false else bif (decide (i.1≥(10:Int))) then bif (decide (i.1≤(14:Int))) then bif (! i.2.1) then bif ((i.2.2.2.1.1==(0:Int))&&((i.2.2.2.1.2.1==(0:Int))&&((i.2.2.2.1.2.2.1==(0:Int))&&(i.2.2.2.1.2.2.2==(0:Int))))) then ((i.2.2.2.2.1.1==(0:Int))&&((i.2.2.2.2.1.2.1==(0:Int))&&((i.2.2.2.2.1.2.2.1==(0:Int))&&(i.2.2.2.2.1.2.2.2==(0:Int))))) else false else false else false else false
theorem g_ins_fits_l7 (i:El T_api_Ins) (two:Bool):Goes (T_ins_fits i) (.jmp (.l7 two)) (v_ins_fits_l7 i two):=Goes.jmp (Goes.br (Goes.br (Goes.leaf) (Goes.leaf)) (Goes.br (Goes.br (Goes.leaf) (Goes.leaf)) (Goes.br (Goes.br (Goes.br (Goes.leaf) (Goes.leaf)) (Goes.leaf)) (Goes.br (Goes.br (Goes.br (Goes.leaf) (Goes.leaf)) (Goes.leaf)) (Goes.br (Goes.br (Goes.br (Goes.leaf) (Goes.leaf)) (Goes.leaf)) (Goes.br (Goes.br (Goes.br (Goes.br (Goes.leaf) (Goes.leaf)) (Goes.leaf)) (Goes.leaf)) (Goes.leaf)))))))
def v_ins_fits_l1 (i:El T_api_Ins):Bool:=bif (v_ins_register i.2.2.2.1) then bif (v_ins_plain i.2.2.2.2.1) then v_ins_fits_l7 i true else bif (v_ins_memory i.2.2.2.2.1) then v_ins_fits_l7 i true else bif (v_ins_memory i.2.2.2.1) then v_ins_fits_l7 i (v_ins_plain i.2.2.2.2.1) else v_ins_fits_l7 i false else bif (v_ins_memory i.2.2.2.1) then v_ins_fits_l7 i (v_ins_plain i.2.2.2.2.1) else v_ins_fits_l7 i false
theorem g_ins_fits_l1 (i:El T_api_Ins):Goes (T_ins_fits i) (.jmp (.l1)) (v_ins_fits_l1 i):=Goes.jmp (Goes.br (Goes.br (g_ins_fits_l7 i true) (Goes.br (g_ins_fits_l7 i true) (Goes.br (g_ins_fits_l7 i (v_ins_plain i.2.2.2.2.1)) (g_ins_fits_l7 i false)))) (Goes.br (g_ins_fits_l7 i (v_ins_plain i.2.2.2.2.1)) (g_ins_fits_l7 i false)))
def v_ins_fits (i:El T_api_Ins):Bool:=bif (i.1==(11:Int)) then bif (decide (i.2.2.1 < (1:Int))) then false else bif (decide (i.2.2.1 > (10:Int))) then false else v_ins_fits_l1 i else bif (i.2.2.1 !=(0:Int)) then false else v_ins_fits_l1 i
theorem g_ins_fits (i:El T_api_Ins):Goes (T_ins_fits i) (T0_ins_fits i) (v_ins_fits i):=Goes.br (Goes.br (Goes.leaf) (Goes.br (Goes.leaf) (g_ins_fits_l1 i))) (Goes.br (Goes.leaf) (g_ins_fits_l1 i))
def R_ins_fits:Bool→AV:=fun (r:Bool)=>.d .bool r
def S_ins_fits (i:El T_api_Ins):J_ins_fits→Nat×St |.l1=>(1,⟨mkTm 120 [(1,.pt 2 0 0)],[(2,0,.box 53 [.d (.int .i64) i.1,.d .bool i.2.1,.d (.int .i64) i.2.2.1,.d (.int .i64) i.2.2.2.1.1,.d (.int .i64) i.2.2.2.1.2.1,.d (.int .i64) i.2.2.2.1.2.2.1,.d (.int .i64) i.2.2.2.1.2.2.2,.d (.int .i64) i.2.2.2.2.1.1,.d (.int .i64) i.2.2.2.2.1.2.1,.d (.int .i64) i.2.2.2.2.1.2.2.1,.d (.int .i64) i.2.2.2.2.1.2.2.2,.d .str i.2.2.2.2.2.1,.d (.sl .str) i.2.2.2.2.2.2] none)]⟩) |.l7 two=>(7,⟨mkTm 120 [(1,.pt 2 0 0),(3,.d .bool two)],[(2,0,.box 53 [.d (.int .i64) i.1,.d .bool i.2.1,.d (.int .i64) i.2.2.1,.d (.int .i64) i.2.2.2.1.1,.d (.int .i64) i.2.2.2.1.2.1,.d (.int .i64) i.2.2.2.1.2.2.1,.d (.int .i64) i.2.2.2.1.2.2.2,.d (.int .i64) i.2.2.2.2.1.1,.d (.int .i64) i.2.2.2.2.1.2.1,.d (.int .i64) i.2.2.2.2.1.2.2.1,.d (.int .i64) i.2.2.2.2.1.2.2.2,.d .str i.2.2.2.2.2.1,.d (.sl .str) i.2.2.2.2.2.2] none)]⟩)
theorem en_ins_fits (i:El T_api_Ins) (L:Lt):entryA Go.Proofs.Tryz.prog (clOf t_ins_fits) tb_ins_fits Go.Proofs.Tryz.f137 c_ins_fits L (toForms sg_ins_fits (i,()))=(T0_ins_fits i).run (fun v=>some (R_ins_fits v,tps (toForms sg_ins_fits (i,())))) fun j=>L (S_ins_fits i j).1 (S_ins_fits i j).2:=by kernel_rfl
theorem lp_ins_fits (i:El T_api_Ins):∀(L:Lt) (j:J_ins_fits),procOf (procsF Go.Proofs.Tryz.prog (clOf t_ins_fits) tb_ins_fits Go.Proofs.Tryz.f137 c_ins_fits (toForms sg_ins_fits (i,()))) (S_ins_fits i j).1 L (S_ins_fits i j).2=(T_ins_fits i j).run (fun v=>some (R_ins_fits v,tps (toForms sg_ins_fits (i,())))) fun j=>L (S_ins_fits i j).1 (S_ins_fits i j).2 | L,.l1=>by kernel_rfl | L,.l7 two=>by kernel_rfl
noncomputable def e_ins_fits:Run:=entT sg_ins_fits R_ins_fits (fun a=>v_ins_fits a.1)
theorem ok_ins_fits:EntOK Go.Proofs.Tryz.prog 137 e_ins_fits:=entT_ok (tb:=tb_ins_fits) (c:=c_ins_fits) tk_ins_fits (by kernel_rfl) (by kernel_rfl) (by kernel_rfl) (fun a=>by kernel_rfl) fun ⟨i,_⟩=>evF_goes (c:=c_ins_fits) (K:=fun v=>(R_ins_fits v,tps (toForms sg_ins_fits (i,())))) (S:=S_ins_fits i) (by kernel_rfl) (en_ins_fits i) (lp_ins_fits i) (g_ins_fits i)
end
end Go.Ev
end

section
open Go Go.Ev
namespace Go.Ev
noncomputable section
def sg_ref1_OpdRight:Sig:=[(true,T_api_Opd)]
noncomputable def t_ref1_OpdRight:Tbl:=[]
theorem tk_ref1_OpdRight:∀p∈t_ref1_OpdRight,EntOK Go.Proofs.Tryz.prog p.1 p.2:=tbl_nil
noncomputable def c_ref1_OpdRight:Code:=Go.Proofs.Tryz.f118.body.getD .skip
def tb_ref1_OpdRight:Tb:=[]
def T_ref1_OpdRight (o:El T_api_Opd):Empty→JT Empty (Bool):=fun j=>nomatch j
def T0_ref1_OpdRight (o:El T_api_Opd):JT Empty (Bool):=.br (o.1==(1:Int)) (.br (decide (o.2.1≥(0:Int))) (.br (decide (o.2.1≤(7:Int))) (.br (o.2.2.1==(0:Int)) (.leaf (o.2.2.2==(0:Int))) (.leaf false)) (.leaf false)) (.leaf false)) (.br (o.1==(2:Int)) (.br (o.2.1==(0:Int)) (.leaf (o.2.2.1==(0:Int))) (.leaf false)) (.br (o.1==(3:Int)) (.br (decide (o.2.2.1≥(0:Int))) (.br (decide (o.2.2.2≥(0:Int))) (.leaf (o.2.1==(0:Int))) (.leaf false)) (.leaf false)) (.br (o.1==(4:Int)) (.br (decide (o.2.2.1≥(0:Int))) (.br (decide (o.2.1≥(0:Int))) (.br (decide (o.2.1≤(7:Int))) (.leaf (o.2.2.2==(0:Int))) (.leaf false)) (.leaf false)) (.leaf false)) (.leaf false))))
def v_ref1_OpdRight (o:El T_api_Opd):Bool:=bif (o.1==(1:Int)) then bif (decide (o.2.1≥(0:Int))) then bif (decide (o.2.1≤(7:Int))) then bif (o.2.2.1==(0:Int)) then (o.2.2.2==(0:Int)) else false else false else false else bif (o.1==(2:Int)) then bif (o.2.1==(0:Int)) then (o.2.2.1==(0:Int)) else false else bif (o.1==(3:Int)) then bif (decide (o.2.2.1≥(0:Int))) then bif (decide (o.2.2.2≥(0:Int))) then (o.2.1==(0:Int)) else false else false else bif (o.1==(4:Int)) then bif (decide (o.2.2.1≥(0:Int))) then bif (decide (o.2.1≥(0:Int))) then bif (decide (o.2.1≤(7:Int))) then (o.2.2.2==(0:Int)) else false else false else false else false
theorem g_ref1_OpdRight (o:El T_api_Opd):Goes (T_ref1_OpdRight o) (T0_ref1_OpdRight o) (v_ref1_OpdRight o):=Goes.br (Goes.br (Goes.br (Goes.br (Goes.leaf) (Goes.leaf)) (Goes.leaf)) (Goes.leaf)) (Goes.br (Goes.br (Goes.leaf) (Goes.leaf)) (Goes.br (Goes.br (Goes.br (Goes.leaf) (Goes.leaf)) (Goes.leaf)) (Goes.br (Goes.br (Goes.br (Goes.br (Goes.leaf) (Goes.leaf)) (Goes.leaf)) (Goes.leaf)) (Goes.leaf))))
def R_ref1_OpdRight:Bool→AV:=fun (r:Bool)=>.d .bool r
def S_ref1_OpdRight (o:El T_api_Opd):Empty→Nat×St:=fun j=>nomatch j
theorem en_ref1_OpdRight (o:El T_api_Opd) (L:Lt):entryA Go.Proofs.Tryz.prog (clOf t_ref1_OpdRight) tb_ref1_OpdRight Go.Proofs.Tryz.f118 c_ref1_OpdRight L (toForms sg_ref1_OpdRight (o,()))=(T0_ref1_OpdRight o).run (fun v=>some (R_ref1_OpdRight v,tps (toForms sg_ref1_OpdRight (o,())))) fun j=>L (S_ref1_OpdRight o j).1 (S_ref1_OpdRight o j).2:=by kernel_rfl
theorem lp_ref1_OpdRight (o:El T_api_Opd):∀(L:Lt) (j:Empty),procOf (procsF Go.Proofs.Tryz.prog (clOf t_ref1_OpdRight) tb_ref1_OpdRight Go.Proofs.Tryz.f118 c_ref1_OpdRight (toForms sg_ref1_OpdRight (o,()))) (S_ref1_OpdRight o j).1 L (S_ref1_OpdRight o j).2=(T_ref1_OpdRight o j).run (fun v=>some (R_ref1_OpdRight v,tps (toForms sg_ref1_OpdRight (o,())))) fun j=>L (S_ref1_OpdRight o j).1 (S_ref1_OpdRight o j).2:=fun L j=>nomatch j
noncomputable def e_ref1_OpdRight:Run:=entT sg_ref1_OpdRight R_ref1_OpdRight (fun a=>v_ref1_OpdRight a.1)
theorem ok_ref1_OpdRight:EntOK Go.Proofs.Tryz.prog 118 e_ref1_OpdRight:=entT_ok (tb:=tb_ref1_OpdRight) (c:=c_ref1_OpdRight) tk_ref1_OpdRight (by kernel_rfl) (by kernel_rfl) (by kernel_rfl) (fun a=>by kernel_rfl) fun ⟨o,_⟩=>evF_goes (c:=c_ref1_OpdRight) (K:=fun v=>(R_ref1_OpdRight v,tps (toForms sg_ref1_OpdRight (o,())))) (S:=S_ref1_OpdRight o) (by kernel_rfl) (en_ref1_OpdRight o) (lp_ref1_OpdRight o) (g_ref1_OpdRight o)
end
end Go.Ev
end

section
open Go Go.Ev
namespace Go.Ev
noncomputable section
def sg_ref1_Memory:Sig:=[(true,T_api_Opd)]
noncomputable def t_ref1_Memory:Tbl:=[]
theorem tk_ref1_Memory:∀p∈t_ref1_Memory,EntOK Go.Proofs.Tryz.prog p.1 p.2:=tbl_nil
noncomputable def c_ref1_Memory:Code:=Go.Proofs.Tryz.f101.body.getD .skip
def tb_ref1_Memory:Tb:=[]
def T_ref1_Memory (o:El T_api_Opd):Empty→JT Empty (Bool):=fun j=>nomatch j
def T0_ref1_Memory (o:El T_api_Opd):JT Empty (Bool):=.br (o.1==(3:Int)) (.leaf true) (.leaf (o.1==(4:Int)))
def v_ref1_Memory (o:El T_api_Opd):Bool:=bif (o.1==(3:Int)) then true else (o.1==(4:Int))
theorem g_ref1_Memory (o:El T_api_Opd):Goes (T_ref1_Memory o) (T0_ref1_Memory o) (v_ref1_Memory o):=Goes.br (Goes.leaf) (Goes.leaf)
def R_ref1_Memory:Bool→AV:=fun (r:Bool)=>.d .bool r
def S_ref1_Memory (o:El T_api_Opd):Empty→Nat×St:=fun j=>nomatch j
theorem en_ref1_Memory (o:El T_api_Opd) (L:Lt):entryA Go.Proofs.Tryz.prog (clOf t_ref1_Memory) tb_ref1_Memory Go.Proofs.Tryz.f101 c_ref1_Memory L (toForms sg_ref1_Memory (o,()))=(T0_ref1_Memory o).run (fun v=>some (R_ref1_Memory v,tps (toForms sg_ref1_Memory (o,())))) fun j=>L (S_ref1_Memory o j).1 (S_ref1_Memory o j).2:=by kernel_rfl
theorem lp_ref1_Memory (o:El T_api_Opd):∀(L:Lt) (j:Empty),procOf (procsF Go.Proofs.Tryz.prog (clOf t_ref1_Memory) tb_ref1_Memory Go.Proofs.Tryz.f101 c_ref1_Memory (toForms sg_ref1_Memory (o,()))) (S_ref1_Memory o j).1 L (S_ref1_Memory o j).2=(T_ref1_Memory o j).run (fun v=>some (R_ref1_Memory v,tps (toForms sg_ref1_Memory (o,())))) fun j=>L (S_ref1_Memory o j).1 (S_ref1_Memory o j).2:=fun L j=>nomatch j
noncomputable def e_ref1_Memory:Run:=entT sg_ref1_Memory R_ref1_Memory (fun a=>v_ref1_Memory a.1)
theorem ok_ref1_Memory:EntOK Go.Proofs.Tryz.prog 101 e_ref1_Memory:=entT_ok (tb:=tb_ref1_Memory) (c:=c_ref1_Memory) tk_ref1_Memory (by kernel_rfl) (by kernel_rfl) (by kernel_rfl) (fun a=>by kernel_rfl) fun ⟨o,_⟩=>evF_goes (c:=c_ref1_Memory) (K:=fun v=>(R_ref1_Memory v,tps (toForms sg_ref1_Memory (o,())))) (S:=S_ref1_Memory o) (by kernel_rfl) (en_ref1_Memory o) (lp_ref1_Memory o) (g_ref1_Memory o)
end
end Go.Ev
end

section
open Go Go.Ev
namespace Go.Ev
noncomputable section
def sg_ref1_plain:Sig:=[(true,T_api_Opd)]
noncomputable def t_ref1_plain:Tbl:=[]
theorem tk_ref1_plain:∀p∈t_ref1_plain,EntOK Go.Proofs.Tryz.prog p.1 p.2:=tbl_nil
noncomputable def c_ref1_plain:Code:=Go.Proofs.Tryz.f119.body.getD .skip
def tb_ref1_plain:Tb:=[]
def T_ref1_plain (o:El T_api_Opd):Empty→JT Empty (Bool):=fun j=>nomatch j
def T0_ref1_plain (o:El T_api_Opd):JT Empty (Bool):=.br (o.1==(1:Int)) (.leaf true) (.leaf (o.1==(2:Int)))
def v_ref1_plain (o:El T_api_Opd):Bool:=bif (o.1==(1:Int)) then true else (o.1==(2:Int))
theorem g_ref1_plain (o:El T_api_Opd):Goes (T_ref1_plain o) (T0_ref1_plain o) (v_ref1_plain o):=Goes.br (Goes.leaf) (Goes.leaf)
def R_ref1_plain:Bool→AV:=fun (r:Bool)=>.d .bool r
def S_ref1_plain (o:El T_api_Opd):Empty→Nat×St:=fun j=>nomatch j
theorem en_ref1_plain (o:El T_api_Opd) (L:Lt):entryA Go.Proofs.Tryz.prog (clOf t_ref1_plain) tb_ref1_plain Go.Proofs.Tryz.f119 c_ref1_plain L (toForms sg_ref1_plain (o,()))=(T0_ref1_plain o).run (fun v=>some (R_ref1_plain v,tps (toForms sg_ref1_plain (o,())))) fun j=>L (S_ref1_plain o j).1 (S_ref1_plain o j).2:=by kernel_rfl
theorem lp_ref1_plain (o:El T_api_Opd):∀(L:Lt) (j:Empty),procOf (procsF Go.Proofs.Tryz.prog (clOf t_ref1_plain) tb_ref1_plain Go.Proofs.Tryz.f119 c_ref1_plain (toForms sg_ref1_plain (o,()))) (S_ref1_plain o j).1 L (S_ref1_plain o j).2=(T_ref1_plain o j).run (fun v=>some (R_ref1_plain v,tps (toForms sg_ref1_plain (o,())))) fun j=>L (S_ref1_plain o j).1 (S_ref1_plain o j).2:=fun L j=>nomatch j
noncomputable def e_ref1_plain:Run:=entT sg_ref1_plain R_ref1_plain (fun a=>v_ref1_plain a.1)
theorem ok_ref1_plain:EntOK Go.Proofs.Tryz.prog 119 e_ref1_plain:=entT_ok (tb:=tb_ref1_plain) (c:=c_ref1_plain) tk_ref1_plain (by kernel_rfl) (by kernel_rfl) (by kernel_rfl) (fun a=>by kernel_rfl) fun ⟨o,_⟩=>evF_goes (c:=c_ref1_plain) (K:=fun v=>(R_ref1_plain v,tps (toForms sg_ref1_plain (o,())))) (S:=S_ref1_plain o) (by kernel_rfl) (en_ref1_plain o) (lp_ref1_plain o) (g_ref1_plain o)
end
end Go.Ev
end

section
open Go Go.Ev
namespace Go.Ev
noncomputable section
def sg_ref1_Reckons:Sig:=[(false,(.int .i64))]
noncomputable def t_ref1_Reckons:Tbl:=[]
theorem tk_ref1_Reckons:∀p∈t_ref1_Reckons,EntOK Go.Proofs.Tryz.prog p.1 p.2:=tbl_nil
noncomputable def c_ref1_Reckons:Code:=Go.Proofs.Tryz.f120.body.getD .skip
def tb_ref1_Reckons:Tb:=[]
def T_ref1_Reckons (op:Int):Empty→JT Empty (Bool):=fun j=>nomatch j
def T0_ref1_Reckons (op:Int):JT Empty (Bool):=.br (decide (op≥(2:Int))) (.leaf (decide (op≤(6:Int)))) (.leaf false)
def v_ref1_Reckons (op:Int):Bool:=bif (decide (op≥(2:Int))) then (decide (op≤(6:Int))) else false
theorem g_ref1_Reckons (op:Int):Goes (T_ref1_Reckons op) (T0_ref1_Reckons op) (v_ref1_Reckons op):=Goes.br (Goes.leaf) (Goes.leaf)
def R_ref1_Reckons:Bool→AV:=fun (r:Bool)=>.d .bool r
def S_ref1_Reckons (op:Int):Empty→Nat×St:=fun j=>nomatch j
theorem en_ref1_Reckons (op:Int) (L:Lt):entryA Go.Proofs.Tryz.prog (clOf t_ref1_Reckons) tb_ref1_Reckons Go.Proofs.Tryz.f120 c_ref1_Reckons L (toForms sg_ref1_Reckons (op,()))=(T0_ref1_Reckons op).run (fun v=>some (R_ref1_Reckons v,tps (toForms sg_ref1_Reckons (op,())))) fun j=>L (S_ref1_Reckons op j).1 (S_ref1_Reckons op j).2:=by kernel_rfl
theorem lp_ref1_Reckons (op:Int):∀(L:Lt) (j:Empty),procOf (procsF Go.Proofs.Tryz.prog (clOf t_ref1_Reckons) tb_ref1_Reckons Go.Proofs.Tryz.f120 c_ref1_Reckons (toForms sg_ref1_Reckons (op,()))) (S_ref1_Reckons op j).1 L (S_ref1_Reckons op j).2=(T_ref1_Reckons op j).run (fun v=>some (R_ref1_Reckons v,tps (toForms sg_ref1_Reckons (op,())))) fun j=>L (S_ref1_Reckons op j).1 (S_ref1_Reckons op j).2:=fun L j=>nomatch j
noncomputable def e_ref1_Reckons:Run:=entT sg_ref1_Reckons R_ref1_Reckons (fun a=>v_ref1_Reckons a.1)
theorem ok_ref1_Reckons:EntOK Go.Proofs.Tryz.prog 120 e_ref1_Reckons:=entT_ok (tb:=tb_ref1_Reckons) (c:=c_ref1_Reckons) tk_ref1_Reckons (by kernel_rfl) (by kernel_rfl) (by kernel_rfl) (fun a=>by kernel_rfl) fun ⟨op,_⟩=>evF_goes (c:=c_ref1_Reckons) (K:=fun v=>(R_ref1_Reckons v,tps (toForms sg_ref1_Reckons (op,())))) (S:=S_ref1_Reckons op) (by kernel_rfl) (en_ref1_Reckons op) (lp_ref1_Reckons op) (g_ref1_Reckons op)
end
end Go.Ev
end

section
open Go Go.Ev
namespace Go.Ev
noncomputable section
def sg_ref1_row:Sig:=[(true,T_api_Ins)]
noncomputable def t_ref1_row:Tbl:=[(118,e_ref1_OpdRight),(101,e_ref1_Memory),(119,e_ref1_plain),(120,e_ref1_Reckons)]
theorem tk_ref1_row:∀p∈t_ref1_row,EntOK Go.Proofs.Tryz.prog p.1 p.2:=tbl_cons ok_ref1_OpdRight (tbl_cons ok_ref1_Memory (tbl_cons ok_ref1_plain (tbl_cons ok_ref1_Reckons (tbl_nil))))
noncomputable def c_ref1_row:Code:=Go.Proofs.Tryz.f100.body.getD .skip
def tb_ref1_row:Tb:=[]
def T_ref1_row (i:El T_api_Ins):Empty→JT Empty (Bool):=fun j=>nomatch j
def T0_ref1_row (i:El T_api_Ins):JT Empty (Bool):=.br (decide (i.1 < (1:Int))) (.br ((i.2.2.2.1.1==(0:Int))&&((i.2.2.2.1.2.1==(0:Int))&&((i.2.2.2.1.2.2.1==(0:Int))&&(i.2.2.2.1.2.2.2==(0:Int))))) (.br ((i.2.2.2.2.1.1==(0:Int))&&((i.2.2.2.2.1.2.1==(0:Int))&&((i.2.2.2.2.1.2.2.1==(0:Int))&&(i.2.2.2.2.1.2.2.2==(0:Int))))) (.leaf (! i.2.1)) (.leaf false)) (.leaf false)) (.br (decide (i.1 > (9:Int))) (.br ((i.2.2.2.1.1==(0:Int))&&((i.2.2.2.1.2.1==(0:Int))&&((i.2.2.2.1.2.2.1==(0:Int))&&(i.2.2.2.1.2.2.2==(0:Int))))) (.br ((i.2.2.2.2.1.1==(0:Int))&&((i.2.2.2.2.1.2.1==(0:Int))&&((i.2.2.2.2.1.2.2.1==(0:Int))&&(i.2.2.2.2.1.2.2.2==(0:Int))))) (.leaf (! i.2.1)) (.leaf false)) (.leaf false)) (.br (! (v_ref1_OpdRight i.2.2.2.1)) (.leaf false) (.br (! (v_ref1_OpdRight i.2.2.2.2.1)) (.leaf false) (.br (i.1==(8:Int)) (.br (v_ref1_Memory i.2.2.2.1) (.br (i.2.2.2.2.1.1==(1:Int)) (.leaf (! i.2.1)) (.leaf false)) (.leaf false)) (.br (i.1==(9:Int)) (.br (v_ref1_Memory i.2.2.2.1) (.br (i.2.2.2.2.1.1==(1:Int)) (.leaf i.2.1) (.leaf false)) (.leaf false)) (.br (i.2.2.2.1.1==(1:Int)) (.br (v_ref1_plain i.2.2.2.2.1) (.leaf (! i.2.1)) (.br (v_ref1_Memory i.2.2.2.2.1) (.leaf (! i.2.1)) (.leaf false))) (.br (v_ref1_Memory i.2.2.2.1) (.br (v_ref1_plain i.2.2.2.2.1) (.br (! i.2.1) (.leaf true) (.leaf (v_ref1_Reckons i.1))) (.leaf false)) (.leaf false))))))))
def v_ref1_row (i:El T_api_Ins):Bool:=bif (decide (i.1 < (1:Int))) then bif ((i.2.2.2.1.1==(0:Int))&&((i.2.2.2.1.2.1==(0:Int))&&((i.2.2.2.1.2.2.1==(0:Int))&&(i.2.2.2.1.2.2.2==(0:Int))))) then bif ((i.2.2.2.2.1.1==(0:Int))&&((i.2.2.2.2.1.2.1==(0:Int))&&((i.2.2.2.2.1.2.2.1==(0:Int))&&(i.2.2.2.2.1.2.2.2==(0:Int))))) then (! i.2.1) else false else false else bif (decide (i.1 > (9:Int))) then bif ((i.2.2.2.1.1==(0:Int))&&((i.2.2.2.1.2.1==(0:Int))&&((i.2.2.2.1.2.2.1==(0:Int))&&(i.2.2.2.1.2.2.2==(0:Int))))) then bif ((i.2.2.2.2.1.1==(0:Int))&&((i.2.2.2.2.1.2.1==(0:Int))&&((i.2.2.2.2.1.2.2.1==(0:Int))&&(i.2.2.2.2.1.2.2.2==(0:Int))))) then (! i.2.1) else false else false else bif (! (v_ref1_OpdRight i.2.2.2.1)) then false else bif (! (v_ref1_OpdRight i.2.2.2.2.1)) then false else bif (i.1==(8:Int)) then bif (v_ref1_Memory i.2.2.2.1) then bif (i.2.2.2.2.1.1==(1:Int)) then (! i.2.1) else false else false else bif (i.1==(9:Int)) then bif (v_ref1_Memory i.2.2.2.1) then bif (i.2.2.2.2.1.1==(1:Int)) then i.2.1 else false else false else bif (i.2.2.2.1.1==(1:Int)) then bif (v_ref1_plain i.2.2.2.2.1) then (! i.2.1) else bif (v_ref1_Memory i.2.2.2.2.1) then (! i.2.1) else false else bif (v_ref1_Memory i.2.2.2.1) then bif (v_ref1_plain i.2.2.2.2.1) then bif (! i.2.1) then true else (v_ref1_Reckons i.1) else false else false
theorem g_ref1_row (i:El T_api_Ins):Goes (T_ref1_row i) (T0_ref1_row i) (v_ref1_row i):=Goes.br (Goes.br (Goes.br (Goes.leaf) (Goes.leaf)) (Goes.leaf)) (Goes.br (Goes.br (Goes.br (Goes.leaf) (Goes.leaf)) (Goes.leaf)) (Goes.br (Goes.leaf) (Goes.br (Goes.leaf) (Goes.br (Goes.br (Goes.br (Goes.leaf) (Goes.leaf)) (Goes.leaf)) (Goes.br (Goes.br (Goes.br (Goes.leaf) (Goes.leaf)) (Goes.leaf)) (Goes.br (Goes.br (Goes.leaf) (Goes.br (Goes.leaf) (Goes.leaf))) (Goes.br (Goes.br (Goes.br (Goes.leaf) (Goes.leaf)) (Goes.leaf)) (Goes.leaf))))))))
def R_ref1_row:Bool→AV:=fun (r:Bool)=>.d .bool r
def S_ref1_row (i:El T_api_Ins):Empty→Nat×St:=fun j=>nomatch j
theorem en_ref1_row (i:El T_api_Ins) (L:Lt):entryA Go.Proofs.Tryz.prog (clOf t_ref1_row) tb_ref1_row Go.Proofs.Tryz.f100 c_ref1_row L (toForms sg_ref1_row (i,()))=(T0_ref1_row i).run (fun v=>some (R_ref1_row v,tps (toForms sg_ref1_row (i,())))) fun j=>L (S_ref1_row i j).1 (S_ref1_row i j).2:=by kernel_rfl
theorem lp_ref1_row (i:El T_api_Ins):∀(L:Lt) (j:Empty),procOf (procsF Go.Proofs.Tryz.prog (clOf t_ref1_row) tb_ref1_row Go.Proofs.Tryz.f100 c_ref1_row (toForms sg_ref1_row (i,()))) (S_ref1_row i j).1 L (S_ref1_row i j).2=(T_ref1_row i j).run (fun v=>some (R_ref1_row v,tps (toForms sg_ref1_row (i,())))) fun j=>L (S_ref1_row i j).1 (S_ref1_row i j).2:=fun L j=>nomatch j
noncomputable def e_ref1_row:Run:=entT sg_ref1_row R_ref1_row (fun a=>v_ref1_row a.1)
theorem ok_ref1_row:EntOK Go.Proofs.Tryz.prog 100 e_ref1_row:=entT_ok (tb:=tb_ref1_row) (c:=c_ref1_row) tk_ref1_row (by kernel_rfl) (by kernel_rfl) (by kernel_rfl) (fun a=>by kernel_rfl) fun ⟨i,_⟩=>evF_goes (c:=c_ref1_row) (K:=fun v=>(R_ref1_row v,tps (toForms sg_ref1_row (i,())))) (S:=S_ref1_row i) (by kernel_rfl) (en_ref1_row i) (lp_ref1_row i) (g_ref1_row i)
end
end Go.Ev
end

section
namespace Go.Ev
open Go
theorem reg_eq (r:Int):v_opnd_register r=(decide (0≤r)&&decide (r≤7)):=by
 unfold v_opnd_register
 by_cases h:0≤r <;> by_cases h2:r≤7 <;> simp[h,h2] <;> omega
theorem right_eq (o:El T_api_Opd):v_ref1_OpdRight o=v_opnd_Right o:=by
 unfold v_ref1_OpdRight v_opnd_Right
 simp only[reg_eq]
 obtain ⟨k,r,s,n⟩:=o
 have e:∀x:Int,decide (x≥0)=decide (0≤x):=fun x=>by simp
 simp only[e]
 cases decide ((0:Int)≤(show Int from r)) <;> cases decide ((show Int from r)≤7) <;> rfl
theorem right_kind' {k r s n:Int} (h:v_opnd_Right (k,r,s,n)=true):1≤k∧k≤4:=by
 unfold v_opnd_Right at h
 simp only[Bool.cond_eq_ite,beq_iff_eq] at h
 by_cases h1:k=1
 ·omega
 by_cases h2:k=2
 ·omega
 by_cases h3:k=3
 ·omega
 by_cases h4:k=4
 ·omega
 simp[h1,h2,h3,h4] at h
theorem memory_eq' (k r s n:Int):v_ins_memory (k,r,s,n)=(v_opnd_Right (k,r,s,n)&&(decide (k=3) || decide (k=4))):=by
 unfold v_ins_memory
 cases h:v_opnd_Right (k,r,s,n) with
 | false=>rfl
 | true=>
  have:=right_kind' h
  simp only[Bool.not_true,cond_false,Bool.true_and]
  by_cases h1:k=1 <;> by_cases h2:k=2 <;> by_cases h3:k=3 <;> by_cases h4:k=4 <;> simp[h1,h2,h3,h4] <;> omega
theorem register_eq' (k r s n:Int):v_ins_register (k,r,s,n)=(v_opnd_Right (k,r,s,n)&&decide (k=1)):=by
 unfold v_ins_register
 cases h:v_opnd_Right (k,r,s,n) with
 | false=>rfl
 | true=>
  have:=right_kind' h
  simp only[Bool.not_true,cond_false,Bool.true_and]
  by_cases h1:k=1 <;> by_cases h2:k=2 <;> by_cases h3:k=3 <;> simp[h1,h2,h3] <;> omega
theorem plain_eq' (k r s n:Int):v_ins_plain (k,r,s,n)=(v_opnd_Right (k,r,s,n)&&(decide (k=1) || decide (k=2))):=by
 unfold v_ins_plain
 rw[memory_eq']
 cases h:v_opnd_Right (k,r,s,n) with
 | false=>rfl
 | true=>
  have:=right_kind' h
  simp only[Bool.true_and,cond_true]
  by_cases h1:k=1 <;> by_cases h2:k=2 <;> by_cases h3:k=3 <;> by_cases h4:k=4 <;> simp[h1,h2,h3,h4] <;> omega
theorem refMemory_eq' (k r s n:Int):v_ref1_Memory (k,r,s,n)=(decide (k=3) || decide (k=4)):=by
 unfold v_ref1_Memory
 by_cases h3:k=3 <;> by_cases h4:k=4 <;> simp[h3,h4]
theorem refPlain_eq' (k r s n:Int):v_ref1_plain (k,r,s,n)=(decide (k=1) || decide (k=2)):=by
 unfold v_ref1_plain
 by_cases h3:k=1 <;> by_cases h4:k=2 <;> simp[h3,h4]
theorem reckons_eq (op:Int):v_ins_reckons op=(decide (2≤op)&&decide (op≤6)):=by
 unfold v_ins_reckons
 by_cases h:2≤op <;> by_cases h2:op≤6 <;> simp[h,h2] <;> omega
theorem refReckons_eq (op:Int):v_ref1_Reckons op=(decide (2≤op)&&decide (op≤6)):=by
 unfold v_ref1_Reckons
 by_cases h:2≤op <;> by_cases h2:op≤6 <;> simp[h,h2] <;> omega
def condOK (op cond:Int):Bool:=if op=11 then decide (1≤cond)&&decide (cond≤10) else decide (cond=0)
theorem memory_eq (o:El T_api_Opd):v_ins_memory o=(v_opnd_Right o&&(decide ((show Int from o.1)=3) || decide ((show Int from o.1)=4))):=memory_eq' o.1 o.2.1 o.2.2.1 o.2.2.2
theorem register_eq (o:El T_api_Opd):v_ins_register o=(v_opnd_Right o&&decide ((show Int from o.1)=1)):=register_eq' o.1 o.2.1 o.2.2.1 o.2.2.2
theorem plain_eq (o:El T_api_Opd):v_ins_plain o=(v_opnd_Right o&&(decide ((show Int from o.1)=1) || decide ((show Int from o.1)=2))):=plain_eq' o.1 o.2.1 o.2.2.1 o.2.2.2
theorem refMemory_eq (o:El T_api_Opd):v_ref1_Memory o=(decide ((show Int from o.1)=3) || decide ((show Int from o.1)=4)):=refMemory_eq' o.1 o.2.1 o.2.2.1 o.2.2.2
theorem refPlain_eq (o:El T_api_Opd):v_ref1_plain o=(decide ((show Int from o.1)=1) || decide ((show Int from o.1)=2)):=refPlain_eq' o.1 o.2.1 o.2.2.1 o.2.2.2
theorem right_kind {o:El T_api_Opd} (h:v_opnd_Right o=true):(1:Int)≤o.1∧(show Int from o.1)≤4:=right_kind' (k:=o.1) (r:=o.2.1) (s:=o.2.2.1) (n:=o.2.2.2) h
def fitsB_l7 (op cond kA kB:Int) (lock RA RB zA zB:Bool) (two:Bool):Bool:=
 bif (op==(1:Int)) then
  bif two then
   (! lock)
  else false
 else bif (op==(7:Int)) then
  bif two then
   (! lock)
  else false
 else bif (decide (2≤op)&&decide (op≤6)) then
  bif two then
   bif (! lock) then
    true
   else (RA&&(decide (kA=3) || decide (kA=4)))
  else false
 else bif (op==(8:Int)) then
  bif (RA&&(decide (kA=3) || decide (kA=4))) then
   bif (RB&&decide (kB=1)) then
    (lock==(op==(9:Int)))
   else false
  else false
 else bif (op==(9:Int)) then
  bif (RA&&(decide (kA=3) || decide (kA=4))) then
   bif (RB&&decide (kB=1)) then
    (lock==(op==(9:Int)))
   else false
  else false
 else bif (decide (op≥(10:Int))) then
  bif (decide (op≤(14:Int))) then
   bif (! lock) then
    bif zA then
     zB
    else false
   else false
  else false
 else false
def fitsB_l1 (op cond kA kB:Int) (lock RA RB zA zB:Bool):Bool:=
 bif (RA&&decide (kA=1)) then
  bif (RB&&(decide (kB=1) || decide (kB=2))) then
   fitsB_l7 op cond kA kB lock RA RB zA zB true
  else bif (RB&&(decide (kB=3) || decide (kB=4))) then
   fitsB_l7 op cond kA kB lock RA RB zA zB true
  else bif (RA&&(decide (kA=3) || decide (kA=4))) then
   fitsB_l7 op cond kA kB lock RA RB zA zB (RB&&(decide (kB=1) || decide (kB=2)))
  else fitsB_l7 op cond kA kB lock RA RB zA zB false
 else bif (RA&&(decide (kA=3) || decide (kA=4))) then
  fitsB_l7 op cond kA kB lock RA RB zA zB (RB&&(decide (kB=1) || decide (kB=2)))
 else fitsB_l7 op cond kA kB lock RA RB zA zB false
def fitsB (op cond kA kB:Int) (lock RA RB zA zB:Bool):Bool:=
 bif (op==(11:Int)) then
  bif (decide (cond < (1:Int))) then
   false
  else bif (decide (cond > (10:Int))) then
   false
  else fitsB_l1 op cond kA kB lock RA RB zA zB
 else bif (cond !=(0:Int)) then
  false
 else fitsB_l1 op cond kA kB lock RA RB zA zB
def rowB (op cond kA kB:Int) (lock RA RB zA zB:Bool):Bool:=
 bif (decide (op < (1:Int))) then
  bif zA then
   bif zB then
    (! lock)
   else false
  else false
 else bif (decide (op > (9:Int))) then
  bif zA then
   bif zB then
    (! lock)
   else false
  else false
 else bif (! RA) then
  false
 else bif (! RB) then
  false
 else bif (op==(8:Int)) then
  bif (decide (kA=3) || decide (kA=4)) then
   bif (kB==(1:Int)) then
    (! lock)
   else false
  else false
 else bif (op==(9:Int)) then
  bif (decide (kA=3) || decide (kA=4)) then
   bif (kB==(1:Int)) then
    lock
   else false
  else false
 else bif (kA==(1:Int)) then
  bif (decide (kB=1) || decide (kB=2)) then
   (! lock)
  else bif (decide (kB=3) || decide (kB=4)) then
   (! lock)
  else false
 else bif (decide (kA=3) || decide (kA=4)) then
  bif (decide (kB=1) || decide (kB=2)) then
   bif (! lock) then
    true
   else (decide (2≤op)&&decide (op≤6))
  else false
 else false
theorem tables (op cond kA kB:Int) (lock RA RB zA zB:Bool) (hA:RA=true→1≤kA∧kA≤4) (hB:RB=true→1≤kB∧kB≤4):
  fitsB op cond kA kB lock RA RB zA zB=(decide (1≤op)&&(decide (op≤14)&&(rowB op cond kA kB lock RA RB zA zB&&condOK op cond))):=by
 unfold fitsB fitsB_l1 fitsB_l7 rowB condOK
 have kinds:∀(k:Int),(k=1∧decide (k=1)=true∧decide (k=2)=false∧decide (k=3)=false∧decide (k=4)=false)∨(k=2∧decide (k=1)=false∧decide (k=2)=true∧decide (k=3)=false∧decide (k=4)=false)∨
   (k=3∧decide (k=1)=false∧decide (k=2)=false∧decide (k=3)=true∧decide (k=4)=false)∨(k=4∧decide (k=1)=false∧decide (k=2)=false∧decide (k=3)=false∧decide (k=4)=true)∨
   (¬(1≤k∧k≤4)∧decide (k=1)=false∧decide (k=2)=false∧decide (k=3)=false∧decide (k=4)=false):=fun k=>by
  by_cases h1:k=1
  ·subst h1;simp
  by_cases h2:k=2
  ·subst h2;simp
  by_cases h3:k=3
  ·subst h3;simp
  by_cases h4:k=4
  ·subst h4;simp
  simp[h1,h2,h3,h4];omega
 have beqs:∀(k c:Int),(k==c)=decide (k=c):=fun k c=>by rw[Bool.eq_iff_iff];simp
 simp only[beqs]
 have ops:op < 1∨14 < op∨(1≤op∧op≤14):=by omega
 rcases ops with ho | ho | ho
 ·have e:∀c:Int,1≤c→decide (op=c)=false:=fun c hc=>by simp;omega
  have e2:decide (2≤op)=false:=by simp;omega
  have e3:decide (op≥10)=false:=by simp;omega
  have e4:decide (1≤op)=false:=by simp;omega
  simp only[e 1 (by omega),e 7 (by omega),e 8 (by omega),e 9 (by omega),e 11 (by omega),e2,e3,e4,Bool.false_and,cond_false,Bool.cond_self]
 ·have e:∀c:Int,c≤14→decide (op=c)=false:=fun c hc=>by simp;omega
  have e2:decide (op≤6)=false:=by simp;omega
  have e3:decide (op≥10)=true:=by simp;omega
  have e4:decide (op≤14)=false:=by simp;omega
  simp only[e 1 (by omega),e 7 (by omega),e 8 (by omega),e 9 (by omega),e 11 (by omega),e2,e3,e4,Bool.false_and,Bool.and_false,cond_false,cond_true,Bool.cond_self]
 ·have:op=1∨op=2∨op=3∨op=4∨op=5∨op=6∨op=7∨op=8∨op=9∨op=10∨op=11∨op=12∨op=13∨op=14:=by omega
  have c0:∀P:Bool,(bif decide (cond < 1) then false else bif decide (cond > 10) then false else P)=((decide (1≤cond)&&decide (cond≤10))&&P):=fun P=>by
   by_cases h1:cond < 1 <;> by_cases h2:cond > 10 <;> simp[h1,h2] <;> omega
  have c1:∀P:Bool,(bif cond !=0 then false else P)=(decide (cond=0)&&P):=fun P=>by
   by_cases h1:cond=0 <;> simp[h1]
  simp only[c0,c1]
  generalize (decide (1≤cond)&&decide (cond≤10))=cA
  generalize decide (cond=0)=cB
  have kk:∀(R:Bool) (k:Int),(R=true→1≤k∧k≤4)→(R=false∨(decide (k=1)=true∧decide (k=2)=false∧decide (k=3)=false∧decide (k=4)=false)∨(decide (k=1)=false∧decide (k=2)=true∧decide (k=3)=false∧decide (k=4)=false)∨
   (decide (k=1)=false∧decide (k=2)=false∧decide (k=3)=true∧decide (k=4)=false)∨(decide (k=1)=false∧decide (k=2)=false∧decide (k=3)=false∧decide (k=4)=true)):=fun R k hR=>by
   cases R with
   | false=>exact .inl rfl
   | true=>
    have:=hR rfl
    rcases kinds k with ⟨_,h⟩ | ⟨_,h⟩ | ⟨_,h⟩ | ⟨_,h⟩ | ⟨h,_⟩
    ·exact .inr (.inl h)
    ·exact .inr (.inr (.inl h))
    ·exact .inr (.inr (.inr (.inl h)))
    ·exact .inr (.inr (.inr (.inr h)))
    ·exact absurd this h
  have qA:=kk RA kA hA
  have qB:=kk RB kB hB
  generalize decide (kA=1)=a1 at*
  generalize decide (kA=2)=a2 at*
  generalize decide (kA=3)=a3 at*
  generalize decide (kA=4)=a4 at*
  generalize decide (kB=1)=b1 at*
  generalize decide (kB=2)=b2 at*
  generalize decide (kB=3)=b3 at*
  generalize decide (kB=4)=b4 at*
  clear kinds beqs ho c0 c1 hA hB kk
  rcases this with h | h | h | h | h | h | h | h | h | h | h | h | h | h <;> subst h <;> simp (config:= { decide:=true }) only[cond_true,cond_false,if_true,if_false] <;>
  rcases qA with rfl | ⟨rfl,rfl,rfl,rfl⟩ | ⟨rfl,rfl,rfl,rfl⟩ | ⟨rfl,rfl,rfl,rfl⟩ | ⟨rfl,rfl,rfl,rfl⟩ <;>
  rcases qB with rfl | ⟨rfl,rfl,rfl,rfl⟩ | ⟨rfl,rfl,rfl,rfl⟩ | ⟨rfl,rfl,rfl,rfl⟩ | ⟨rfl,rfl,rfl,rfl⟩ <;>
  cases lock <;> simp[Bool.and_comm,Bool.and_left_comm,Bool.and_assoc]
theorem fits_row (i:El T_api_Ins):v_ins_fits i=(decide ((1:Int)≤i.1)&&(decide ((show Int from i.1)≤14)&&(v_ref1_row i&&condOK i.1 i.2.2.1))):=by
 have h1:v_ins_fits i=fitsB i.1 i.2.2.1 i.2.2.2.1.1 i.2.2.2.2.1.1 i.2.1 (v_opnd_Right i.2.2.2.1) (v_opnd_Right i.2.2.2.2.1) (i.2.2.2.1.1==(0:Int)&&(i.2.2.2.1.2.1==(0:Int)&&(i.2.2.2.1.2.2.1==(0:Int)&&i.2.2.2.1.2.2.2==(0:Int)))) (i.2.2.2.2.1.1==(0:Int)&&(i.2.2.2.2.1.2.1==(0:Int)&&(i.2.2.2.2.1.2.2.1==(0:Int)&&i.2.2.2.2.1.2.2.2==(0:Int)))):=by
  unfold v_ins_fits v_ins_fits_l1 v_ins_fits_l7
  simp only[memory_eq,register_eq,plain_eq,reckons_eq]
  rfl
 have h2:v_ref1_row i=rowB i.1 i.2.2.1 i.2.2.2.1.1 i.2.2.2.2.1.1 i.2.1 (v_opnd_Right i.2.2.2.1) (v_opnd_Right i.2.2.2.2.1) (i.2.2.2.1.1==(0:Int)&&(i.2.2.2.1.2.1==(0:Int)&&(i.2.2.2.1.2.2.1==(0:Int)&&i.2.2.2.1.2.2.2==(0:Int)))) (i.2.2.2.2.1.1==(0:Int)&&(i.2.2.2.2.1.2.1==(0:Int)&&(i.2.2.2.2.1.2.2.1==(0:Int)&&i.2.2.2.2.1.2.2.2==(0:Int)))):=by
  unfold v_ref1_row
  simp only[refMemory_eq,refPlain_eq,refReckons_eq,right_eq]
  rfl
 rw[h1,h2]
 exact tables _ _ _ _ _ _ _ _ _ right_kind right_kind
end Go.Ev
end

section
open Go Go.Ev
namespace Go.Ev
noncomputable section
def sg_glyph_Spots:Sig:=[(false,.str)]
noncomputable def t_glyph_Spots:Tbl:=[(132,e_utf8_DecodeRuneInString),(133,e_utf8_RuneLen),(134,e_glyph_step)]
theorem tk_glyph_Spots:∀p∈t_glyph_Spots,EntOK Go.Proofs.Tryz.prog p.1 p.2:=tbl_cons ok_utf8_DecodeRuneInString (tbl_cons ok_utf8_RuneLen (tbl_cons ok_glyph_step (tbl_nil)))
noncomputable def c_glyph_Spots:Code:=Go.Proofs.Tryz.f105.body.getD .skip
def tb_glyph_Spots:Tb:=[(5,⟨[0,3,4,5,10],[(4,258)]⟩)]
inductive J_glyph_Spots where | l5 (line:Int) (col:Int) (out:List (El T_ref1_Spot)) (pos:Nat)
def T_glyph_Spots (s:ByteArray):J_glyph_Spots→JT J_glyph_Spots (List (El T_ref1_Spot)) |.l5 line col out pos=>.br (decide (pos < (ByteArray.size s))) (.br ((Int.ofNat (Utf8.decode s pos).1)==(65533:Int)) (.br ((((decide ((0:Int)≤(Int.ofNat (ByteArray.size s))))&&(decide ((Int.ofNat (ByteArray.size s))≤(Int.ofNat (ByteArray.size s)))))&&(decide ((0:Int)≤(Int.ofNat pos))))&&(decide ((Int.ofNat pos)≤(Int.ofNat (ByteArray.size s))))) (.br (Nat.ble (((List.length out)+1)*48) limit) (.jmp (.l5 (v_glyph_step line col (Int.ofNat (Utf8.decode s pos).1)).1 (v_glyph_step line col (Int.ofNat (Utf8.decode s pos).1)).2 (out++[((Int.ofNat (Utf8.decode s pos).1),((Int.ofNat pos),((v_utf8_DecodeRuneInString (ByteArray.extract s pos (ByteArray.size s))).2,(line,(col,((v_utf8_DecodeRuneInString (ByteArray.extract s pos (ByteArray.size s))).2==(1:Int)))))))]) (pos+(Utf8.decode s pos).2))) (.no)) (.no)) (.br (Nat.ble (((List.length out)+1)*48) limit) (.jmp (.l5 (v_glyph_step line col (Int.ofNat (Utf8.decode s pos).1)).1 (v_glyph_step line col (Int.ofNat (Utf8.decode s pos).1)).2 (out++[((Int.ofNat (Utf8.decode s pos).1),((Int.ofNat pos),((v_utf8_RuneLen (Int.ofNat (Utf8.decode s pos).1)),(line,(col,false)))))]) (pos+(Utf8.decode s pos).2))) (.no))) (.leaf out)
def T0_glyph_Spots (s:ByteArray):JT J_glyph_Spots (List (El T_ref1_Spot)):=.jmp (.l5 (1:Int) (1:Int) [] 0)
def R_glyph_Spots:List (El T_ref1_Spot)→AV:=fun (r:List (El T_ref1_Spot))=>.rw 131 T_ref1_Spot r
def S_glyph_Spots (s:ByteArray):J_glyph_Spots→Nat×St |.l5 line col out pos=>(5,⟨mkTm 49 [(0,.d .str s),(3,.own 4 0 none),(4,.d (.int .i64) line),(5,.d (.int .i64) col),(10,.it 11 0)],[(4,0,.row 131 T_ref1_Spot out false),(11,0,.sit s pos)]⟩)
theorem en_glyph_Spots (s:ByteArray) (L:Lt):entryA Go.Proofs.Tryz.prog (clOf t_glyph_Spots) tb_glyph_Spots Go.Proofs.Tryz.f105 c_glyph_Spots L (toForms sg_glyph_Spots (s,()))=(T0_glyph_Spots s).run (fun v=>some (R_glyph_Spots v,tps (toForms sg_glyph_Spots (s,())))) fun j=>L (S_glyph_Spots s j).1 (S_glyph_Spots s j).2:=by kernel_rfl
theorem lp_glyph_Spots (s:ByteArray):∀(L:Lt) (j:J_glyph_Spots),procOf (procsF Go.Proofs.Tryz.prog (clOf t_glyph_Spots) tb_glyph_Spots Go.Proofs.Tryz.f105 c_glyph_Spots (toForms sg_glyph_Spots (s,()))) (S_glyph_Spots s j).1 L (S_glyph_Spots s j).2=(T_glyph_Spots s j).run (fun v=>some (R_glyph_Spots v,tps (toForms sg_glyph_Spots (s,())))) fun j=>L (S_glyph_Spots s j).1 (S_glyph_Spots s j).2 | L,.l5 line col out pos=>by kernel_rfl
end
end Go.Ev
end

section
open Go
namespace Go.Ev
def v_glyph_Spots (s:ByteArray):List (El T_glyph_Spot):=spots s
def k_glyph_Spots (s:ByteArray):Bool:=smallText s
theorem g_glyph_Spots (s:ByteArray) (hk:k_glyph_Spots s=true):Goes (T_glyph_Spots s) (T0_glyph_Spots s) (v_glyph_Spots s):=by
 have hs:s.size < 549755813888:=of_decide_eq_true hk
 have loop:∀(n pos:Nat) (line col:Int) (out:List (El T_glyph_Spot)),s.size - pos < n→pos≤s.size→out.length≤pos→
   Goes (T_glyph_Spots s) (.jmp (.l5 line col out pos)) (out++spotsFrom s n pos line col):=by
  intro n
  induction n with
  | zero=>intro pos line col out h;omega
  | succ n ih=>
   intro pos line col out hn hp ho
   rw[goes_jmp]
   simp only[T_glyph_Spots,goes_br]
   by_cases h:pos < s.size
   ·have hd:=dec_le h
    have h1:=dec_ge (s:=s) (pos:=pos)
    have hb:Nat.ble ((out.length+1)*48) limit=true:=by
     apply Nat.ble_eq_true_of_le;unfold limit;omega
    simp only[spotsFrom,h,if_true,decide_true,hb]
    have e0:∀(r:List (El T_glyph_Spot)),out++spotAt s pos line col (badAt s pos) :: r=(out++[spotAt s pos line col (badAt s pos)])++r:=fun r=>List.append_cons ..
    rw[e0]
    by_cases hr:(Utf8.decode s pos).1=65533
    ·have e:(Int.ofNat (Utf8.decode s pos).1==(65533:Int))=true:=by rw[hr];rfl
     have c:(((decide ((0:Int)≤Int.ofNat s.size)&&decide (Int.ofNat s.size≤Int.ofNat s.size))&&decide ((0:Int)≤Int.ofNat pos))&&decide (Int.ofNat pos≤Int.ofNat s.size))=true:=by simp;omega
     rw[e,if_pos rfl,c,if_pos rfl]
     have hv:(v_utf8_DecodeRuneInString (s.extract pos s.size)).2=Int.ofNat (Utf8.decode s pos).2:=by
      unfold v_utf8_DecodeRuneInString
      rw[dec_tail h]
     rw[hv]
     have hbad:(Int.ofNat (Utf8.decode s pos).2==(1:Int))=badAt s pos:=by
      unfold badAt
      rw[hr,Bool.eq_iff_iff]
      simp
      omega
     rw[hbad]
     refine ih (pos+(Utf8.decode s pos).2) _ _ _ (by omega) (by omega) ?_
     rw[List.length_append,List.length_singleton];omega
    ·have e:(Int.ofNat (Utf8.decode s pos).1==(65533:Int))=false:=by
      rw[Bool.eq_false_iff];simp;omega
     rw[e,if_neg (by simp)]
     rw[dec_len hr]
     have hbad:badAt s pos=false:=by unfold badAt;simp[hr]
     rw[hbad]
     refine ih (pos+(Utf8.decode s pos).2) _ _ _ (by omega) (by omega) ?_
     rw[List.length_append,List.length_singleton];omega
   ·simp only[h,decide_false,spotsFrom_end h,List.append_nil]
    simp[goes_leaf]
 unfold T0_glyph_Spots v_glyph_Spots spots
 simpa using loop (s.size+1) 0 1 1 [] (by omega) (by omega) (by simp)
end Go.Ev
end

section
open Go Go.Ev
namespace Go.Ev
noncomputable section
noncomputable def e_glyph_Spots:Run:=entG sg_glyph_Spots R_glyph_Spots (fun a=>k_glyph_Spots a.1) (fun a=>v_glyph_Spots a.1)
theorem ok_glyph_Spots:EntOK Go.Proofs.Tryz.prog 105 e_glyph_Spots:=entG_ok (tb:=tb_glyph_Spots) (c:=c_glyph_Spots) tk_glyph_Spots (by kernel_rfl) (by kernel_rfl) (by kernel_rfl) (fun a=>by kernel_rfl) fun ⟨s,_⟩ hk=>evF_goes (c:=c_glyph_Spots) (K:=fun v=>(R_glyph_Spots v,tps (toForms sg_glyph_Spots (s,())))) (S:=S_glyph_Spots s) (by kernel_rfl) (en_glyph_Spots s) (lp_glyph_Spots s) (g_glyph_Spots s hk)
end
end Go.Ev
end

section
open Go Go.Ev
namespace Go.Ev
noncomputable section
def sg_names_Right:Sig:=[(false,.str)]
noncomputable def t_names_Right:Tbl:=[(105,e_glyph_Spots),(106,e_glyph_Letter),(107,e_glyph_Digit),(108,e_names_Word)]
theorem tk_names_Right:∀p∈t_names_Right,EntOK Go.Proofs.Tryz.prog p.1 p.2:=tbl_cons ok_glyph_Spots (tbl_cons ok_glyph_Letter (tbl_cons ok_glyph_Digit (tbl_cons ok_names_Word (tbl_nil))))
noncomputable def c_names_Right:Code:=Go.Proofs.Tryz.f76.body.getD .skip
def tb_names_Right:Tb:=[(4,⟨[0,3,7,8,9],[]⟩)]
inductive J_names_Right where | l4 (n:Int) (h:Int)
def T_names_Right (s:ByteArray):J_names_Right→JT J_names_Right (Bool) |.l4 n h=>.br (decide (h < (Int.ofNat (List.length (v_glyph_Spots s))))) (.br ((decide ((0:Int)≤h))&&(decide (h < (Int.ofNat (List.length (v_glyph_Spots s)))))) (.br (List.getD (v_glyph_Spots s) (Int.toNat h) (dflt T_ref1_Spot)).2.2.2.2.2 (.leaf false) (.br (! (v_glyph_Letter (List.getD (v_glyph_Spots s) (Int.toNat h) (dflt T_ref1_Spot)).1)) (.br (n==(0:Int)) (.leaf false) (.br (! (v_glyph_Digit (List.getD (v_glyph_Spots s) (Int.toNat h) (dflt T_ref1_Spot)).1)) (.leaf false) (.jmp (.l4 (IntKind.i64.wrap (n+(1:Int))) (IntKind.i64.wrap (h+(1:Int))))))) (.jmp (.l4 (IntKind.i64.wrap (n+(1:Int))) (IntKind.i64.wrap (h+(1:Int))))))) (.no)) (.br (decide (n≥(1:Int))) (.br (decide (n≤(16:Int))) (.leaf (! (v_names_Word s))) (.leaf false)) (.leaf false))
def T0_names_Right (s:ByteArray):JT J_names_Right (Bool):=.br (k_glyph_Spots s) (.jmp (.l4 (0:Int) (0:Int))) (.no)
def R_names_Right:Bool→AV:=fun (r:Bool)=>.d .bool r
def S_names_Right (s:ByteArray):J_names_Right→Nat×St |.l4 n h=>(4,⟨mkTm 45 [(0,.d .str s),(3,.d (.int .i64) n),(7,.own 8 0 none),(8,.d (.int .i64) (Int.ofNat (List.length (v_glyph_Spots s)))),(9,.d (.int .i64) h)],[(8,0,.row 131 T_ref1_Spot (v_glyph_Spots s) false)]⟩)
theorem en_names_Right (s:ByteArray) (L:Lt):entryA Go.Proofs.Tryz.prog (clOf t_names_Right) tb_names_Right Go.Proofs.Tryz.f76 c_names_Right L (toForms sg_names_Right (s,()))=(T0_names_Right s).run (fun v=>some (R_names_Right v,tps (toForms sg_names_Right (s,())))) fun j=>L (S_names_Right s j).1 (S_names_Right s j).2:=by kernel_rfl
theorem lp_names_Right (s:ByteArray):∀(L:Lt) (j:J_names_Right),procOf (procsF Go.Proofs.Tryz.prog (clOf t_names_Right) tb_names_Right Go.Proofs.Tryz.f76 c_names_Right (toForms sg_names_Right (s,()))) (S_names_Right s j).1 L (S_names_Right s j).2=(T_names_Right s j).run (fun v=>some (R_names_Right v,tps (toForms sg_names_Right (s,())))) fun j=>L (S_names_Right s j).1 (S_names_Right s j).2 | L,.l4 n h=>by kernel_rfl
end
end Go.Ev
end

section
open Go
namespace Go.Ev
def v_names_Right (s:ByteArray):Bool:=nameRight s
def k_names_Right (s:ByteArray):Bool:=smallText s
theorem g_names_Right (s:ByteArray) (hk:k_names_Right s=true):Goes (T_names_Right s) (T0_names_Right s) (v_names_Right s):=by
 have hs:s.size < 549755813888:=of_decide_eq_true hk
 have hl:(v_glyph_Spots s).length≤s.size:=spots_length s
 have loop:∀k,k≤(v_glyph_Spots s).length→Goes (T_names_Right s) (.jmp (.l4 (k:Int) (k:Int))) (spotsOK k ((v_glyph_Spots s).drop k)&&(decide (1≤(v_glyph_Spots s).length)&&(decide ((v_glyph_Spots s).length≤16)&& !v_names_Word s))):=by
  refine down ?_ fun k hk ih=>?_
  ·rw[goes_jmp]
   dsimp only[T_names_Right]
   have e1:decide (((v_glyph_Spots s).length:Int)≥1)=decide (1≤(v_glyph_Spots s).length):=by simp <;> omega
   have e2:decide (((v_glyph_Spots s).length:Int)≤16)=decide ((v_glyph_Spots s).length≤16):=by simp <;> omega
   simp only[goes_br,lt_len_not (Nat.lt_irrefl _),goes_leaf,List.drop_length,spotsOK,Bool.true_and,e1,e2]
   cases decide (1≤(v_glyph_Spots s).length) <;> cases decide ((v_glyph_Spots s).length≤16) <;> simp
  ·rw[goes_jmp]
   dsimp only[T_names_Right]
   simp only[goes_br,goes_leaf,lt_len hk,nng,Bool.and_self,if_true,Int.toNat_natCast,getD_lt hk,wrap_succ (k:=k) (by omega)]
   rw[drop_cons hk,spotsOK]
   generalize (v_glyph_Spots s)[k]=x at*
   unfold spotOK
   cases x.2.2.2.2.2
   ·cases v_glyph_Letter x.1
    ·by_cases h0:k=0
     ·subst h0;simp
     ·have e1:((k:Int)==0)=false:=by rw[Bool.eq_false_iff];simp;omega
      have e2:(k==0)=false:=by rw[Bool.eq_false_iff];simpa using h0
      cases v_glyph_Digit x.1
      ·simp[e1,e2]
      ·simpa[e1,e2] using ih
    ·simpa using ih
   ·simp
 unfold T0_names_Right
 rw[goes_br,if_pos (show k_glyph_Spots s=true from hk)]
 have:=loop 0 (Nat.zero_le _)
 rw[List.drop_zero] at this
 exact this
end Go.Ev
end

section
open Go Go.Ev
namespace Go.Ev
noncomputable section
noncomputable def e_names_Right:Run:=entG sg_names_Right R_names_Right (fun a=>k_names_Right a.1) (fun a=>v_names_Right a.1)
theorem ok_names_Right:EntOK Go.Proofs.Tryz.prog 76 e_names_Right:=entG_ok (tb:=tb_names_Right) (c:=c_names_Right) tk_names_Right (by kernel_rfl) (by kernel_rfl) (by kernel_rfl) (fun a=>by kernel_rfl) fun ⟨s,_⟩ hk=>evF_goes (c:=c_names_Right) (K:=fun v=>(R_names_Right v,tps (toForms sg_names_Right (s,())))) (S:=S_names_Right s) (by kernel_rfl) (en_names_Right s) (lp_names_Right s) (g_names_Right s hk)
end
end Go.Ev
end

section
open Go Go.Ev
namespace Go.Ev
noncomputable section
def sg_ins_Right:Sig:=[(true,T_api_Ins)]
noncomputable def t_ins_Right:Tbl:=[(137,e_ins_fits),(76,e_names_Right)]
theorem tk_ins_Right:∀p∈t_ins_Right,EntOK Go.Proofs.Tryz.prog p.1 p.2:=tbl_cons ok_ins_fits (tbl_cons ok_names_Right (tbl_nil))
noncomputable def c_ins_Right:Code:=Go.Proofs.Tryz.f110.body.getD .skip
def tb_ins_Right:Tb:=[]
def T_ins_Right (i:El T_api_Ins):Empty→JT Empty (Int):=fun j=>nomatch j
def T0_ins_Right (i:El T_api_Ins):JT Empty (Int):=.br (i.1==(10:Int)) (.br (! (v_ins_fits i)) (.leaf (4:Int)) (.br (k_names_Right i.2.2.2.2.2.1) (.br (! (v_names_Right i.2.2.2.2.2.1)) (.leaf (3:Int)) (.leaf (0:Int))) (.no))) (.br (! (v_ins_fits i)) (.leaf (4:Int)) (.br (! (i.1==(11:Int))) (.br (! (eqB i.2.2.2.2.2.1 (bs []))) (.leaf (4:Int)) (.br (i.1==(11:Int)) (.br (k_names_Right i.2.2.2.2.2.1) (.br (! (v_names_Right i.2.2.2.2.2.1)) (.leaf (3:Int)) (.leaf (0:Int))) (.no)) (.leaf (0:Int)))) (.br (i.1==(11:Int)) (.br (k_names_Right i.2.2.2.2.2.1) (.br (! (v_names_Right i.2.2.2.2.2.1)) (.leaf (3:Int)) (.leaf (0:Int))) (.no)) (.leaf (0:Int)))))
def u_ins_Right (i:El T_api_Ins):Int:=bif (i.1==(10:Int)) then bif (! (v_ins_fits i)) then (4:Int) else bif (k_names_Right i.2.2.2.2.2.1) then bif (! (v_names_Right i.2.2.2.2.2.1)) then (3:Int) else (0:Int) else (0:Int) else bif (! (v_ins_fits i)) then (4:Int) else bif (! (i.1==(11:Int))) then bif (! (eqB i.2.2.2.2.2.1 (bs []))) then (4:Int) else bif (i.1==(11:Int)) then bif (k_names_Right i.2.2.2.2.2.1) then bif (! (v_names_Right i.2.2.2.2.2.1)) then (3:Int) else (0:Int) else (0:Int) else (0:Int) else bif (i.1==(11:Int)) then bif (k_names_Right i.2.2.2.2.2.1) then bif (! (v_names_Right i.2.2.2.2.2.1)) then (3:Int) else (0:Int) else (0:Int) else (0:Int)
def ku_ins_Right (i:El T_api_Ins):Bool:=bif (i.1==(10:Int)) then bif (! (v_ins_fits i)) then true else bif (k_names_Right i.2.2.2.2.2.1) then bif (! (v_names_Right i.2.2.2.2.2.1)) then true else true else false else bif (! (v_ins_fits i)) then true else bif (! (i.1==(11:Int))) then bif (! (eqB i.2.2.2.2.2.1 (bs []))) then true else bif (i.1==(11:Int)) then bif (k_names_Right i.2.2.2.2.2.1) then bif (! (v_names_Right i.2.2.2.2.2.1)) then true else true else false else true else bif (i.1==(11:Int)) then bif (k_names_Right i.2.2.2.2.2.1) then bif (! (v_names_Right i.2.2.2.2.2.1)) then true else true else false else true
theorem gu_ins_Right (i:El T_api_Ins) (hk:ku_ins_Right i=true):Goes (T_ins_Right i) (T0_ins_Right i) (u_ins_Right i):=Goes.brk hk (fun hk=>Goes.brk hk (fun hk=>Goes.leaf) (fun hk=>Goes.brk hk (fun hk=>Goes.brk hk (fun hk=>Goes.leaf) (fun hk=>Goes.leaf)) (fun hk=>Goes.nok hk))) (fun hk=>Goes.brk hk (fun hk=>Goes.leaf) (fun hk=>Goes.brk hk (fun hk=>Goes.brk hk (fun hk=>Goes.leaf) (fun hk=>Goes.brk hk (fun hk=>Goes.brk hk (fun hk=>Goes.brk hk (fun hk=>Goes.leaf) (fun hk=>Goes.leaf)) (fun hk=>Goes.nok hk)) (fun hk=>Goes.leaf))) (fun hk=>Goes.brk hk (fun hk=>Goes.brk hk (fun hk=>Goes.brk hk (fun hk=>Goes.leaf) (fun hk=>Goes.leaf)) (fun hk=>Goes.nok hk)) (fun hk=>Goes.leaf))))
def R_ins_Right:Int→AV:=fun (r:Int)=>.d (.int .i64) r
def S_ins_Right (i:El T_api_Ins):Empty→Nat×St:=fun j=>nomatch j
theorem en_ins_Right (i:El T_api_Ins) (L:Lt):entryA Go.Proofs.Tryz.prog (clOf t_ins_Right) tb_ins_Right Go.Proofs.Tryz.f110 c_ins_Right L (toForms sg_ins_Right (i,()))=(T0_ins_Right i).run (fun v=>some (R_ins_Right v,tps (toForms sg_ins_Right (i,())))) fun j=>L (S_ins_Right i j).1 (S_ins_Right i j).2:=by kernel_rfl
theorem lp_ins_Right (i:El T_api_Ins):∀(L:Lt) (j:Empty),procOf (procsF Go.Proofs.Tryz.prog (clOf t_ins_Right) tb_ins_Right Go.Proofs.Tryz.f110 c_ins_Right (toForms sg_ins_Right (i,()))) (S_ins_Right i j).1 L (S_ins_Right i j).2=(T_ins_Right i j).run (fun v=>some (R_ins_Right v,tps (toForms sg_ins_Right (i,())))) fun j=>L (S_ins_Right i j).1 (S_ins_Right i j).2:=fun L j=>nomatch j
end
end Go.Ev
end

section
open Go
namespace Go.Ev
def v_ins_Right (i:El T_api_Ins):Int:=u_ins_Right i
def k_ins_Right (i:El T_api_Ins):Bool:=smallText i.2.2.2.2.2.1
theorem g_ins_Right (i:El T_api_Ins) (hk:k_ins_Right i=true):Goes (T_ins_Right i) (T0_ins_Right i) (v_ins_Right i):=by
 refine gu_ins_Right i ?_
 have h:k_names_Right i.2.2.2.2.2.1=true:=hk
 unfold ku_ins_Right
 simp only[h,cond_true,Bool.cond_self]
end Go.Ev
end

section
open Go Go.Ev
namespace Go.Ev
noncomputable section
noncomputable def e_ins_Right:Run:=entG sg_ins_Right R_ins_Right (fun a=>k_ins_Right a.1) (fun a=>v_ins_Right a.1)
theorem ok_ins_Right:EntOK Go.Proofs.Tryz.prog 110 e_ins_Right:=entG_ok (tb:=tb_ins_Right) (c:=c_ins_Right) tk_ins_Right (by kernel_rfl) (by kernel_rfl) (by kernel_rfl) (fun a=>by kernel_rfl) fun ⟨i,_⟩ hk=>evF_goes (c:=c_ins_Right) (K:=fun v=>(R_ins_Right v,tps (toForms sg_ins_Right (i,())))) (S:=S_ins_Right i) (by kernel_rfl) (en_ins_Right i) (lp_ins_Right i) (g_ins_Right i hk)
end
end Go.Ev
end

section
open Go Go.Ev
namespace Go.Ev
noncomputable section
def sg_ins_Leads:Sig:=[(true,T_api_Ins)]
noncomputable def t_ins_Leads:Tbl:=[(110,e_ins_Right)]
theorem tk_ins_Leads:∀p∈t_ins_Leads,EntOK Go.Proofs.Tryz.prog p.1 p.2:=tbl_cons ok_ins_Right (tbl_nil)
noncomputable def c_ins_Leads:Code:=Go.Proofs.Tryz.f112.body.getD .skip
def tb_ins_Leads:Tb:=[]
def T_ins_Leads (i:El T_api_Ins):Empty→JT Empty (Bool×Bool):=fun j=>nomatch j
def T0_ins_Leads (i:El T_api_Ins):JT Empty (Bool×Bool):=.br (k_ins_Right i) (.br ((v_ins_Right i) !=(0:Int)) (.leaf (false,false)) (.br (i.1 !=(10:Int)) (.br (i.1==(10:Int)) (.leaf ((i.1 !=(14:Int)),true)) (.leaf ((i.1 !=(14:Int)),(i.1==(11:Int))))) (.br (i.1==(10:Int)) (.leaf (false,true)) (.leaf (false,(i.1==(11:Int))))))) (.no)
def v_ins_Leads (i:El T_api_Ins):Bool×Bool:=bif (k_ins_Right i) then bif ((v_ins_Right i) !=(0:Int)) then (false,false) else bif (i.1 !=(10:Int)) then bif (i.1==(10:Int)) then ((i.1 !=(14:Int)),true) else ((i.1 !=(14:Int)),(i.1==(11:Int))) else bif (i.1==(10:Int)) then (false,true) else (false,(i.1==(11:Int))) else (false,false)
def k_ins_Leads (i:El T_api_Ins):Bool:=bif (k_ins_Right i) then bif ((v_ins_Right i) !=(0:Int)) then true else bif (i.1 !=(10:Int)) then bif (i.1==(10:Int)) then true else true else bif (i.1==(10:Int)) then true else true else false
theorem g_ins_Leads (i:El T_api_Ins) (hk:k_ins_Leads i=true):Goes (T_ins_Leads i) (T0_ins_Leads i) (v_ins_Leads i):=Goes.brk hk (fun hk=>Goes.brk hk (fun hk=>Goes.leaf) (fun hk=>Goes.brk hk (fun hk=>Goes.brk hk (fun hk=>Goes.leaf) (fun hk=>Goes.leaf)) (fun hk=>Goes.brk hk (fun hk=>Goes.leaf) (fun hk=>Goes.leaf)))) (fun hk=>Goes.nok hk)
def R_ins_Leads:Bool×Bool→AV:=fun (r:Bool×Bool)=>.tu [.d .bool r.1,.d .bool r.2]
def S_ins_Leads (i:El T_api_Ins):Empty→Nat×St:=fun j=>nomatch j
theorem en_ins_Leads (i:El T_api_Ins) (L:Lt):entryA Go.Proofs.Tryz.prog (clOf t_ins_Leads) tb_ins_Leads Go.Proofs.Tryz.f112 c_ins_Leads L (toForms sg_ins_Leads (i,()))=(T0_ins_Leads i).run (fun v=>some (R_ins_Leads v,tps (toForms sg_ins_Leads (i,())))) fun j=>L (S_ins_Leads i j).1 (S_ins_Leads i j).2:=by kernel_rfl
theorem lp_ins_Leads (i:El T_api_Ins):∀(L:Lt) (j:Empty),procOf (procsF Go.Proofs.Tryz.prog (clOf t_ins_Leads) tb_ins_Leads Go.Proofs.Tryz.f112 c_ins_Leads (toForms sg_ins_Leads (i,()))) (S_ins_Leads i j).1 L (S_ins_Leads i j).2=(T_ins_Leads i j).run (fun v=>some (R_ins_Leads v,tps (toForms sg_ins_Leads (i,())))) fun j=>L (S_ins_Leads i j).1 (S_ins_Leads i j).2:=fun L j=>nomatch j
noncomputable def e_ins_Leads:Run:=entG sg_ins_Leads R_ins_Leads (fun a=>k_ins_Leads a.1) (fun a=>v_ins_Leads a.1)
theorem ok_ins_Leads:EntOK Go.Proofs.Tryz.prog 112 e_ins_Leads:=entG_ok (tb:=tb_ins_Leads) (c:=c_ins_Leads) tk_ins_Leads (by kernel_rfl) (by kernel_rfl) (by kernel_rfl) (fun a=>by kernel_rfl) fun ⟨i,_⟩ hk=>evF_goes (c:=c_ins_Leads) (K:=fun v=>(R_ins_Leads v,tps (toForms sg_ins_Leads (i,())))) (S:=S_ins_Leads i) (by kernel_rfl) (en_ins_Leads i) (lp_ins_Leads i) (g_ins_Leads i hk)
end
end Go.Ev
end

section
namespace Go.Ev
open Go
theorem nine (k:Int):(k≤9∧decide (k > 9)=false)∨(9 < k∧decide (k > 9)=true):=by
 by_cases h:k≤9
 ·exact .inl ⟨h,by simp;omega⟩
 ·exact .inr ⟨by omega,by simp;omega⟩
theorem right0_fits {i:El T_api_Ins} (h:v_ins_Right i=0):v_ins_fits i=true:=by
 cases hf:v_ins_fits i with
 | true=>rfl
 | false=>
  change u_ins_Right i=0 at h
  unfold u_ins_Right at h
  simp only[hf,Bool.not_false,cond_true,Bool.cond_self] at h
  exact absurd h (by decide)
theorem right0_row {i:El T_api_Ins} (h:v_ins_Right i=0):(1:Int)≤i.1∧(show Int from i.1)≤14∧v_ref1_row i=true:=by
 have hf:=right0_fits h
 rw[fits_row] at hf
 simp only[Bool.and_eq_true,decide_eq_true_eq] at hf
 exact ⟨hf.1,hf.2.1,hf.2.2.1⟩
theorem row_low {i:El T_api_Ins} (h:v_ref1_row i=true) (h1:(1:Int)≤i.1) (h9:(show Int from i.1)≤9):v_opnd_Right i.2.2.2.1=true∧v_opnd_Right i.2.2.2.2.1=true:=by
 unfold v_ref1_row at h
 have e1:decide ((show Int from i.1) < 1)=false:=by simp;omega
 have e2:decide ((show Int from i.1) > 9)=false:=by simp;omega
 simp only[e1,e2,cond_false,right_eq] at h
 cases hA:v_opnd_Right i.2.2.2.1 with
 | false=>rw[hA] at h;simp at h
 | true=>
  cases hB:v_opnd_Right i.2.2.2.2.1 with
  | false=>rw[hA,hB] at h;simp at h
  | true=>exact ⟨rfl,rfl⟩
theorem row_high {i:El T_api_Ins} (h:v_ref1_row i=true) (h9:(9:Int) < i.1):(show Int from i.2.2.2.1.1)=0∧(show Int from i.2.2.2.2.1.1)=0:=by
 unfold v_ref1_row at h
 have e1:decide ((show Int from i.1) < 1)=false:=by simp;omega
 have e2:decide ((show Int from i.1) > 9)=true:=by simp;omega
 simp only[e1,e2,cond_false,cond_true] at h
 simp only[Bool.cond_eq_ite,Bool.if_false_right,Bool.and_eq_true,beq_iff_eq,decide_eq_true_eq,Bool.decide_eq_true] at h
 exact ⟨h.1.1,h.2.1.1⟩
theorem k_leads {i:El T_api_Ins} (h:smallText i.2.2.2.2.2.1=true):k_ins_Leads i=true:=by
 have h0:k_ins_Right i=true:=h
 unfold k_ins_Leads
 simp only[h0,cond_true,Bool.cond_self]
end Go.Ev
end

section
open Go Go.Ev
namespace Go.Ev
noncomputable section
def sg_ref1_Jumps:Sig:=[(false,(.int .i64))]
noncomputable def t_ref1_Jumps:Tbl:=[]
theorem tk_ref1_Jumps:∀p∈t_ref1_Jumps,EntOK Go.Proofs.Tryz.prog p.1 p.2:=tbl_nil
noncomputable def c_ref1_Jumps:Code:=Go.Proofs.Tryz.f71.body.getD .skip
def tb_ref1_Jumps:Tb:=[]
def T_ref1_Jumps (op:Int):Empty→JT Empty (Bool):=fun j=>nomatch j
def T0_ref1_Jumps (op:Int):JT Empty (Bool):=.br (op==(10:Int)) (.leaf true) (.leaf (op==(11:Int)))
def v_ref1_Jumps (op:Int):Bool:=bif (op==(10:Int)) then true else (op==(11:Int))
theorem g_ref1_Jumps (op:Int):Goes (T_ref1_Jumps op) (T0_ref1_Jumps op) (v_ref1_Jumps op):=Goes.br (Goes.leaf) (Goes.leaf)
def R_ref1_Jumps:Bool→AV:=fun (r:Bool)=>.d .bool r
def S_ref1_Jumps (op:Int):Empty→Nat×St:=fun j=>nomatch j
theorem en_ref1_Jumps (op:Int) (L:Lt):entryA Go.Proofs.Tryz.prog (clOf t_ref1_Jumps) tb_ref1_Jumps Go.Proofs.Tryz.f71 c_ref1_Jumps L (toForms sg_ref1_Jumps (op,()))=(T0_ref1_Jumps op).run (fun v=>some (R_ref1_Jumps v,tps (toForms sg_ref1_Jumps (op,())))) fun j=>L (S_ref1_Jumps op j).1 (S_ref1_Jumps op j).2:=by kernel_rfl
theorem lp_ref1_Jumps (op:Int):∀(L:Lt) (j:Empty),procOf (procsF Go.Proofs.Tryz.prog (clOf t_ref1_Jumps) tb_ref1_Jumps Go.Proofs.Tryz.f71 c_ref1_Jumps (toForms sg_ref1_Jumps (op,()))) (S_ref1_Jumps op j).1 L (S_ref1_Jumps op j).2=(T_ref1_Jumps op j).run (fun v=>some (R_ref1_Jumps v,tps (toForms sg_ref1_Jumps (op,())))) fun j=>L (S_ref1_Jumps op j).1 (S_ref1_Jumps op j).2:=fun L j=>nomatch j
noncomputable def e_ref1_Jumps:Run:=entT sg_ref1_Jumps R_ref1_Jumps (fun a=>v_ref1_Jumps a.1)
theorem ok_ref1_Jumps:EntOK Go.Proofs.Tryz.prog 71 e_ref1_Jumps:=entT_ok (tb:=tb_ref1_Jumps) (c:=c_ref1_Jumps) tk_ref1_Jumps (by kernel_rfl) (by kernel_rfl) (by kernel_rfl) (fun a=>by kernel_rfl) fun ⟨op,_⟩=>evF_goes (c:=c_ref1_Jumps) (K:=fun v=>(R_ref1_Jumps v,tps (toForms sg_ref1_Jumps (op,())))) (S:=S_ref1_Jumps op) (by kernel_rfl) (en_ref1_Jumps op) (lp_ref1_Jumps op) (g_ref1_Jumps op)
end
end Go.Ev
end

section
namespace Go.Ev
open Go
instance lawfulBytes:LawfulBEq ByteArray where
 rfl:=fun {a} =>by
  show (a.data==a.data)=true
  exact beq_self_eq_true _
 eq_of_beq:=fun {a b} h=>by
  have h:(a.data==b.data)=true:=h
  have:=eq_of_beq h
  cases a;cases b;simp at this;rw[this]
def countM (t:List (El T_api_Ins)):Nat:=(t.filter fun i=>i.1 !=(12:Int)).length
def findI (label:ByteArray):List (El T_api_Ins)→Nat→Int
 | [],_=> -1
 | i :: r,k=>if i.2.2.2.2.2.2.contains label then (k:Int) else findI label r (k+1)
def placeN (len:Int) (size:Int→Int) (k s n:Int):Int:=if k=3∨k=4 then (if s < 0∨len≤s then 7 else if k=3∧size s≤n then 8 else 0) else 0
def placeC (p:El T_api_Prog) (o:El T_api_Opd):Int:=placeN (p.1.length:Int) (fun s=>(List.getD p.1 s.toNat (dflt T_api_Sym)).2.1) o.1 o.2.2.1 o.2.2.2
def scanL (seen:List ByteArray) (K:List ByteArray→Int):List ByteArray→Int
 | []=>K seen
 | l :: r=>if nameRight l=false then 3 else if seen.contains l then 6 else scanL (seen++[l]) K r
def insC (p:El T_api_Prog) (i:El T_api_Ins):Int:=
 if v_ins_Right i≠0 then v_ins_Right i else if placeC p i.2.2.2.1≠0 then placeC p i.2.2.2.1 else placeC p i.2.2.2.2.1
def scanI (p:El T_api_Prog) (K:List ByteArray→Int):List ByteArray→List (El T_api_Ins)→Int
 | seen,[]=>K seen
 | seen,i :: r=>scanL seen (fun seen=>if insC p i≠0 then insC p i else scanI p K seen r) i.2.2.2.2.2.2
def endC (t:List (El T_api_Ins)) (K:Int):Int:=match t.getLast? with
 | none=>9
 | some i=>if (i.1==(10:Int)) || (i.1==(14:Int)) then K else 9
def jumpC (seen:List ByteArray):List (El T_api_Ins)→Int
 | []=>0
 | i :: r=>if (i.1==(10:Int)) || (i.1==(11:Int)) then (if seen.contains i.2.2.2.2.2.1 then jumpC seen r else 7) else jumpC seen r
def threadC (p:El T_api_Prog) (t:List (El T_api_Ins)):Int:=if 4096 < countM t then 10 else scanI p (fun seen=>endC t (jumpC seen t)) [] t
def symsC (K:Int):List ByteArray→List (El T_api_Sym)→Int
 | _,[]=>K
 | seen,s :: r=>if nameRight s.1=false then 3 else if seen.contains s.1 then 6 else if s.2.1 < (1:Int)∨(64:Int) < s.2.1∨s.2.1 < (s.2.2.length:Int) then 5 else symsC K (seen++[s.1]) r
def thsC (p:El T_api_Prog):List (List (El T_api_Ins))→Int
 | []=>0
 | t :: r=>if threadC p t≠0 then threadC p t else thsC p r
def checkC (p:El T_api_Prog):Int:=if 64 < p.1.length∨64 < p.2.length then 10 else symsC (thsC p p.2) [] p.1
def labels (t:List (El T_api_Ins)):List ByteArray:=t.flatMap fun i=>i.2.2.2.2.2.2
def smallThread (t:List (El T_api_Ins)):Bool:=decide (t.length < 1099511627776)&&(decide ((labels t).length < 1099511627776)&&t.all fun i=>smallText i.2.2.2.2.2.1&&i.2.2.2.2.2.2.all smallText)
def smallProg (p:El T_api_Prog):Bool:=(p.1.all fun s=>smallText s.1)&&p.2.all smallThread
theorem labels_mem {t:List (El T_api_Ins)} {i:El T_api_Ins} (h:i∈t):i.2.2.2.2.2.2.length≤(labels t).length:=by
 unfold labels
 induction t with
 | nil=>cases h
 | cons j t ih=>
  rw[List.flatMap_cons,List.length_append]
  rcases List.mem_cons.1 h with rfl | h
  ·omega
  ·have:=ih h;omega
structure SmallT (t:List (El T_api_Ins)):Prop where
 len:t.length < 1099511627776
 labs:(labels t).length < 1099511627776
 to:∀i∈t,smallText i.2.2.2.2.2.1=true
 lab:∀i∈t,∀l∈i.2.2.2.2.2.2,smallText l=true
theorem smallT {t:List (El T_api_Ins)} (h:smallThread t=true):SmallT t:=by
 unfold smallThread at h
 simp only[Bool.and_eq_true,decide_eq_true_eq,List.all_eq_true] at h
 exact ⟨h.1,h.2.1,fun i hi=>(h.2.2 i hi).1,fun i hi l hl=>(h.2.2 i hi).2 l hl⟩
theorem findFrom_contains {s:ByteArray} :∀ {l:List ByteArray} {k:Nat},(findFrom s l k).isSome=l.contains s
 | [],_=>rfl
 | x :: r,k=>by
  unfold findFrom
  rw[List.contains_cons]
  by_cases h:x=s
  ·subst h;simp
  ·have:(s==x)=false:=by simp;exact fun e=>h e.symm
   rw[if_neg h,this,Bool.false_or]
   exact findFrom_contains
def Seen (m:List (ByteArray×Bool)) (seen:List ByteArray):Prop:=∀l,(mget (kt:=.str) l m).getD false=seen.contains l
theorem mget_mput (m:List (ByteArray×Bool)) (l l':ByteArray):mget (kt:=.str) l (mput (kt:=.str) l' true m)=if l=l' then some true else mget (kt:=.str) l m:=by
 induction m with
 | nil=>
  show (bif (l==l') then some true else none)=_
  by_cases h:l=l'
  ·subst h;rw[if_pos rfl,beq_self_eq_true];rfl
  ·rw[if_neg h,beq_false_of_ne h];rfl
 | cons x m ih=>
  obtain ⟨x,u⟩:=x
  show mget (kt:=.str) l (bif l'==x then (l',true) :: m else (x,u) :: mput (kt:=.str) l' true m)=_
  by_cases hx:l'=x
  ·subst hx
   rw[beq_self_eq_true,cond_true]
   show (bif l==l' then some true else mget (kt:=.str) l m)=if l=l' then some true else (bif l==l' then some u else mget (kt:=.str) l m)
   by_cases h:l=l'
   ·subst h;rw[if_pos rfl,beq_self_eq_true];rfl
   ·rw[if_neg h,beq_false_of_ne h];rfl
  ·rw[beq_false_of_ne hx,cond_false]
   show (bif l==x then some u else mget (kt:=.str) l (mput (kt:=.str) l' true m))=if l=l' then some true else (bif l==x then some u else mget (kt:=.str) l m)
   rw[ih]
   by_cases h:l=x
   ·subst h;rw[if_neg (Ne.symm hx),if_neg (Ne.symm hx),beq_self_eq_true]
   ·rw[beq_false_of_ne h];rfl
theorem Seen.nil:Seen [] []:=fun l=>rfl
theorem Seen.put {m:List (ByteArray×Bool)} {seen:List ByteArray} (h:Seen m seen) (l:ByteArray):Seen (mput (kt:=.str) l true m) (seen++[l]):=fun (x:ByteArray)=>by
 rw[mget_mput]
 by_cases hx:x=l
 ·subst hx;rw[if_pos rfl];simp
 ·rw[if_neg hx,h x]
  simp[hx]
theorem jumps_is {i:El T_api_Ins} (h:smallText i.2.2.2.2.2.1=true) (hr:v_ins_Right i=0):(v_ins_Leads i).2=((i.1==(10:Int)) || (i.1==(11:Int))):=by
 have h0:k_ins_Right i=true:=h
 unfold v_ins_Leads
 simp only[h0,hr,bne_self_eq_false,cond_true,cond_false]
 unfold bne
 cases (i.1==(10:Int)) <;> simp
theorem jumps_eq (op:Int):v_ref1_Jumps op=((op==(10:Int)) || (op==(11:Int))):=by
 unfold v_ref1_Jumps
 cases (op==(10:Int)) <;> simp
theorem endC_eq {t:List (El T_api_Ins)} (h:0 < t.length) {K:Int} :endC t K=if (t[t.length - 1].1==(10:Int)) || (t[t.length - 1].1==(14:Int)) then K else 9:=by
 unfold endC
 have:t.getLast? =some t[t.length - 1]:=by
  rw[List.getLast?_eq_getElem?,List.getElem?_eq_getElem (by omega)]
 rw[this]
theorem findI_neg {label:ByteArray} :∀ {t:List (El T_api_Ins)} {k:Nat},decide (findI label t k < 0)=! (labels t).contains label
 | [],_=>rfl
 | i :: r,k=>by
  unfold findI labels
  rw[List.flatMap_cons]
  have ih:=findI_neg (label:=label) (t:=r) (k:=k+1)
  unfold labels at ih
  by_cases h:i.2.2.2.2.2.2.contains label=true
  ·rw[if_pos h]
   have:(List.flatMap (fun (i:El T_api_Ins)=>i.2.2.2.2.2.2) r).contains label=(List.flatMap (fun (i:El T_api_Ins)=>i.2.2.2.2.2.2) r).contains label:=rfl
   have h2:(i.2.2.2.2.2.2++List.flatMap (fun (i:El T_api_Ins)=>i.2.2.2.2.2.2) r).contains label=true:=by
    rw[List.contains_iff_mem] at h ⊢
    exact List.mem_append_left _ h
   rw[h2]
   simp
  ·rw[if_neg h,ih]
   have h2:(i.2.2.2.2.2.2++List.flatMap (fun (i:El T_api_Ins)=>i.2.2.2.2.2.2) r).contains label=(List.flatMap (fun (i:El T_api_Ins)=>i.2.2.2.2.2.2) r).contains label:=by
    rw[Bool.eq_iff_iff,List.contains_iff_mem,List.contains_iff_mem,List.mem_append]
    rw[List.contains_iff_mem] at h
    exact ⟨fun x=>x.resolve_left h,.inr⟩
   rw[h2]
theorem index_contains {s:ByteArray} {l:List ByteArray} :decide (v_ref1_index l s≥0)=l.contains s:=by
 rw[←findFrom_contains (k:=0)]
 unfold v_ref1_index
 cases h:findFrom s l 0 with
 | none=>rfl
 | some n=>simp
end Go.Ev
end

section
open Go
namespace Go.Ev
def v_ref1_Count (t:List (El T_api_Ins)):Int:=(countM t:Int)
def k_ref1_Count (t:List (El T_api_Ins)):Bool:=decide (t.length < 1099511627776)
theorem g_ref1_Count (t:List (El T_api_Ins)) (hk:k_ref1_Count t=true):Goes (T_ref1_Count t) (T0_ref1_Count t) (v_ref1_Count t):=by
 have hn:t.length < 1099511627776:=of_decide_eq_true hk
 have loop:∀k,k≤t.length→∀n:Nat,n≤k→Goes (T_ref1_Count t) (.jmp (.l4 (n:Int) (k:Int))) ((n+countM (t.drop k):Nat):Int):=by
  refine down ?_ fun k hk ih=>?_
  ·intro n hnk
   rw[goes_jmp]
   simp only[T_ref1_Count,goes_br,lt_len_not (Nat.lt_irrefl _),goes_leaf,List.drop_length]
   simp[countM]
  ·intro n hnk
   rw[goes_jmp]
   simp only[T_ref1_Count,goes_br,lt_len hk,nng,Bool.and_self,if_true,Int.toNat_natCast,getD_lt hk,wrap_succ (k:=k) (by omega),wrap_succ (k:=n) (by omega)]
   rw[drop_cons hk]
   unfold countM
   rw[List.filter_cons]
   split
   ·rename_i h
    have:=ih (n+1) (by omega)
    unfold countM at this
    rw[List.length_cons,show n+((List.filter (fun i=>i.1 !=(12:Int)) (List.drop (k+1) t)).length+1)=n+1+(List.filter (fun i=>i.1 !=(12:Int)) (List.drop (k+1) t)).length by omega]
    exact this
   ·exact ih n (by omega)
 have:=loop 0 (Nat.zero_le _) 0 (Nat.le_refl _)
 unfold T0_ref1_Count v_ref1_Count
 simpa using this
end Go.Ev
end

section
open Go Go.Ev
namespace Go.Ev
noncomputable section
noncomputable def e_ref1_Count:Run:=entG sg_ref1_Count R_ref1_Count (fun a=>k_ref1_Count a.1) (fun a=>v_ref1_Count a.1)
theorem ok_ref1_Count:EntOK Go.Proofs.Tryz.prog 67 e_ref1_Count:=entG_ok (tb:=tb_ref1_Count) (c:=c_ref1_Count) tk_ref1_Count (by kernel_rfl) (by kernel_rfl) (by kernel_rfl) (fun a=>by kernel_rfl) fun ⟨t,_⟩ hk=>evF_goes (c:=c_ref1_Count) (K:=fun v=>(R_ref1_Count v,tps (toForms sg_ref1_Count (t,())))) (S:=S_ref1_Count t) (by kernel_rfl) (en_ref1_Count t) (lp_ref1_Count t) (g_ref1_Count t hk)
end
end Go.Ev
end

section
open Go Go.Ev
namespace Go.Ev
noncomputable section
def sg_ref1_InsRight:Sig:=[(true,T_api_Ins)]
noncomputable def t_ref1_InsRight:Tbl:=[(100,e_ref1_row),(71,e_ref1_Jumps),(37,e_ref1_Right)]
theorem tk_ref1_InsRight:∀p∈t_ref1_InsRight,EntOK Go.Proofs.Tryz.prog p.1 p.2:=tbl_cons ok_ref1_row (tbl_cons ok_ref1_Jumps (tbl_cons ok_ref1_Right (tbl_nil)))
noncomputable def c_ref1_InsRight:Code:=Go.Proofs.Tryz.f69.body.getD .skip
def tb_ref1_InsRight:Tb:=[(2,⟨[1,26,34,37,44,47],[]⟩),(5,⟨[1,49],[]⟩)]
inductive J_ref1_InsRight where | l2 (h:Bool) | l5 (h:Bool)
def T_ref1_InsRight (i:El T_api_Ins):J_ref1_InsRight→JT J_ref1_InsRight (Int) |.l2 h=>.br h (.leaf (4:Int)) (.br (i.1==(11:Int)) (.br (decide (i.2.2.1 < (1:Int))) (.jmp (.l5 true)) (.br (decide (i.2.2.1 > (10:Int))) (.jmp (.l5 true)) (.br (i.1 !=(11:Int)) (.jmp (.l5 (i.2.2.1 !=(0:Int)))) (.jmp (.l5 false))))) (.br (i.1 !=(11:Int)) (.jmp (.l5 (i.2.2.1 !=(0:Int)))) (.jmp (.l5 false)))) |.l5 h=>.br h (.leaf (4:Int)) (.br (v_ref1_Jumps i.1) (.br (k_ref1_Right i.2.2.2.2.2.1) (.br (! (v_ref1_Right i.2.2.2.2.2.1)) (.leaf (3:Int)) (.leaf (0:Int))) (.no)) (.leaf (0:Int)))
def T0_ref1_InsRight (i:El T_api_Ins):JT J_ref1_InsRight (Int):=.br (decide (i.1 < (1:Int))) (.jmp (.l2 true)) (.br (decide (i.1 > (14:Int))) (.jmp (.l2 true)) (.br (! (v_ref1_row i)) (.jmp (.l2 true)) (.br (! (v_ref1_Jumps i.1)) (.jmp (.l2 (! (eqB i.2.2.2.2.2.1 (bs []))))) (.jmp (.l2 false)))))
def v_ref1_InsRight_l5 (i:El T_api_Ins) (h:Bool):Int:=bif h then (4:Int) else bif (v_ref1_Jumps i.1) then bif (k_ref1_Right i.2.2.2.2.2.1) then bif (! (v_ref1_Right i.2.2.2.2.2.1)) then (3:Int) else (0:Int) else (0:Int) else (0:Int)
def k_ref1_InsRight_l5 (i:El T_api_Ins) (h:Bool):Bool:=bif h then true else bif (v_ref1_Jumps i.1) then bif (k_ref1_Right i.2.2.2.2.2.1) then bif (! (v_ref1_Right i.2.2.2.2.2.1)) then true else true else false else true
theorem g_ref1_InsRight_l5 (i:El T_api_Ins) (h:Bool) (hk:k_ref1_InsRight_l5 i h=true):Goes (T_ref1_InsRight i) (.jmp (.l5 h)) (v_ref1_InsRight_l5 i h):=Goes.jmp (Goes.brk hk (fun hk=>Goes.leaf) (fun hk=>Goes.brk hk (fun hk=>Goes.brk hk (fun hk=>Goes.brk hk (fun hk=>Goes.leaf) (fun hk=>Goes.leaf)) (fun hk=>Goes.nok hk)) (fun hk=>Goes.leaf)))
def v_ref1_InsRight_l2 (i:El T_api_Ins) (h:Bool):Int:=bif h then (4:Int) else bif (i.1==(11:Int)) then bif (decide (i.2.2.1 < (1:Int))) then v_ref1_InsRight_l5 i true else bif (decide (i.2.2.1 > (10:Int))) then v_ref1_InsRight_l5 i true else bif (i.1 !=(11:Int)) then v_ref1_InsRight_l5 i (i.2.2.1 !=(0:Int)) else v_ref1_InsRight_l5 i false else bif (i.1 !=(11:Int)) then v_ref1_InsRight_l5 i (i.2.2.1 !=(0:Int)) else v_ref1_InsRight_l5 i false
def k_ref1_InsRight_l2 (i:El T_api_Ins) (h:Bool):Bool:=bif h then true else bif (i.1==(11:Int)) then bif (decide (i.2.2.1 < (1:Int))) then k_ref1_InsRight_l5 i true else bif (decide (i.2.2.1 > (10:Int))) then k_ref1_InsRight_l5 i true else bif (i.1 !=(11:Int)) then k_ref1_InsRight_l5 i (i.2.2.1 !=(0:Int)) else k_ref1_InsRight_l5 i false else bif (i.1 !=(11:Int)) then k_ref1_InsRight_l5 i (i.2.2.1 !=(0:Int)) else k_ref1_InsRight_l5 i false
theorem g_ref1_InsRight_l2 (i:El T_api_Ins) (h:Bool) (hk:k_ref1_InsRight_l2 i h=true):Goes (T_ref1_InsRight i) (.jmp (.l2 h)) (v_ref1_InsRight_l2 i h):=Goes.jmp (Goes.brk hk (fun hk=>Goes.leaf) (fun hk=>Goes.brk hk (fun hk=>Goes.brk hk (fun hk=>g_ref1_InsRight_l5 i true hk) (fun hk=>Goes.brk hk (fun hk=>g_ref1_InsRight_l5 i true hk) (fun hk=>Goes.brk hk (fun hk=>g_ref1_InsRight_l5 i (i.2.2.1 !=(0:Int)) hk) (fun hk=>g_ref1_InsRight_l5 i false hk)))) (fun hk=>Goes.brk hk (fun hk=>g_ref1_InsRight_l5 i (i.2.2.1 !=(0:Int)) hk) (fun hk=>g_ref1_InsRight_l5 i false hk))))
def u_ref1_InsRight (i:El T_api_Ins):Int:=bif (decide (i.1 < (1:Int))) then v_ref1_InsRight_l2 i true else bif (decide (i.1 > (14:Int))) then v_ref1_InsRight_l2 i true else bif (! (v_ref1_row i)) then v_ref1_InsRight_l2 i true else bif (! (v_ref1_Jumps i.1)) then v_ref1_InsRight_l2 i (! (eqB i.2.2.2.2.2.1 (bs []))) else v_ref1_InsRight_l2 i false
def ku_ref1_InsRight (i:El T_api_Ins):Bool:=bif (decide (i.1 < (1:Int))) then k_ref1_InsRight_l2 i true else bif (decide (i.1 > (14:Int))) then k_ref1_InsRight_l2 i true else bif (! (v_ref1_row i)) then k_ref1_InsRight_l2 i true else bif (! (v_ref1_Jumps i.1)) then k_ref1_InsRight_l2 i (! (eqB i.2.2.2.2.2.1 (bs []))) else k_ref1_InsRight_l2 i false
theorem gu_ref1_InsRight (i:El T_api_Ins) (hk:ku_ref1_InsRight i=true):Goes (T_ref1_InsRight i) (T0_ref1_InsRight i) (u_ref1_InsRight i):=Goes.brk hk (fun hk=>g_ref1_InsRight_l2 i true hk) (fun hk=>Goes.brk hk (fun hk=>g_ref1_InsRight_l2 i true hk) (fun hk=>Goes.brk hk (fun hk=>g_ref1_InsRight_l2 i true hk) (fun hk=>Goes.brk hk (fun hk=>g_ref1_InsRight_l2 i (! (eqB i.2.2.2.2.2.1 (bs []))) hk) (fun hk=>g_ref1_InsRight_l2 i false hk))))
def R_ref1_InsRight:Int→AV:=fun (r:Int)=>.d (.int .i64) r
def S_ref1_InsRight (i:El T_api_Ins):J_ref1_InsRight→Nat×St |.l2 h=>(2,⟨mkTm 59 [(1,.pt 2 0 0),(26,.d .bool h)],[(2,0,.box 53 [.d (.int .i64) i.1,.d .bool i.2.1,.d (.int .i64) i.2.2.1,.d (.int .i64) i.2.2.2.1.1,.d (.int .i64) i.2.2.2.1.2.1,.d (.int .i64) i.2.2.2.1.2.2.1,.d (.int .i64) i.2.2.2.1.2.2.2,.d (.int .i64) i.2.2.2.2.1.1,.d (.int .i64) i.2.2.2.2.1.2.1,.d (.int .i64) i.2.2.2.2.1.2.2.1,.d (.int .i64) i.2.2.2.2.1.2.2.2,.d .str i.2.2.2.2.2.1,.d (.sl .str) i.2.2.2.2.2.2] none)]⟩) |.l5 h=>(5,⟨mkTm 59 [(1,.pt 2 0 0),(49,.d .bool h)],[(2,0,.box 53 [.d (.int .i64) i.1,.d .bool i.2.1,.d (.int .i64) i.2.2.1,.d (.int .i64) i.2.2.2.1.1,.d (.int .i64) i.2.2.2.1.2.1,.d (.int .i64) i.2.2.2.1.2.2.1,.d (.int .i64) i.2.2.2.1.2.2.2,.d (.int .i64) i.2.2.2.2.1.1,.d (.int .i64) i.2.2.2.2.1.2.1,.d (.int .i64) i.2.2.2.2.1.2.2.1,.d (.int .i64) i.2.2.2.2.1.2.2.2,.d .str i.2.2.2.2.2.1,.d (.sl .str) i.2.2.2.2.2.2] none)]⟩)
theorem en_ref1_InsRight (i:El T_api_Ins) (L:Lt):entryA Go.Proofs.Tryz.prog (clOf t_ref1_InsRight) tb_ref1_InsRight Go.Proofs.Tryz.f69 c_ref1_InsRight L (toForms sg_ref1_InsRight (i,()))=(T0_ref1_InsRight i).run (fun v=>some (R_ref1_InsRight v,tps (toForms sg_ref1_InsRight (i,())))) fun j=>L (S_ref1_InsRight i j).1 (S_ref1_InsRight i j).2:=by kernel_rfl
theorem lp_ref1_InsRight (i:El T_api_Ins):∀(L:Lt) (j:J_ref1_InsRight),procOf (procsF Go.Proofs.Tryz.prog (clOf t_ref1_InsRight) tb_ref1_InsRight Go.Proofs.Tryz.f69 c_ref1_InsRight (toForms sg_ref1_InsRight (i,()))) (S_ref1_InsRight i j).1 L (S_ref1_InsRight i j).2=(T_ref1_InsRight i j).run (fun v=>some (R_ref1_InsRight v,tps (toForms sg_ref1_InsRight (i,())))) fun j=>L (S_ref1_InsRight i j).1 (S_ref1_InsRight i j).2 | L,.l2 h=>by kernel_rfl | L,.l5 h=>by kernel_rfl
end
end Go.Ev
end

section
open Go
namespace Go.Ev
def refRB_l5 (op cond:Int) (row nm te:Bool) (h:Bool):Int:=
 bif h then
  (4:Int)
 else bif (bif (op==(10:Int)) then true else (op==(11:Int))) then
  bif true then
   bif (! nm) then
    (3:Int)
   else (0:Int)
  else (0:Int)
 else (0:Int)
def refRB_l2 (op cond:Int) (row nm te:Bool) (h:Bool):Int:=
 bif h then
  (4:Int)
 else bif (op==(11:Int)) then
  bif (decide (cond < (1:Int))) then
   refRB_l5 op cond row nm te true
  else bif (decide (cond > (10:Int))) then
   refRB_l5 op cond row nm te true
  else bif (op !=(11:Int)) then
   refRB_l5 op cond row nm te (cond !=(0:Int))
  else refRB_l5 op cond row nm te false
 else bif (op !=(11:Int)) then
  refRB_l5 op cond row nm te (cond !=(0:Int))
 else refRB_l5 op cond row nm te false
def refRB (op cond:Int) (row nm te:Bool):Int:=
 bif (decide (op < (1:Int))) then
  refRB_l2 op cond row nm te true
 else bif (decide (op > (14:Int))) then
  refRB_l2 op cond row nm te true
 else bif (! row) then
  refRB_l2 op cond row nm te true
 else bif (! (bif (op==(10:Int)) then true else (op==(11:Int)))) then
  refRB_l2 op cond row nm te (! te)
 else refRB_l2 op cond row nm te false
def insRB (op cond:Int) (row nm te:Bool):Int:=
 bif (op==(10:Int)) then
  bif (! (decide (1≤op)&&(decide (op≤14)&&(row&&condOK op cond)))) then
   (4:Int)
  else bif true then
   bif (! nm) then
    (3:Int)
   else (0:Int)
  else (0:Int)
 else bif (! (decide (1≤op)&&(decide (op≤14)&&(row&&condOK op cond)))) then
  (4:Int)
 else bif (! (op==(11:Int))) then
  bif (! te) then
   (4:Int)
  else bif (op==(11:Int)) then
   bif true then
    bif (! nm) then
     (3:Int)
    else (0:Int)
   else (0:Int)
  else (0:Int)
 else bif (op==(11:Int)) then
  bif true then
   bif (! nm) then
    (3:Int)
   else (0:Int)
  else (0:Int)
 else (0:Int)
theorem rightB (op cond:Int) (row nm te:Bool):refRB op cond row nm te=insRB op cond row nm te:=by
 unfold refRB refRB_l2 refRB_l5 insRB condOK
 have beqs:∀(k c:Int),(k==c)=decide (k=c):=fun k c=>by rw[Bool.eq_iff_iff];simp
 have bnes:∀(k c:Int),(k !=c)=!decide (k=c):=fun k c=>by rw[Bool.eq_iff_iff];simp
 simp only[beqs,bnes]
 by_cases h1:op < 1
 ·have e1:decide (op=10)=false:=by simp;omega
  have e2:decide (op=11)=false:=by simp;omega
  have e3:decide (1≤op)=false:=by simp;omega
  simp[h1,e1,e2,e3]
 by_cases h2:op > 14
 ·have e1:decide (op=10)=false:=by simp;omega
  have e2:decide (op=11)=false:=by simp;omega
  have e3:decide (op≤14)=false:=by simp;omega
  simp[h1,h2,e1,e2,e3]
 have e3:decide (1≤op)=true:=by simp;omega
 have e4:decide (op≤14)=true:=by simp;omega
 by_cases h10:op=10
 ·subst h10
  by_cases hc:cond=0 <;> cases row <;> cases nm <;> simp[hc]
 by_cases h11:op=11
 ·subst h11
  have f1:decide (1≤cond)=!decide (cond < 1):=by by_cases h:cond < 1 <;> simp[h] <;> omega
  have f2:decide (cond≤10)=!decide (cond > 10):=by by_cases h:cond > 10 <;> simp[h] <;> omega
  rw[f1,f2]
  by_cases hc:cond < 1 <;> by_cases hd:cond > 10 <;> cases row <;> cases nm <;> simp[hc,hd]
 by_cases hc:cond=0 <;> cases row <;> cases te <;> simp[h1,h2,h10,h11,e3,e4,hc]
def v_ref1_InsRight (i:El T_api_Ins):Int:=v_ins_Right i
def k_ref1_InsRight (i:El T_api_Ins):Bool:=smallText i.2.2.2.2.2.1
theorem g_ref1_InsRight (i:El T_api_Ins) (hk:k_ref1_InsRight i=true):Goes (T_ref1_InsRight i) (T0_ref1_InsRight i) (v_ref1_InsRight i):=by
 have h1:k_ref1_Right i.2.2.2.2.2.1=true:=hk
 have h2:k_names_Right i.2.2.2.2.2.1=true:=hk
 have hku:ku_ref1_InsRight i=true:=by
  unfold ku_ref1_InsRight k_ref1_InsRight_l2 k_ref1_InsRight_l5
  simp only[h1,cond_true,Bool.cond_self]
 have hr:u_ref1_InsRight i=refRB i.1 i.2.2.1 (v_ref1_row i) (nameRight i.2.2.2.2.2.1) (eqB i.2.2.2.2.2.1 (bs [])):=by
  unfold u_ref1_InsRight v_ref1_InsRight_l2 v_ref1_InsRight_l5
  simp only[h1]
  rfl
 have hp:u_ins_Right i=insRB i.1 i.2.2.1 (v_ref1_row i) (nameRight i.2.2.2.2.2.1) (eqB i.2.2.2.2.2.1 (bs [])):=by
  unfold u_ins_Right
  simp only[h2,fits_row]
  rfl
 have e:v_ref1_InsRight i=u_ref1_InsRight i:=by
  rw[hr,rightB,←hp]
  rfl
 rw[e]
 exact gu_ref1_InsRight i hku
end Go.Ev
end

section
open Go Go.Ev
namespace Go.Ev
noncomputable section
noncomputable def e_ref1_InsRight:Run:=entG sg_ref1_InsRight R_ref1_InsRight (fun a=>k_ref1_InsRight a.1) (fun a=>v_ref1_InsRight a.1)
theorem ok_ref1_InsRight:EntOK Go.Proofs.Tryz.prog 69 e_ref1_InsRight:=entG_ok (tb:=tb_ref1_InsRight) (c:=c_ref1_InsRight) tk_ref1_InsRight (by kernel_rfl) (by kernel_rfl) (by kernel_rfl) (fun a=>by kernel_rfl) fun ⟨i,_⟩ hk=>evF_goes (c:=c_ref1_InsRight) (K:=fun v=>(R_ref1_InsRight v,tps (toForms sg_ref1_InsRight (i,())))) (S:=S_ref1_InsRight i) (by kernel_rfl) (en_ref1_InsRight i) (lp_ref1_InsRight i) (g_ref1_InsRight i hk)
end
end Go.Ev
end

section
open Go Go.Ev
namespace Go.Ev
noncomputable section
def sg_ref1_operand:Sig:=[(true,T_api_Prog),(true,T_api_Opd)]
noncomputable def t_ref1_operand:Tbl:=[(101,e_ref1_Memory)]
theorem tk_ref1_operand:∀p∈t_ref1_operand,EntOK Go.Proofs.Tryz.prog p.1 p.2:=tbl_cons ok_ref1_Memory (tbl_nil)
noncomputable def c_ref1_operand:Code:=Go.Proofs.Tryz.f70.body.getD .skip
def tb_ref1_operand:Tb:=[]
def T_ref1_operand (p:El T_api_Prog) (o:El T_api_Opd):Empty→JT Empty (Int):=fun j=>nomatch j
def T0_ref1_operand (p:El T_api_Prog) (o:El T_api_Opd):JT Empty (Int):=.br (! (v_ref1_Memory o)) (.leaf (0:Int)) (.br (decide (o.2.2.1≥(Int.ofNat (List.length p.1)))) (.leaf (7:Int)) (.br (o.1==(3:Int)) (.br ((decide ((0:Int)≤o.2.2.1))&&(decide (o.2.2.1 < (Int.ofNat (List.length p.1))))) (.br (decide (o.2.2.2≥(List.getD p.1 (Int.toNat o.2.2.1) (dflt T_api_Sym)).2.1)) (.leaf (8:Int)) (.leaf (0:Int))) (.no)) (.leaf (0:Int))))
def v_ref1_operand (p:El T_api_Prog) (o:El T_api_Opd):Int:=bif (! (v_ref1_Memory o)) then (0:Int) else bif (decide (o.2.2.1≥(Int.ofNat (List.length p.1)))) then (7:Int) else bif (o.1==(3:Int)) then bif ((decide ((0:Int)≤o.2.2.1))&&(decide (o.2.2.1 < (Int.ofNat (List.length p.1))))) then bif (decide (o.2.2.2≥(List.getD p.1 (Int.toNat o.2.2.1) (dflt T_api_Sym)).2.1)) then (8:Int) else (0:Int) else (0:Int) else (0:Int)
def k_ref1_operand (p:El T_api_Prog) (o:El T_api_Opd):Bool:=bif (! (v_ref1_Memory o)) then true else bif (decide (o.2.2.1≥(Int.ofNat (List.length p.1)))) then true else bif (o.1==(3:Int)) then bif ((decide ((0:Int)≤o.2.2.1))&&(decide (o.2.2.1 < (Int.ofNat (List.length p.1))))) then bif (decide (o.2.2.2≥(List.getD p.1 (Int.toNat o.2.2.1) (dflt T_api_Sym)).2.1)) then true else true else false else true
theorem g_ref1_operand (p:El T_api_Prog) (o:El T_api_Opd) (hk:k_ref1_operand p o=true):Goes (T_ref1_operand p o) (T0_ref1_operand p o) (v_ref1_operand p o):=Goes.brk hk (fun hk=>Goes.leaf) (fun hk=>Goes.brk hk (fun hk=>Goes.leaf) (fun hk=>Goes.brk hk (fun hk=>Goes.brk hk (fun hk=>Goes.brk hk (fun hk=>Goes.leaf) (fun hk=>Goes.leaf)) (fun hk=>Goes.nok hk)) (fun hk=>Goes.leaf)))
def R_ref1_operand:Int→AV:=fun (r:Int)=>.d (.int .i64) r
def S_ref1_operand (p:El T_api_Prog) (o:El T_api_Opd):Empty→Nat×St:=fun j=>nomatch j
theorem en_ref1_operand (p:El T_api_Prog) (o:El T_api_Opd) (L:Lt):entryA Go.Proofs.Tryz.prog (clOf t_ref1_operand) tb_ref1_operand Go.Proofs.Tryz.f70 c_ref1_operand L (toForms sg_ref1_operand (p,o,()))=(T0_ref1_operand p o).run (fun v=>some (R_ref1_operand v,tps (toForms sg_ref1_operand (p,o,())))) fun j=>L (S_ref1_operand p o j).1 (S_ref1_operand p o j).2:=by kernel_rfl
theorem lp_ref1_operand (p:El T_api_Prog) (o:El T_api_Opd):∀(L:Lt) (j:Empty),procOf (procsF Go.Proofs.Tryz.prog (clOf t_ref1_operand) tb_ref1_operand Go.Proofs.Tryz.f70 c_ref1_operand (toForms sg_ref1_operand (p,o,()))) (S_ref1_operand p o j).1 L (S_ref1_operand p o j).2=(T_ref1_operand p o j).run (fun v=>some (R_ref1_operand v,tps (toForms sg_ref1_operand (p,o,())))) fun j=>L (S_ref1_operand p o j).1 (S_ref1_operand p o j).2:=fun L j=>nomatch j
noncomputable def e_ref1_operand:Run:=entG sg_ref1_operand R_ref1_operand (fun a=>k_ref1_operand a.1 a.2.1) (fun a=>v_ref1_operand a.1 a.2.1)
theorem ok_ref1_operand:EntOK Go.Proofs.Tryz.prog 70 e_ref1_operand:=entG_ok (tb:=tb_ref1_operand) (c:=c_ref1_operand) tk_ref1_operand (by kernel_rfl) (by kernel_rfl) (by kernel_rfl) (fun a=>by kernel_rfl) fun ⟨p,o,_⟩ hk=>evF_goes (c:=c_ref1_operand) (K:=fun v=>(R_ref1_operand v,tps (toForms sg_ref1_operand (p,o,())))) (S:=S_ref1_operand p o) (by kernel_rfl) (en_ref1_operand p o) (lp_ref1_operand p o) (g_ref1_operand p o hk)
end
end Go.Ev
end

section
open Go Go.Ev
namespace Go.Ev
noncomputable section
def sg_ref1_Find:Sig:=[(true,(.sl T_api_Ins)),(false,.str)]
noncomputable def t_ref1_Find:Tbl:=[(68,e_ref1_index)]
theorem tk_ref1_Find:∀p∈t_ref1_Find,EntOK Go.Proofs.Tryz.prog p.1 p.2:=tbl_cons ok_ref1_index (tbl_nil)
noncomputable def c_ref1_Find:Code:=Go.Proofs.Tryz.f72.body.getD .skip
def tb_ref1_Find:Tb:=[(3,⟨[1,2,5],[]⟩)]
inductive J_ref1_Find where | l3 (i:Int)
def T_ref1_Find (t:List (El T_api_Ins)) (label:ByteArray):J_ref1_Find→JT J_ref1_Find (Int) |.l3 i=>.br (decide (i < (Int.ofNat (List.length t)))) (.br ((decide ((0:Int)≤i))&&(decide (i < (Int.ofNat (List.length t))))) (.br (k_ref1_index (List.getD t (Int.toNat i) (dflt T_api_Ins)).2.2.2.2.2.2 label) (.br (decide ((v_ref1_index (List.getD t (Int.toNat i) (dflt T_api_Ins)).2.2.2.2.2.2 label)≥(0:Int))) (.leaf i) (.jmp (.l3 (IntKind.i64.wrap (i+(1:Int)))))) (.no)) (.no)) (.leaf (-1:Int))
def T0_ref1_Find (t:List (El T_api_Ins)) (label:ByteArray):JT J_ref1_Find (Int):=.jmp (.l3 (0:Int))
def R_ref1_Find:Int→AV:=fun (r:Int)=>.d (.int .i64) r
def S_ref1_Find (t:List (El T_api_Ins)) (label:ByteArray):J_ref1_Find→Nat×St |.l3 i=>(3,⟨mkTm 23 [(1,.d .str label),(2,.pt 3 0 0),(5,.d (.int .i64) i)],[(3,0,.box 33 [.d (.sl T_api_Ins) t] none)]⟩)
theorem en_ref1_Find (t:List (El T_api_Ins)) (label:ByteArray) (L:Lt):entryA Go.Proofs.Tryz.prog (clOf t_ref1_Find) tb_ref1_Find Go.Proofs.Tryz.f72 c_ref1_Find L (toForms sg_ref1_Find (t,label,()))=(T0_ref1_Find t label).run (fun v=>some (R_ref1_Find v,tps (toForms sg_ref1_Find (t,label,())))) fun j=>L (S_ref1_Find t label j).1 (S_ref1_Find t label j).2:=by kernel_rfl
theorem lp_ref1_Find (t:List (El T_api_Ins)) (label:ByteArray):∀(L:Lt) (j:J_ref1_Find),procOf (procsF Go.Proofs.Tryz.prog (clOf t_ref1_Find) tb_ref1_Find Go.Proofs.Tryz.f72 c_ref1_Find (toForms sg_ref1_Find (t,label,()))) (S_ref1_Find t label j).1 L (S_ref1_Find t label j).2=(T_ref1_Find t label j).run (fun v=>some (R_ref1_Find v,tps (toForms sg_ref1_Find (t,label,())))) fun j=>L (S_ref1_Find t label j).1 (S_ref1_Find t label j).2 | L,.l3 i=>by kernel_rfl
end
end Go.Ev
end

section
open Go
namespace Go.Ev
def v_ref1_Find (t:List (El T_api_Ins)) (label:ByteArray):Int:=findI label t 0
def k_ref1_Find (t:List (El T_api_Ins)) (label:ByteArray):Bool:=decide (t.length < 1099511627776)&&t.all fun i=>decide (i.2.2.2.2.2.2.length < 1099511627776)
theorem g_ref1_Find (t:List (El T_api_Ins)) (label:ByteArray) (hk:k_ref1_Find t label=true):Goes (T_ref1_Find t label) (T0_ref1_Find t label) (v_ref1_Find t label):=by
 unfold k_ref1_Find at hk
 simp only[Bool.and_eq_true,decide_eq_true_eq,List.all_eq_true] at hk
 obtain ⟨hn,hl⟩:=hk
 have loop:∀k,k≤t.length→Goes (T_ref1_Find t label) (.jmp (.l3 (k:Int))) (findI label (t.drop k) k):=by
  refine down ?_ fun k hk ih=>?_
  ·rw[goes_jmp]
   simp only[T_ref1_Find,goes_br,lt_len_not (Nat.lt_irrefl _),goes_leaf,List.drop_length]
   simp[findI]
  ·have hli:=hl t[k] (List.getElem_mem hk)
   have hki:k_ref1_index t[k].2.2.2.2.2.2 label=true:=decide_eq_true (by omega)
   rw[goes_jmp]
   simp only[T_ref1_Find,goes_br,lt_len hk,nng,Bool.and_self,if_true,Int.toNat_natCast,getD_lt hk,wrap_succ (k:=k) (by omega),hki]
   rw[drop_cons hk]
   unfold findI
   have hi:decide (v_ref1_index t[k].2.2.2.2.2.2 label≥0)=t[k].2.2.2.2.2.2.contains label:=by
    rw[←findFrom_contains (k:=0)]
    unfold v_ref1_index
    cases h:findFrom label t[k].2.2.2.2.2.2 0 with
    | none=>rfl
    | some n=>simp
   rw[hi]
   split
   ·exact .leaf
   ·exact ih
 unfold T0_ref1_Find v_ref1_Find
 simpa using loop 0 (Nat.zero_le _)
end Go.Ev
end

section
open Go Go.Ev
namespace Go.Ev
noncomputable section
noncomputable def e_ref1_Find:Run:=entG sg_ref1_Find R_ref1_Find (fun a=>k_ref1_Find a.1 a.2.1) (fun a=>v_ref1_Find a.1 a.2.1)
theorem ok_ref1_Find:EntOK Go.Proofs.Tryz.prog 72 e_ref1_Find:=entG_ok (tb:=tb_ref1_Find) (c:=c_ref1_Find) tk_ref1_Find (by kernel_rfl) (by kernel_rfl) (by kernel_rfl) (fun a=>by kernel_rfl) fun ⟨t,label,_⟩ hk=>evF_goes (c:=c_ref1_Find) (K:=fun v=>(R_ref1_Find v,tps (toForms sg_ref1_Find (t,label,())))) (S:=S_ref1_Find t label) (by kernel_rfl) (en_ref1_Find t label) (lp_ref1_Find t label) (g_ref1_Find t label hk)
end
end Go.Ev
end

section
open Go Go.Ev
namespace Go.Ev
noncomputable section
def sg_ref1_thread:Sig:=[(true,T_api_Prog),(true,(.sl T_api_Ins))]
noncomputable def t_ref1_thread:Tbl:=[(67,e_ref1_Count),(37,e_ref1_Right),(68,e_ref1_index),(69,e_ref1_InsRight),(70,e_ref1_operand),(71,e_ref1_Jumps),(72,e_ref1_Find)]
theorem tk_ref1_thread:∀p∈t_ref1_thread,EntOK Go.Proofs.Tryz.prog p.1 p.2:=tbl_cons ok_ref1_Count (tbl_cons ok_ref1_Right (tbl_cons ok_ref1_index (tbl_cons ok_ref1_InsRight (tbl_cons ok_ref1_operand (tbl_cons ok_ref1_Jumps (tbl_cons ok_ref1_Find (tbl_nil)))))))
noncomputable def c_ref1_thread:Code:=Go.Proofs.Tryz.f38.body.getD .skip
def tb_ref1_thread:Tb:=[(7,⟨[2,3,5,6],[(6,102)]⟩),(14,⟨[2,3,5,6,7,8],[(6,102)]⟩),(44,⟨[3,13],[]⟩)]
inductive J_ref1_thread where | l7 (i:Int) (seen:List ByteArray) | l14 (x:Int) (x1:Bool) (x2:Int) (x3:Int) (x4:Int) (x5:Int) (x6:Int) (x7:Int) (x8:Int) (x9:Int) (x10:Int) (x11:ByteArray) (x12:List ByteArray) (k:Int) (seen:List ByteArray) (i:Int) | l44 (i:Int)
def T_ref1_thread (p:El T_api_Prog) (t:List (El T_api_Ins)):J_ref1_thread→JT J_ref1_thread (Int) |.l7 i seen=>.br (decide (i < (Int.ofNat (List.length t)))) (.br ((decide ((0:Int)≤i))&&(decide (i < (Int.ofNat (List.length t))))) (.jmp (.l14 (List.getD t (Int.toNat i) (dflt T_api_Ins)).1 (List.getD t (Int.toNat i) (dflt T_api_Ins)).2.1 (List.getD t (Int.toNat i) (dflt T_api_Ins)).2.2.1 (List.getD t (Int.toNat i) (dflt T_api_Ins)).2.2.2.1.1 (List.getD t (Int.toNat i) (dflt T_api_Ins)).2.2.2.1.2.1 (List.getD t (Int.toNat i) (dflt T_api_Ins)).2.2.2.1.2.2.1 (List.getD t (Int.toNat i) (dflt T_api_Ins)).2.2.2.1.2.2.2 (List.getD t (Int.toNat i) (dflt T_api_Ins)).2.2.2.2.1.1 (List.getD t (Int.toNat i) (dflt T_api_Ins)).2.2.2.2.1.2.1 (List.getD t (Int.toNat i) (dflt T_api_Ins)).2.2.2.2.1.2.2.1 (List.getD t (Int.toNat i) (dflt T_api_Ins)).2.2.2.2.1.2.2.2 (List.getD t (Int.toNat i) (dflt T_api_Ins)).2.2.2.2.2.1 (List.getD t (Int.toNat i) (dflt T_api_Ins)).2.2.2.2.2.2 (0:Int) seen i)) (.no)) (.br ((Int.ofNat (List.length t))==(0:Int)) (.leaf (9:Int)) (.br ((decide ((0:Int)≤(IntKind.i64.wrap ((Int.ofNat (List.length t)) - (1:Int)))))&&(decide ((IntKind.i64.wrap ((Int.ofNat (List.length t)) - (1:Int))) < (Int.ofNat (List.length t))))) (.br ((List.getD t (Int.toNat (IntKind.i64.wrap ((Int.ofNat (List.length t)) - (1:Int)))) (dflt T_api_Ins)).1 !=(10:Int)) (.br ((List.getD t (Int.toNat (IntKind.i64.wrap ((Int.ofNat (List.length t)) - (1:Int)))) (dflt T_api_Ins)).1 !=(14:Int)) (.leaf (9:Int)) (.jmp (.l44 (0:Int)))) (.jmp (.l44 (0:Int)))) (.no))) |.l14 x x1 x2 x3 x4 x5 x6 x7 x8 x9 x10 x11 x12 k seen i=>.br (decide (k < (Int.ofNat (List.length x12)))) (.br ((decide ((0:Int)≤k))&&(decide (k < (Int.ofNat (List.length x12))))) (.br (k_ref1_Right (List.getD x12 (Int.toNat k) (dflt .str))) (.br (! (v_ref1_Right (List.getD x12 (Int.toNat k) (dflt .str)))) (.leaf (3:Int)) (.br ((decide ((0:Int)≤k))&&(decide (k < (Int.ofNat (List.length x12))))) (.br (k_ref1_index seen (List.getD x12 (Int.toNat k) (dflt .str))) (.br (decide ((v_ref1_index seen (List.getD x12 (Int.toNat k) (dflt .str)))≥(0:Int))) (.leaf (6:Int)) (.br ((decide ((0:Int)≤k))&&(decide (k < (Int.ofNat (List.length x12))))) (.br (Nat.ble (((List.length seen)+1)*16) limit) (.jmp (.l14 x x1 x2 x3 x4 x5 x6 x7 x8 x9 x10 x11 x12 (IntKind.i64.wrap (k+(1:Int))) (seen++[(List.getD x12 (Int.toNat k) (dflt .str))]) i)) (.no)) (.no))) (.no)) (.no))) (.no)) (.no)) (.br (k_ref1_InsRight (x,(x1,(x2,((x3,(x4,(x5,x6))),((x7,(x8,(x9,x10))),(x11,x12))))))) (.br ((v_ref1_InsRight (x,(x1,(x2,((x3,(x4,(x5,x6))),((x7,(x8,(x9,x10))),(x11,x12))))))) !=(0:Int)) (.leaf (v_ref1_InsRight (x,(x1,(x2,((x3,(x4,(x5,x6))),((x7,(x8,(x9,x10))),(x11,x12)))))))) (.br (k_ref1_operand p (x3,(x4,(x5,x6)))) (.br ((v_ref1_operand p (x3,(x4,(x5,x6)))) !=(0:Int)) (.leaf (v_ref1_operand p (x3,(x4,(x5,x6))))) (.br (k_ref1_operand p (x7,(x8,(x9,x10)))) (.br ((v_ref1_operand p (x7,(x8,(x9,x10)))) !=(0:Int)) (.leaf (v_ref1_operand p (x7,(x8,(x9,x10))))) (.jmp (.l7 (IntKind.i64.wrap (i+(1:Int))) seen))) (.no))) (.no))) (.no)) |.l44 i=>.br (decide (i < (Int.ofNat (List.length t)))) (.br ((decide ((0:Int)≤i))&&(decide (i < (Int.ofNat (List.length t))))) (.br (v_ref1_Jumps (List.getD t (Int.toNat i) (dflt T_api_Ins)).1) (.br ((decide ((0:Int)≤i))&&(decide (i < (Int.ofNat (List.length t))))) (.br (k_ref1_Find t (List.getD t (Int.toNat i) (dflt T_api_Ins)).2.2.2.2.2.1) (.br (decide ((v_ref1_Find t (List.getD t (Int.toNat i) (dflt T_api_Ins)).2.2.2.2.2.1) < (0:Int))) (.leaf (7:Int)) (.jmp (.l44 (IntKind.i64.wrap (i+(1:Int)))))) (.no)) (.no)) (.jmp (.l44 (IntKind.i64.wrap (i+(1:Int)))))) (.no)) (.leaf (0:Int))
def T0_ref1_thread (p:El T_api_Prog) (t:List (El T_api_Ins)):JT J_ref1_thread (Int):=.br (k_ref1_Count t) (.br (decide ((v_ref1_Count t) > (4096:Int))) (.leaf (10:Int)) (.jmp (.l7 (0:Int) []))) (.no)
def R_ref1_thread:Int→AV:=fun (r:Int)=>.d (.int .i64) r
def S_ref1_thread (p:El T_api_Prog) (t:List (El T_api_Ins)):J_ref1_thread→Nat×St |.l7 i seen=>(7,⟨mkTm 122 [(2,.pt 3 0 0),(3,.pt 4 0 0),(5,.own 6 0 none),(6,.d (.int .i64) i)],[(3,0,.box 27 [.d (.sl T_api_Sym) p.1,.d (.sl (.sl T_api_Ins)) p.2] none),(4,0,.box 33 [.d (.sl T_api_Ins) t] none),(6,0,.row 9 .str seen false)]⟩) |.l14 x x1 x2 x3 x4 x5 x6 x7 x8 x9 x10 x11 x12 k seen i=>(14,⟨mkTm 122 [(2,.pt 3 0 0),(3,.pt 4 0 0),(5,.own 6 0 none),(6,.d (.int .i64) i),(7,.pt 8 0 0),(8,.d (.int .i64) k)],[(3,0,.box 27 [.d (.sl T_api_Sym) p.1,.d (.sl (.sl T_api_Ins)) p.2] none),(4,0,.box 33 [.d (.sl T_api_Ins) t] none),(6,0,.row 9 .str seen false),(8,0,.box 53 [.d (.int .i64) x,.d .bool x1,.d (.int .i64) x2,.d (.int .i64) x3,.d (.int .i64) x4,.d (.int .i64) x5,.d (.int .i64) x6,.d (.int .i64) x7,.d (.int .i64) x8,.d (.int .i64) x9,.d (.int .i64) x10,.d .str x11,.d (.sl .str) x12] none)]⟩) |.l44 i=>(44,⟨mkTm 122 [(3,.pt 4 0 0),(13,.d (.int .i64) i)],[(4,0,.box 33 [.d (.sl T_api_Ins) t] none)]⟩)
theorem en_ref1_thread (p:El T_api_Prog) (t:List (El T_api_Ins)) (L:Lt):entryA Go.Proofs.Tryz.prog (clOf t_ref1_thread) tb_ref1_thread Go.Proofs.Tryz.f38 c_ref1_thread L (toForms sg_ref1_thread (p,t,()))=(T0_ref1_thread p t).run (fun v=>some (R_ref1_thread v,tps (toForms sg_ref1_thread (p,t,())))) fun j=>L (S_ref1_thread p t j).1 (S_ref1_thread p t j).2:=by kernel_rfl
theorem lp_ref1_thread (p:El T_api_Prog) (t:List (El T_api_Ins)):∀(L:Lt) (j:J_ref1_thread),procOf (procsF Go.Proofs.Tryz.prog (clOf t_ref1_thread) tb_ref1_thread Go.Proofs.Tryz.f38 c_ref1_thread (toForms sg_ref1_thread (p,t,()))) (S_ref1_thread p t j).1 L (S_ref1_thread p t j).2=(T_ref1_thread p t j).run (fun v=>some (R_ref1_thread v,tps (toForms sg_ref1_thread (p,t,())))) fun j=>L (S_ref1_thread p t j).1 (S_ref1_thread p t j).2 | L,.l7 i seen=>by kernel_rfl | L,.l14 x x1 x2 x3 x4 x5 x6 x7 x8 x9 x10 x11 x12 k seen i=>by kernel_rfl | L,.l44 i=>by kernel_rfl
end
end Go.Ev
end

section
open Go
namespace Go.Ev
def v_ref1_thread (p:El T_api_Prog) (t:List (El T_api_Ins)):Int:=threadC p t
def k_ref1_thread (p:El T_api_Prog) (t:List (El T_api_Ins)):Bool:=smallThread t
theorem operand_eq' (len:Nat) (size:Int→Int) (k s n:Int) (h:(k=3∨k=4)→0≤s):
 (bif (! (decide (k=3) || decide (k=4))) then
  (0:Int)
 else bif (decide (s≥(Int.ofNat len))) then
  (7:Int)
 else bif (k==(3:Int)) then
  bif ((decide ((0:Int)≤s))&&(decide (s < (Int.ofNat len)))) then
   bif (decide (n≥size s)) then
    (8:Int)
   else (0:Int)
  else (0:Int)
 else (0:Int))=placeN len size k s n∧
 (bif (! (decide (k=3) || decide (k=4))) then
  true
 else bif (decide (s≥(Int.ofNat len))) then
  true
 else bif (k==(3:Int)) then
  bif ((decide ((0:Int)≤s))&&(decide (s < (Int.ofNat len)))) then
   bif (decide (n≥size s)) then
    true
   else true
  else false
 else true)=true:=by
 unfold placeN
 by_cases h3:k=3
 ·have h0:=h (.inl h3)
  subst h3
  by_cases hl:(len:Int)≤s
  ·simp[hl]
  have h2:s < (len:Int):=by omega
  have h1:¬s < 0:=by omega
  by_cases hn:size s≤n
  ·simp[hl,hn,h0,h1,h2]
  ·simp[hl,hn,h0,h1,h2]
 by_cases h4:k=4
 ·have h0:=h (.inr h4)
  subst h4
  have h1:¬s < 0:=by omega
  by_cases hl:(len:Int)≤s
  ·simp[hl]
  simp[hl,h1]
 simp[h3,h4]
theorem operand_eq (p:El T_api_Prog) (o:El T_api_Opd) (h:∀k s:Int,o.1=k→o.2.2.1=s→(k=3∨k=4)→0≤s):v_ref1_operand p o=placeC p o∧k_ref1_operand p o=true:=by
 have:=operand_eq' p.1.length (fun s=>(List.getD p.1 s.toNat (dflt T_api_Sym)).2.1) o.1 o.2.2.1 o.2.2.2 (h _ _ rfl rfl)
 unfold v_ref1_operand k_ref1_operand
 rw[refMemory_eq]
 exact this
theorem right_sym' {k r s n:Int} (h:v_opnd_Right (k,r,s,n)=true) (hk:k=3∨k=4):0≤s:=by
 unfold v_opnd_Right at h
 rcases hk with rfl | rfl
 ·by_cases hs:0≤s
  ·exact hs
  ·simp[hs] at h
 ·by_cases hs:0≤s
  ·exact hs
  ·simp[hs] at h
theorem opds_ok {i:El T_api_Ins} (hr:v_ins_Right i=0):(∀k s:Int,i.2.2.2.1.1=k→i.2.2.2.1.2.2.1=s→(k=3∨k=4)→0≤s)∧∀k s:Int,i.2.2.2.2.1.1=k→i.2.2.2.2.1.2.2.1=s→(k=3∨k=4)→0≤s:=by
 obtain ⟨h1,h14,hrow⟩:=right0_row hr
 rcases nine i.1 with ⟨h9,_⟩ | ⟨h9,_⟩
 ·obtain ⟨a,b⟩:=row_low hrow h1 h9
  exact ⟨fun k s hk hs h=>hs▸right_sym' (k:=i.2.2.2.1.1) (r:=i.2.2.2.1.2.1) (s:=i.2.2.2.1.2.2.1) (n:=i.2.2.2.1.2.2.2) a (hk▸h),fun k s hk hs h=>hs▸right_sym' (k:=i.2.2.2.2.1.1) (r:=i.2.2.2.2.1.2.1) (s:=i.2.2.2.2.1.2.2.1) (n:=i.2.2.2.2.1.2.2.2) b (hk▸h)⟩
 ·obtain ⟨a,b⟩:=row_high hrow h9
  refine ⟨fun k s hk hs h=>?_,fun k s hk hs h=>?_⟩
  ·have:k=0:=hk▸a
   omega
  ·have:k=0:=hk▸b
   omega
theorem g_ref1_thread (p:El T_api_Prog) (t:List (El T_api_Ins)) (hk:k_ref1_thread p t=true):Goes (T_ref1_thread p t) (T0_ref1_thread p t) (v_ref1_thread p t):=by
 have hS:=smallT hk
 have hn:=hS.len
 have hkf:∀l,k_ref1_Find t l=true:=fun l=>by
  unfold k_ref1_Find
  simp only[Bool.and_eq_true,decide_eq_true_eq,List.all_eq_true]
  exact ⟨hn,fun i hi=>Nat.lt_of_le_of_lt (labels_mem hi) hS.labs⟩
 have jmps:∀k,k≤t.length→Goes (T_ref1_thread p t) (.jmp (.l44 (k:Int))) (jumpC (labels t) (t.drop k)):=by
  refine down ?_ fun k hk ih=>?_
  ·rw[goes_jmp]
   simp only[T_ref1_thread,goes_br,lt_len_not (Nat.lt_irrefl _),goes_leaf,List.drop_length]
   simp[jumpC]
  ·rw[goes_jmp]
   simp only[T_ref1_thread,goes_br,lt_len hk,nng,Bool.and_self,if_true,Int.toNat_natCast,getD_lt hk,wrap_succ (k:=k) (by omega),hkf,jumps_eq]
   have hfi:decide (v_ref1_Find t t[k].2.2.2.2.2.1 < 0)=! (labels t).contains t[k].2.2.2.2.2.1:=findI_neg
   rw[hfi,drop_cons hk]
   unfold jumpC
   by_cases h1:((t[k].1==(10:Int)) || (t[k].1==(11:Int)))=true
   ·rw[if_pos h1,if_pos h1]
    by_cases h2:(labels t).contains t[k].2.2.2.2.2.1=true
    ·rw[if_pos h2,if_neg (by rw[h2];decide)];exact ih
    ·rw[if_neg h2,if_pos (by rw[Bool.eq_false_iff.2 h2];rfl)];exact .leaf
   ·rw[if_neg h1,if_neg h1];exact ih
 have main:∀k,k≤t.length→Goes (T_ref1_thread p t) (.jmp (.l7 (k:Int) (labels (t.take k)))) (scanI p (fun seen=>endC t (jumpC seen t)) (labels (t.take k)) (t.drop k)):=by
  refine down ?_ fun k hk ih=>?_
  ·have hj:=jmps 0 (Nat.zero_le _)
   rw[List.drop_zero] at hj
   rw[goes_jmp,List.drop_length,List.take_length]
   unfold scanI
   simp only[T_ref1_thread,goes_br,lt_len_not (Nat.lt_irrefl _)]
   rw[if_neg (by decide)]
   by_cases h0:t.length=0
   ·have:t=[]:=List.eq_nil_of_length_eq_zero h0
    rw[this];simp[goes_leaf,endC]
   ·have hp:0 < t.length:=by omega
    rw[if_neg (by simp;exact fun e=>h0 (by rw[e];rfl)),endC_eq hp]
    rw[show Int.ofNat t.length=(t.length:Int) from rfl,wrap_pred (k:=t.length) (by omega) hp]
    have hb:(decide (0≤((t.length - 1:Nat):Int))&&decide (((t.length - 1:Nat):Int) < (t.length:Int)))=true:=by simp;omega
    simp only[hb,if_true,Int.toNat_natCast,getD_lt (show t.length - 1 < t.length by omega)]
    unfold bne
    cases h10:(t[t.length - 1].1==(10:Int)) with
    | true=>simpa using hj
    | false=>
     cases h14:(t[t.length - 1].1==(14:Int)) with
     | true=>simpa using hj
     | false=>simp[goes_leaf]
  ·have hmem:t[k]∈t:=List.getElem_mem hk
   have hto:=hS.to _ hmem
   have hlab:=hS.lab _ hmem
   have hlen:=Nat.lt_of_le_of_lt (labels_mem hmem) hS.labs
   have htk:labels (t.take (k+1))=labels (t.take k)++t[k].2.2.2.2.2.2:=by
    unfold labels
    rw[List.take_add_one,List.getElem?_eq_getElem hk,List.flatMap_append]
    simp
   have hall:labels t=labels (t.take (k+1))++labels (t.drop (k+1)):=by
    unfold labels
    rw[←List.flatMap_append,List.take_append_drop]
   have hlt:(labels (t.take (k+1))).length < 1099511627776:=by
    have:=hS.labs
    rw[hall,List.length_append] at this
    omega
   rw[goes_jmp]
   simp only[T_ref1_thread,goes_br,lt_len hk,nng,Bool.and_self,if_true,Int.toNat_natCast,getD_lt hk]
   rw[drop_cons hk]
   unfold scanI
   rw[htk] at ih hlt
   generalize t[k]=i at hto hlab hlen htk ih hlt
   obtain ⟨op,lock,cond,⟨ak,ar,ay,an⟩,⟨bk,br,bz,bn⟩,to,ls⟩:=i
   dsimp only at hto hlab hlen htk ih hlt ⊢
   have inner:∀j,j≤ls.length→Goes (T_ref1_thread p t) (.jmp (.l14 op lock cond ak ar ay an bk br bz bn to ls (j:Int) (labels (t.take k)++ls.take j) (k:Int))) (scanL (labels (t.take k)++ls.take j) (fun seen=>if insC p (op,(lock,(cond,((ak,(ar,(ay,an))),((bk,(br,(bz,bn))),(to,ls))))))≠0 then insC p (op,(lock,(cond,((ak,(ar,(ay,an))),((bk,(br,(bz,bn))),(to,ls)))))) else scanI p (fun seen=>endC t (jumpC seen t)) seen (t.drop (k+1))) (ls.drop j)):=by
    refine down ?_ fun j hj ihj=>?_
    ·rw[goes_jmp,List.drop_length,List.take_length]
     unfold scanL
     have hkr:k_ref1_InsRight (op,(lock,(cond,((ak,(ar,(ay,an))),((bk,(br,(bz,bn))),(to,ls))))))=true:=hto
     simp only[T_ref1_thread,goes_br,lt_len_not (Nat.lt_irrefl _),hkr,if_true,wrap_succ (k:=k) (by omega)]
     rw[if_neg (by decide)]
     unfold insC v_ref1_InsRight
     dsimp only
     by_cases hr:v_ins_Right (op,(lock,(cond,((ak,(ar,(ay,an))),((bk,(br,(bz,bn))),(to,ls))))))=0
     ·obtain ⟨oa,ob⟩:=opds_ok hr
      obtain ⟨a1,a2⟩:=operand_eq p (ak,(ar,(ay,an))) oa
      obtain ⟨b1,b2⟩:=operand_eq p (bk,(br,(bz,bn))) ob
      by_cases ha:placeC p (ak,(ar,(ay,an)))=0
      ·by_cases hb:placeC p (bk,(br,(bz,bn)))=0
       ·simp[hr,ha,hb,a1,a2,b1,b2];exact ih
       ·simp[hr,ha,hb,a1,a2,b1,b2,goes_leaf]
      ·simp[hr,ha,a1,a2,goes_leaf]
     ·simp[hr,goes_leaf]
    ·have hl:=hlab ls[j] (List.getElem_mem hj)
     have hkn:k_ref1_Right ls[j]=true:=hl
     have hsl:(labels (t.take k)++ls.take j).length < 1099511627776:=by
      rw[List.length_append] at hlt ⊢
      rw[List.length_take]
      omega
     have hki:k_ref1_index (labels (t.take k)++ls.take j) ls[j]=true:=decide_eq_true (by omega)
     have hap:Nat.ble (((labels (t.take k)++ls.take j).length+1)*16) limit=true:=by apply Nat.ble_eq_true_of_le;unfold limit;omega
     have htj:labels (t.take k)++ls.take (j+1)=(labels (t.take k)++ls.take j)++[ls[j]]:=by
      rw[List.take_add_one,List.getElem?_eq_getElem hj,List.append_assoc];rfl
     rw[htj] at ihj
     rw[goes_jmp]
     simp only[T_ref1_thread,goes_br,lt_len hj,nng,Bool.and_self,if_true,Int.toNat_natCast,getD_lt hj,wrap_succ (k:=j) (by omega),hkn,hki,hap,index_contains]
     rw[drop_cons hj]
     unfold scanL
     by_cases h1:nameRight ls[j]=false
     ·rw[if_pos h1,if_pos (by show (! nameRight ls[j])=true;rw[h1];rfl)];exact .leaf
     ·rw[if_neg h1,if_neg (by show ¬(! nameRight ls[j])=true;simpa using h1)]
      by_cases h2:(labels (t.take k)++ls.take j).contains ls[j]=true
      ·rw[if_pos h2,if_pos h2];exact .leaf
      ·rw[if_neg h2,if_neg h2];exact ihj
   have:=inner 0 (Nat.zero_le _)
   rw[List.drop_zero,List.take_zero,List.append_nil] at this
   exact this
 unfold T0_ref1_thread v_ref1_thread
 have hkc:k_ref1_Count t=true:=decide_eq_true hn
 simp only[goes_br,hkc,if_true]
 unfold threadC v_ref1_Count
 by_cases h:4096 < countM t
 ·rw[if_pos (by simp;omega),if_pos h];exact .leaf
 ·rw[if_neg (by simp;omega),if_neg h]
  exact main 0 (Nat.zero_le _)
end Go.Ev
end

section
open Go Go.Ev
namespace Go.Ev
noncomputable section
noncomputable def e_ref1_thread:Run:=entG sg_ref1_thread R_ref1_thread (fun a=>k_ref1_thread a.1 a.2.1) (fun a=>v_ref1_thread a.1 a.2.1)
theorem ok_ref1_thread:EntOK Go.Proofs.Tryz.prog 38 e_ref1_thread:=entG_ok (tb:=tb_ref1_thread) (c:=c_ref1_thread) tk_ref1_thread (by kernel_rfl) (by kernel_rfl) (by kernel_rfl) (fun a=>by kernel_rfl) fun ⟨p,t,_⟩ hk=>evF_goes (c:=c_ref1_thread) (K:=fun v=>(R_ref1_thread v,tps (toForms sg_ref1_thread (p,t,())))) (S:=S_ref1_thread p t) (by kernel_rfl) (en_ref1_thread p t) (lp_ref1_thread p t) (g_ref1_thread p t hk)
end
end Go.Ev
end

section
open Go Go.Ev
namespace Go.Ev
noncomputable section
def sg_ref1_Check:Sig:=[(true,T_api_Prog)]
noncomputable def t_ref1_Check:Tbl:=[(37,e_ref1_Right),(38,e_ref1_thread)]
theorem tk_ref1_Check:∀p∈t_ref1_Check,EntOK Go.Proofs.Tryz.prog p.1 p.2:=tbl_cons ok_ref1_Right (tbl_cons ok_ref1_thread (tbl_nil))
noncomputable def c_ref1_Check:Code:=Go.Proofs.Tryz.f15.body.getD .skip
def tb_ref1_Check:Tb:=[(6,⟨[1,3],[]⟩),(16,⟨[1,3,4,5],[]⟩),(26,⟨[1,6],[]⟩)]
inductive J_ref1_Check where | l6 (i:Int) | l16 (x:ByteArray) (x1:Int) (x2:List Int) (i:Int) (k:Int) | l26 (i:Int)
def T_ref1_Check (p:El T_api_Prog):J_ref1_Check→JT J_ref1_Check (Int) |.l6 i=>.br (decide (i < (Int.ofNat (List.length p.1)))) (.br ((decide ((0:Int)≤i))&&(decide (i < (Int.ofNat (List.length p.1))))) (.br (k_ref1_Right (List.getD p.1 (Int.toNat i) (dflt T_api_Sym)).1) (.br (! (v_ref1_Right (List.getD p.1 (Int.toNat i) (dflt T_api_Sym)).1)) (.leaf (3:Int)) (.jmp (.l16 (List.getD p.1 (Int.toNat i) (dflt T_api_Sym)).1 (List.getD p.1 (Int.toNat i) (dflt T_api_Sym)).2.1 (List.getD p.1 (Int.toNat i) (dflt T_api_Sym)).2.2 i (0:Int)))) (.no)) (.no)) (.jmp (.l26 (0:Int))) |.l16 x x1 x2 i k=>.br (decide (k < i)) (.br ((decide ((0:Int)≤k))&&(decide (k < (Int.ofNat (List.length p.1))))) (.br (eqB (List.getD p.1 (Int.toNat k) (dflt T_api_Sym)).1 x) (.leaf (6:Int)) (.jmp (.l16 x x1 x2 i (IntKind.i64.wrap (k+(1:Int)))))) (.no)) (.br (decide (x1 < (1:Int))) (.leaf (5:Int)) (.br (decide (x1 > (64:Int))) (.leaf (5:Int)) (.br (decide ((Int.ofNat (List.length x2)) > x1)) (.leaf (5:Int)) (.jmp (.l6 (IntKind.i64.wrap (i+(1:Int)))))))) |.l26 i=>.br (decide (i < (Int.ofNat (List.length p.2)))) (.br ((decide ((0:Int)≤i))&&(decide (i < (Int.ofNat (List.length p.2))))) (.br (k_ref1_thread p (List.getD p.2 (Int.toNat i) (dflt (.sl T_api_Ins)))) (.br ((v_ref1_thread p (List.getD p.2 (Int.toNat i) (dflt (.sl T_api_Ins)))) !=(0:Int)) (.leaf (v_ref1_thread p (List.getD p.2 (Int.toNat i) (dflt (.sl T_api_Ins))))) (.jmp (.l26 (IntKind.i64.wrap (i+(1:Int)))))) (.no)) (.no)) (.leaf (0:Int))
def T0_ref1_Check (p:El T_api_Prog):JT J_ref1_Check (Int):=.br (decide ((Int.ofNat (List.length p.1)) > (64:Int))) (.leaf (10:Int)) (.br (decide ((Int.ofNat (List.length p.2)) > (64:Int))) (.leaf (10:Int)) (.jmp (.l6 (0:Int))))
def R_ref1_Check:Int→AV:=fun (r:Int)=>.d (.int .i64) r
def S_ref1_Check (p:El T_api_Prog):J_ref1_Check→Nat×St |.l6 i=>(6,⟨mkTm 81 [(1,.pt 2 0 0),(3,.d (.int .i64) i)],[(2,0,.box 27 [.d (.sl T_api_Sym) p.1,.d (.sl (.sl T_api_Ins)) p.2] none)]⟩) |.l16 x x1 x2 i k=>(16,⟨mkTm 81 [(1,.pt 2 0 0),(3,.d (.int .i64) i),(4,.pt 5 0 0),(5,.d (.int .i64) k)],[(2,0,.box 27 [.d (.sl T_api_Sym) p.1,.d (.sl (.sl T_api_Ins)) p.2] none),(5,0,.box 47 [.d .str x,.d (.int .i64) x1,.d (.sl (.int .i64)) x2] none)]⟩) |.l26 i=>(26,⟨mkTm 81 [(1,.pt 2 0 0),(6,.d (.int .i64) i)],[(2,0,.box 27 [.d (.sl T_api_Sym) p.1,.d (.sl (.sl T_api_Ins)) p.2] none)]⟩)
theorem en_ref1_Check (p:El T_api_Prog) (L:Lt):entryA Go.Proofs.Tryz.prog (clOf t_ref1_Check) tb_ref1_Check Go.Proofs.Tryz.f15 c_ref1_Check L (toForms sg_ref1_Check (p,()))=(T0_ref1_Check p).run (fun v=>some (R_ref1_Check v,tps (toForms sg_ref1_Check (p,())))) fun j=>L (S_ref1_Check p j).1 (S_ref1_Check p j).2:=by kernel_rfl
theorem lp_ref1_Check (p:El T_api_Prog):∀(L:Lt) (j:J_ref1_Check),procOf (procsF Go.Proofs.Tryz.prog (clOf t_ref1_Check) tb_ref1_Check Go.Proofs.Tryz.f15 c_ref1_Check (toForms sg_ref1_Check (p,()))) (S_ref1_Check p j).1 L (S_ref1_Check p j).2=(T_ref1_Check p j).run (fun v=>some (R_ref1_Check v,tps (toForms sg_ref1_Check (p,())))) fun j=>L (S_ref1_Check p j).1 (S_ref1_Check p j).2 | L,.l6 i=>by kernel_rfl | L,.l16 x x1 x2 i k=>by kernel_rfl | L,.l26 i=>by kernel_rfl
end
end Go.Ev
end

section
open Go
namespace Go.Ev
def v_ref1_Check (p:El T_api_Prog):Int:=checkC p
def k_ref1_Check (p:El T_api_Prog):Bool:=smallProg p
theorem g_ref1_Check (p:El T_api_Prog) (hk:k_ref1_Check p=true):Goes (T_ref1_Check p) (T0_ref1_Check p) (v_ref1_Check p):=by
 have hth:∀t∈p.2,smallThread t=true:=by
  unfold k_ref1_Check smallProg at hk
  simp only[Bool.and_eq_true,List.all_eq_true] at hk
  exact hk.2
 have hsy:∀s∈p.1,smallText s.1=true:=by
  unfold k_ref1_Check smallProg at hk
  simp only[Bool.and_eq_true,List.all_eq_true] at hk
  exact hk.1
 obtain ⟨sy,th⟩:=p
 dsimp only at hth hsy
 have ths:th.length≤64→∀k,k≤th.length→Goes (T_ref1_Check (sy,th)) (.jmp (.l26 (k:Int))) (thsC (sy,th) (th.drop k)):=by
  intro hn
  refine down ?_ fun k hk ih=>?_
  ·rw[goes_jmp]
   simp only[T_ref1_Check,goes_br,lt_len_not (Nat.lt_irrefl _),goes_leaf,List.drop_length]
   simp[thsC]
  ·have hkt:k_ref1_thread (sy,th) th[k]=true:=hth _ (List.getElem_mem hk)
   rw[goes_jmp]
   simp only[T_ref1_Check,goes_br,lt_len hk,nng,Bool.and_self,if_true,Int.toNat_natCast,getD_lt hk,wrap_succ (k:=k) (by omega),hkt]
   rw[drop_cons hk]
   unfold thsC
   show (if (threadC (sy,th) th[k] !=0)=true then _ else _)
   by_cases h:threadC (sy,th) th[k]=0
   ·rw[if_neg (by simp[h]),if_neg (by simp[h])];exact ih
   ·rw[if_pos (by simp[h]),if_pos h];exact .leaf
 have main:sy.length≤64→th.length≤64→∀k,k≤sy.length→Goes (T_ref1_Check (sy,th)) (.jmp (.l6 (k:Int))) (symsC (thsC (sy,th) th) ((sy.take k).map fun s=>s.1) (sy.drop k)):=by
  intro hn hm
  refine down ?_ fun k hk ih=>?_
  ·rw[goes_jmp,List.drop_length]
   unfold symsC
   simp only[T_ref1_Check,goes_br,lt_len_not (Nat.lt_irrefl _)]
   rw[if_neg (by decide)]
   simpa using ths hm 0 (Nat.zero_le _)
  ·have hkn:k_ref1_Right sy[k].1=true:=hsy _ (List.getElem_mem hk)
   have htk:(sy.take (k+1)).map (fun s=>s.1)=(sy.take k).map (fun s=>s.1)++[sy[k].1]:=by
    rw[List.take_add_one,List.getElem?_eq_getElem hk,List.map_append];rfl
   rw[htk] at ih
   rw[goes_jmp]
   simp only[T_ref1_Check,goes_br,lt_len hk,nng,Bool.and_self,if_true,Int.toNat_natCast,getD_lt hk,hkn]
   rw[drop_cons hk]
   unfold symsC
   generalize sy[k]=s at ih hkn
   obtain ⟨nm,size,init⟩:=s
   dsimp only at ih hkn ⊢
   change Int at size
   by_cases h1:nameRight nm=false
   ·rw[if_pos h1,if_pos (by show (! nameRight nm)=true;rw[h1];rfl)];exact .leaf
   rw[if_neg h1,if_neg (by show ¬(! nameRight nm)=true;simpa using h1)]
   have inner:∀j,j≤k→Goes (T_ref1_Check (sy,th)) (.jmp (.l16 nm size init (k:Int) (j:Int))) (if (((sy.take k).drop j).map (fun s=>s.1)).contains nm=true then 6 else if size < (1:Int)∨(64:Int) < size∨size < (List.length init:Int) then 5 else symsC (thsC (sy,th) th) ((sy.take k).map (fun s=>s.1)++[nm]) (sy.drop (k+1))):=by
    refine down ?_ fun j hj ihj=>?_
    ·rw[goes_jmp]
     have:(sy.take k).drop k=[]:=List.drop_eq_nil_of_le (by rw[List.length_take];omega)
     rw[this]
     simp only[T_ref1_Check,goes_br,wrap_succ (k:=k) (by omega)]
     rw[if_neg (by simp)]
     simp only[List.map_nil,List.contains_nil,Bool.false_eq_true,if_false]
     by_cases h3:size < 1
     ·rw[if_pos (decide_eq_true h3),if_pos (.inl h3)];exact .leaf
     rw[if_neg (by simpa using h3)]
     by_cases h4:64 < size
     ·rw[if_pos (decide_eq_true h4),if_pos (.inr (.inl h4))];exact .leaf
     rw[if_neg (by simpa using h4)]
     by_cases h5:size < (List.length init:Int)
     ·rw[if_pos (show decide (Int.ofNat (List.length init) > size)=true from decide_eq_true h5),if_pos (.inr (.inr h5))];exact .leaf
     rw[if_neg (show ¬decide (Int.ofNat (List.length init) > size)=true by simpa using h5),if_neg (by rintro (h | h | h) <;> contradiction)]
     exact ih
    ·have hjs:j < sy.length:=by omega
     have hjt:j < (sy.take k).length:=by rw[List.length_take];omega
     rw[goes_jmp,drop_cons hjt,List.map_cons,List.contains_cons,List.getElem_take]
     simp only[T_ref1_Check,goes_br,lt_len hjs,nng,Bool.and_self,if_true,Int.toNat_natCast,getD_lt hjs,wrap_succ (k:=j) (by omega),eqB_iff]
     rw[if_pos (by simp;omega)]
     by_cases h2:sy[j].1=nm
     ·rw[if_pos h2,if_pos (by rw[h2];simp)];exact .leaf
     ·rw[if_neg h2,beq_false_of_ne (Ne.symm h2),Bool.false_or];exact ihj
   simpa using inner 0 (Nat.zero_le _)
 unfold T0_ref1_Check v_ref1_Check checkC
 simp only[goes_br]
 by_cases h:64 < sy.length
 ·rw[if_pos (by simp;omega),if_pos (.inl h)];exact .leaf
 rw[if_neg (by simp;omega)]
 by_cases h2:64 < th.length
 ·rw[if_pos (by simp;omega),if_pos (.inr h2)];exact .leaf
 rw[if_neg (by simp;omega),if_neg (by rintro (h | h) <;> contradiction)]
 exact main (by omega) (by omega) 0 (Nat.zero_le _)
end Go.Ev
end

section
open Go Go.Ev
namespace Go.Ev
noncomputable section
noncomputable def e_ref1_Check:Run:=entG sg_ref1_Check R_ref1_Check (fun a=>k_ref1_Check a.1) (fun a=>v_ref1_Check a.1)
theorem ok_ref1_Check:EntOK Go.Proofs.Tryz.prog 15 e_ref1_Check:=entG_ok (tb:=tb_ref1_Check) (c:=c_ref1_Check) tk_ref1_Check (by kernel_rfl) (by kernel_rfl) (by kernel_rfl) (fun a=>by kernel_rfl) fun ⟨p,_⟩ hk=>evF_goes (c:=c_ref1_Check) (K:=fun v=>(R_ref1_Check v,tps (toForms sg_ref1_Check (p,())))) (S:=S_ref1_Check p) (by kernel_rfl) (en_ref1_Check p) (lp_ref1_Check p) (g_ref1_Check p hk)
end
end Go.Ev
end

section
open Go Go.Ev
namespace Go.Ev
noncomputable section
def sg_law25_both:Sig:=[]
noncomputable def t_law25_both:Tbl:=[]
theorem tk_law25_both:∀p∈t_law25_both,EntOK Go.Proofs.Tryz.prog p.1 p.2:=tbl_nil
noncomputable def c_law25_both:Code:=Go.Proofs.Tryz.f35.body.getD .skip
def tb_law25_both:Tb:=[]
def T_law25_both:Empty→JT Empty (El T_api_Prog):=fun j=>nomatch j
def T0_law25_both:JT Empty (El T_api_Prog):=.leaf ([((bs [120]),((1:Int),[])),((bs [121]),((1:Int),[]))],[[((1:Int),(false,((0:Int),(((3:Int),((0:Int),((0:Int),(0:Int)))),(((2:Int),((0:Int),((0:Int),(1:Int)))),((bs []),[])))))),((1:Int),(false,((0:Int),(((1:Int),((0:Int),((0:Int),(0:Int)))),(((3:Int),((0:Int),((1:Int),(0:Int)))),((bs []),[])))))),((14:Int),(false,((0:Int),(((0:Int),((0:Int),((0:Int),(0:Int)))),(((0:Int),((0:Int),((0:Int),(0:Int)))),((bs []),[]))))))],[((1:Int),(false,((0:Int),(((3:Int),((0:Int),((1:Int),(0:Int)))),(((2:Int),((0:Int),((0:Int),(1:Int)))),((bs []),[])))))),((1:Int),(false,((0:Int),(((1:Int),((0:Int),((0:Int),(0:Int)))),(((3:Int),((0:Int),((0:Int),(0:Int)))),((bs []),[])))))),((14:Int),(false,((0:Int),(((0:Int),((0:Int),((0:Int),(0:Int)))),(((0:Int),((0:Int),((0:Int),(0:Int)))),((bs []),[]))))))]])
def v_law25_both:El T_api_Prog:=([((bs [120]),((1:Int),[])),((bs [121]),((1:Int),[]))],[[((1:Int),(false,((0:Int),(((3:Int),((0:Int),((0:Int),(0:Int)))),(((2:Int),((0:Int),((0:Int),(1:Int)))),((bs []),[])))))),((1:Int),(false,((0:Int),(((1:Int),((0:Int),((0:Int),(0:Int)))),(((3:Int),((0:Int),((1:Int),(0:Int)))),((bs []),[])))))),((14:Int),(false,((0:Int),(((0:Int),((0:Int),((0:Int),(0:Int)))),(((0:Int),((0:Int),((0:Int),(0:Int)))),((bs []),[]))))))],[((1:Int),(false,((0:Int),(((3:Int),((0:Int),((1:Int),(0:Int)))),(((2:Int),((0:Int),((0:Int),(1:Int)))),((bs []),[])))))),((1:Int),(false,((0:Int),(((1:Int),((0:Int),((0:Int),(0:Int)))),(((3:Int),((0:Int),((0:Int),(0:Int)))),((bs []),[])))))),((14:Int),(false,((0:Int),(((0:Int),((0:Int),((0:Int),(0:Int)))),(((0:Int),((0:Int),((0:Int),(0:Int)))),((bs []),[]))))))]])
theorem g_law25_both:Goes (T_law25_both) (T0_law25_both) (v_law25_both):=Goes.leaf
def R_law25_both:El T_api_Prog→AV:=fun (r:El T_api_Prog)=>.ag [.rw 47 T_api_Sym r.1,.rw 33 (.sl T_api_Ins) r.2]
def S_law25_both:Empty→Nat×St:=fun j=>nomatch j
theorem en_law25_both (L:Lt):entryA Go.Proofs.Tryz.prog (clOf t_law25_both) tb_law25_both Go.Proofs.Tryz.f35 c_law25_both L (toForms sg_law25_both (()))=(T0_law25_both).run (fun v=>some (R_law25_both v,tps (toForms sg_law25_both (())))) fun j=>L (S_law25_both j).1 (S_law25_both j).2:=by kernel_rfl
theorem lp_law25_both:∀(L:Lt) (j:Empty),procOf (procsF Go.Proofs.Tryz.prog (clOf t_law25_both) tb_law25_both Go.Proofs.Tryz.f35 c_law25_both (toForms sg_law25_both (()))) (S_law25_both j).1 L (S_law25_both j).2=(T_law25_both j).run (fun v=>some (R_law25_both v,tps (toForms sg_law25_both (())))) fun j=>L (S_law25_both j).1 (S_law25_both j).2:=fun L j=>nomatch j
noncomputable def e_law25_both:Run:=entT sg_law25_both R_law25_both (fun a=>v_law25_both)
theorem ok_law25_both:EntOK Go.Proofs.Tryz.prog 35 e_law25_both:=entT_ok (tb:=tb_law25_both) (c:=c_law25_both) tk_law25_both (by kernel_rfl) (by kernel_rfl) (by kernel_rfl) (fun a=>by kernel_rfl) fun _=>evF_goes (c:=c_law25_both) (K:=fun v=>(R_law25_both v,tps (toForms sg_law25_both (())))) (S:=S_law25_both) (by kernel_rfl) (en_law25_both) (lp_law25_both) (g_law25_both)
end
end Go.Ev
end

section
open Go Go.Ev
namespace Go.Ev
noncomputable section
def sg_valid_Count:Sig:=[(true,(.sl T_api_Ins))]
noncomputable def t_valid_Count:Tbl:=[]
theorem tk_valid_Count:∀p∈t_valid_Count,EntOK Go.Proofs.Tryz.prog p.1 p.2:=tbl_nil
noncomputable def c_valid_Count:Code:=Go.Proofs.Tryz.f109.body.getD .skip
def tb_valid_Count:Tb:=[(4,⟨[3,7,8,9],[]⟩)]
inductive J_valid_Count where | l4 (n:Int) (h:Int)
def T_valid_Count (t:List (El T_api_Ins)):J_valid_Count→JT J_valid_Count (Int) |.l4 n h=>.br (decide (h < (Int.ofNat (List.length t)))) (.br ((decide ((0:Int)≤h))&&(decide (h < (Int.ofNat (List.length t))))) (.br ((List.getD t (Int.toNat h) (dflt T_api_Ins)).1 !=(12:Int)) (.jmp (.l4 (IntKind.i64.wrap (n+(1:Int))) (IntKind.i64.wrap (h+(1:Int))))) (.jmp (.l4 n (IntKind.i64.wrap (h+(1:Int)))))) (.no)) (.leaf n)
def T0_valid_Count (t:List (El T_api_Ins)):JT J_valid_Count (Int):=.jmp (.l4 (0:Int) (0:Int))
def R_valid_Count:Int→AV:=fun (r:Int)=>.d (.int .i64) r
def S_valid_Count (t:List (El T_api_Ins)):J_valid_Count→Nat×St |.l4 n h=>(4,⟨mkTm 20 [(3,.d (.int .i64) n),(7,.d (.sl T_api_Ins) t),(8,.d (.int .i64) (Int.ofNat (List.length t))),(9,.d (.int .i64) h)],[]⟩)
theorem en_valid_Count (t:List (El T_api_Ins)) (L:Lt):entryA Go.Proofs.Tryz.prog (clOf t_valid_Count) tb_valid_Count Go.Proofs.Tryz.f109 c_valid_Count L (toForms sg_valid_Count (t,()))=(T0_valid_Count t).run (fun v=>some (R_valid_Count v,tps (toForms sg_valid_Count (t,())))) fun j=>L (S_valid_Count t j).1 (S_valid_Count t j).2:=by kernel_rfl
theorem lp_valid_Count (t:List (El T_api_Ins)):∀(L:Lt) (j:J_valid_Count),procOf (procsF Go.Proofs.Tryz.prog (clOf t_valid_Count) tb_valid_Count Go.Proofs.Tryz.f109 c_valid_Count (toForms sg_valid_Count (t,()))) (S_valid_Count t j).1 L (S_valid_Count t j).2=(T_valid_Count t j).run (fun v=>some (R_valid_Count v,tps (toForms sg_valid_Count (t,())))) fun j=>L (S_valid_Count t j).1 (S_valid_Count t j).2 | L,.l4 n h=>by kernel_rfl
end
end Go.Ev
end

section
open Go
namespace Go.Ev
def v_valid_Count (t:List (El T_api_Ins)):Int:=(countM t:Int)
def k_valid_Count (t:List (El T_api_Ins)):Bool:=decide (t.length < 1099511627776)
theorem g_valid_Count (t:List (El T_api_Ins)) (hk:k_valid_Count t=true):Goes (T_valid_Count t) (T0_valid_Count t) (v_valid_Count t):=by
 have hn:t.length < 1099511627776:=of_decide_eq_true hk
 have loop:∀k,k≤t.length→∀n:Nat,n≤k→Goes (T_valid_Count t) (.jmp (.l4 (n:Int) (k:Int))) ((n+countM (t.drop k):Nat):Int):=by
  refine down ?_ fun k hk ih=>?_
  ·intro n hnk
   rw[goes_jmp]
   simp only[T_valid_Count,goes_br,lt_len_not (Nat.lt_irrefl _),goes_leaf,List.drop_length]
   simp[countM]
  ·intro n hnk
   rw[goes_jmp]
   simp only[T_valid_Count,goes_br,lt_len hk,nng,Bool.and_self,if_true,Int.toNat_natCast,getD_lt hk,wrap_succ (k:=k) (by omega),wrap_succ (k:=n) (by omega)]
   rw[drop_cons hk]
   unfold countM
   rw[List.filter_cons]
   split
   ·rename_i h
    have:=ih (n+1) (by omega)
    unfold countM at this
    rw[List.length_cons,show n+((List.filter (fun i=>i.1 !=(12:Int)) (List.drop (k+1) t)).length+1)=n+1+(List.filter (fun i=>i.1 !=(12:Int)) (List.drop (k+1) t)).length by omega]
    exact this
   ·exact ih n (by omega)
 have:=loop 0 (Nat.zero_le _) 0 (Nat.le_refl _)
 unfold T0_valid_Count v_valid_Count
 simpa using this
end Go.Ev
end

section
open Go Go.Ev
namespace Go.Ev
noncomputable section
noncomputable def e_valid_Count:Run:=entG sg_valid_Count R_valid_Count (fun a=>k_valid_Count a.1) (fun a=>v_valid_Count a.1)
theorem ok_valid_Count:EntOK Go.Proofs.Tryz.prog 109 e_valid_Count:=entG_ok (tb:=tb_valid_Count) (c:=c_valid_Count) tk_valid_Count (by kernel_rfl) (by kernel_rfl) (by kernel_rfl) (fun a=>by kernel_rfl) fun ⟨t,_⟩ hk=>evF_goes (c:=c_valid_Count) (K:=fun v=>(R_valid_Count v,tps (toForms sg_valid_Count (t,())))) (S:=S_valid_Count t) (by kernel_rfl) (en_valid_Count t) (lp_valid_Count t) (g_valid_Count t hk)
end
end Go.Ev
end

section
open Go Go.Ev
namespace Go.Ev
noncomputable section
def sg_valid_place:Sig:=[(true,T_api_Prog),(true,T_api_Opd)]
noncomputable def t_valid_place:Tbl:=[]
theorem tk_valid_place:∀p∈t_valid_place,EntOK Go.Proofs.Tryz.prog p.1 p.2:=tbl_nil
noncomputable def c_valid_place:Code:=Go.Proofs.Tryz.f111.body.getD .skip
def tb_valid_place:Tb:=[(5,⟨[2,3,23],[]⟩)]
inductive J_valid_place where | l5 (h:Bool)
def T_valid_place (p:El T_api_Prog) (o:El T_api_Opd):J_valid_place→JT J_valid_place (Int) |.l5 h=>.br h (.leaf (7:Int)) (.br (o.1==(3:Int)) (.br ((decide ((0:Int)≤o.2.2.1))&&(decide (o.2.2.1 < (Int.ofNat (List.length p.1))))) (.br (decide (o.2.2.2≥(List.getD p.1 (Int.toNat o.2.2.1) (dflt T_api_Sym)).2.1)) (.leaf (8:Int)) (.leaf (0:Int))) (.no)) (.leaf (0:Int)))
def T0_valid_place (p:El T_api_Prog) (o:El T_api_Opd):JT J_valid_place (Int):=.br (o.1 !=(3:Int)) (.br (o.1 !=(4:Int)) (.leaf (0:Int)) (.br (decide (o.2.2.1 < (0:Int))) (.jmp (.l5 true)) (.jmp (.l5 (decide (o.2.2.1≥(Int.ofNat (List.length p.1)))))))) (.br (decide (o.2.2.1 < (0:Int))) (.jmp (.l5 true)) (.jmp (.l5 (decide (o.2.2.1≥(Int.ofNat (List.length p.1)))))))
def v_valid_place_l5 (p:El T_api_Prog) (o:El T_api_Opd) (h:Bool):Int:=bif h then (7:Int) else bif (o.1==(3:Int)) then bif ((decide ((0:Int)≤o.2.2.1))&&(decide (o.2.2.1 < (Int.ofNat (List.length p.1))))) then bif (decide (o.2.2.2≥(List.getD p.1 (Int.toNat o.2.2.1) (dflt T_api_Sym)).2.1)) then (8:Int) else (0:Int) else (0:Int) else (0:Int)
def k_valid_place_l5 (p:El T_api_Prog) (o:El T_api_Opd) (h:Bool):Bool:=bif h then true else bif (o.1==(3:Int)) then bif ((decide ((0:Int)≤o.2.2.1))&&(decide (o.2.2.1 < (Int.ofNat (List.length p.1))))) then bif (decide (o.2.2.2≥(List.getD p.1 (Int.toNat o.2.2.1) (dflt T_api_Sym)).2.1)) then true else true else false else true
theorem g_valid_place_l5 (p:El T_api_Prog) (o:El T_api_Opd) (h:Bool) (hk:k_valid_place_l5 p o h=true):Goes (T_valid_place p o) (.jmp (.l5 h)) (v_valid_place_l5 p o h):=Goes.jmp (Goes.brk hk (fun hk=>Goes.leaf) (fun hk=>Goes.brk hk (fun hk=>Goes.brk hk (fun hk=>Goes.brk hk (fun hk=>Goes.leaf) (fun hk=>Goes.leaf)) (fun hk=>Goes.nok hk)) (fun hk=>Goes.leaf)))
def u_valid_place (p:El T_api_Prog) (o:El T_api_Opd):Int:=bif (o.1 !=(3:Int)) then bif (o.1 !=(4:Int)) then (0:Int) else bif (decide (o.2.2.1 < (0:Int))) then v_valid_place_l5 p o true else v_valid_place_l5 p o (decide (o.2.2.1≥(Int.ofNat (List.length p.1)))) else bif (decide (o.2.2.1 < (0:Int))) then v_valid_place_l5 p o true else v_valid_place_l5 p o (decide (o.2.2.1≥(Int.ofNat (List.length p.1))))
def ku_valid_place (p:El T_api_Prog) (o:El T_api_Opd):Bool:=bif (o.1 !=(3:Int)) then bif (o.1 !=(4:Int)) then true else bif (decide (o.2.2.1 < (0:Int))) then k_valid_place_l5 p o true else k_valid_place_l5 p o (decide (o.2.2.1≥(Int.ofNat (List.length p.1)))) else bif (decide (o.2.2.1 < (0:Int))) then k_valid_place_l5 p o true else k_valid_place_l5 p o (decide (o.2.2.1≥(Int.ofNat (List.length p.1))))
theorem gu_valid_place (p:El T_api_Prog) (o:El T_api_Opd) (hk:ku_valid_place p o=true):Goes (T_valid_place p o) (T0_valid_place p o) (u_valid_place p o):=Goes.brk hk (fun hk=>Goes.brk hk (fun hk=>Goes.leaf) (fun hk=>Goes.brk hk (fun hk=>g_valid_place_l5 p o true hk) (fun hk=>g_valid_place_l5 p o (decide (o.2.2.1≥(Int.ofNat (List.length p.1)))) hk))) (fun hk=>Goes.brk hk (fun hk=>g_valid_place_l5 p o true hk) (fun hk=>g_valid_place_l5 p o (decide (o.2.2.1≥(Int.ofNat (List.length p.1)))) hk))
def R_valid_place:Int→AV:=fun (r:Int)=>.d (.int .i64) r
def S_valid_place (p:El T_api_Prog) (o:El T_api_Opd):J_valid_place→Nat×St |.l5 h=>(5,⟨mkTm 39 [(2,.pt 3 0 0),(3,.pt 4 0 0),(23,.d .bool h)],[(3,0,.box 27 [.d (.sl T_api_Sym) p.1,.d (.sl (.sl T_api_Ins)) p.2] none),(4,0,.box 50 [.d (.int .i64) o.1,.d (.int .i64) o.2.1,.d (.int .i64) o.2.2.1,.d (.int .i64) o.2.2.2] none)]⟩)
theorem en_valid_place (p:El T_api_Prog) (o:El T_api_Opd) (L:Lt):entryA Go.Proofs.Tryz.prog (clOf t_valid_place) tb_valid_place Go.Proofs.Tryz.f111 c_valid_place L (toForms sg_valid_place (p,o,()))=(T0_valid_place p o).run (fun v=>some (R_valid_place v,tps (toForms sg_valid_place (p,o,())))) fun j=>L (S_valid_place p o j).1 (S_valid_place p o j).2:=by kernel_rfl
theorem lp_valid_place (p:El T_api_Prog) (o:El T_api_Opd):∀(L:Lt) (j:J_valid_place),procOf (procsF Go.Proofs.Tryz.prog (clOf t_valid_place) tb_valid_place Go.Proofs.Tryz.f111 c_valid_place (toForms sg_valid_place (p,o,()))) (S_valid_place p o j).1 L (S_valid_place p o j).2=(T_valid_place p o j).run (fun v=>some (R_valid_place v,tps (toForms sg_valid_place (p,o,())))) fun j=>L (S_valid_place p o j).1 (S_valid_place p o j).2 | L,.l5 h=>by kernel_rfl
end
end Go.Ev
end

section
open Go
namespace Go.Ev
def v_valid_place (p:El T_api_Prog) (o:El T_api_Opd):Int:=placeC p o
theorem place_eq' (len:Nat) (size:Int→Int) (k s n:Int):
 (bif (k !=(3:Int)) then
  bif (k !=(4:Int)) then
   (0:Int)
  else bif (decide (s < (0:Int))) then (7:Int)
  else bif (decide (s≥(Int.ofNat len))) then
  (7:Int)
 else bif (k==(3:Int)) then
  bif ((decide ((0:Int)≤s))&&(decide (s < (Int.ofNat len)))) then
   bif (decide (n≥size s)) then
    (8:Int)
   else (0:Int)
  else (0:Int)
 else (0:Int)
 else bif (decide (s < (0:Int))) then (7:Int)
  else bif (decide (s≥(Int.ofNat len))) then
  (7:Int)
 else bif (k==(3:Int)) then
  bif ((decide ((0:Int)≤s))&&(decide (s < (Int.ofNat len)))) then
   bif (decide (n≥size s)) then
    (8:Int)
   else (0:Int)
  else (0:Int)
 else (0:Int))=placeN len size k s n:=by
 unfold placeN
 by_cases h3:k=3
 ·subst h3
  by_cases hs:s < 0
  ·simp[hs]
  by_cases hl:(len:Int)≤s
  ·simp[hs,hl]
  have h1:0≤s:=by omega
  have h2:s < (len:Int):=by omega
  by_cases hn:size s≤n
  ·simp[hs,hl,hn,h1,h2]
  ·simp[hs,hl,hn,h1,h2]
 by_cases h4:k=4
 ·subst h4
  by_cases hs:s < 0
  ·simp[hs]
  by_cases hl:(len:Int)≤s
  ·simp[hs,hl]
  simp[hs,hl]
 have e3:(k !=(3:Int))=true:=by simp[h3]
 have e4:(k !=(4:Int))=true:=by simp[h4]
 rw[e3,e4]
 simp[h3,h4]
theorem place_k' (len:Nat) (size:Int→Int) (k s n:Int):
 (bif (k !=(3:Int)) then
  bif (k !=(4:Int)) then
   true
  else bif (decide (s < (0:Int))) then true
  else bif (decide (s≥(Int.ofNat len))) then
  true
 else bif (k==(3:Int)) then
  bif ((decide ((0:Int)≤s))&&(decide (s < (Int.ofNat len)))) then
   bif (decide (n≥size s)) then
    true
   else true
  else false
 else true
 else bif (decide (s < (0:Int))) then true
  else bif (decide (s≥(Int.ofNat len))) then
  true
 else bif (k==(3:Int)) then
  bif ((decide ((0:Int)≤s))&&(decide (s < (Int.ofNat len)))) then
   bif (decide (n≥size s)) then
    true
   else true
  else false
 else true)=true:=by
 by_cases h3:k=3
 ·subst h3
  by_cases hs:s < 0
  ·simp[hs]
  by_cases hl:(len:Int)≤s
  ·simp[hs,hl]
  have h1:0≤s:=by omega
  have h2:s < (len:Int):=by omega
  by_cases hn:size s≤n
  ·simp[hs,hl,hn,h1,h2]
  ·simp[hs,hl,hn,h1,h2]
 by_cases h4:k=4
 ·subst h4
  by_cases hs:s < 0
  ·simp[hs]
  by_cases hl:(len:Int)≤s
  ·simp[hs,hl]
  simp[hs,hl]
 have e3:(k !=(3:Int))=true:=by simp[h3]
 have e4:(k !=(4:Int))=true:=by simp[h4]
 rw[e3,e4]
 simp[h3,h4]
theorem g_valid_place (p:El T_api_Prog) (o:El T_api_Opd):Goes (T_valid_place p o) (T0_valid_place p o) (v_valid_place p o):=by
 have hk:ku_valid_place p o=true:=place_k' p.1.length (fun s=>(List.getD p.1 s.toNat (dflt T_api_Sym)).2.1) o.1 o.2.2.1 o.2.2.2
 have he:u_valid_place p o=v_valid_place p o:=place_eq' p.1.length (fun s=>(List.getD p.1 s.toNat (dflt T_api_Sym)).2.1) o.1 o.2.2.1 o.2.2.2
 rw[←he]
 exact gu_valid_place p o hk
end Go.Ev
end

section
open Go Go.Ev
namespace Go.Ev
noncomputable section
noncomputable def e_valid_place:Run:=entT sg_valid_place R_valid_place (fun a=>v_valid_place a.1 a.2.1)
theorem ok_valid_place:EntOK Go.Proofs.Tryz.prog 111 e_valid_place:=entT_ok (tb:=tb_valid_place) (c:=c_valid_place) tk_valid_place (by kernel_rfl) (by kernel_rfl) (by kernel_rfl) (fun a=>by kernel_rfl) fun ⟨p,o,_⟩=>evF_goes (c:=c_valid_place) (K:=fun v=>(R_valid_place v,tps (toForms sg_valid_place (p,o,())))) (S:=S_valid_place p o) (by kernel_rfl) (en_valid_place p o) (lp_valid_place p o) (g_valid_place p o)
end
end Go.Ev
end

section
open Go Go.Ev
namespace Go.Ev
noncomputable section
def sg_valid_thread:Sig:=[(true,T_api_Prog),(true,(.sl T_api_Ins))]
noncomputable def t_valid_thread:Tbl:=[(109,e_valid_Count),(76,e_names_Right),(110,e_ins_Right),(111,e_valid_place),(112,e_ins_Leads)]
theorem tk_valid_thread:∀p∈t_valid_thread,EntOK Go.Proofs.Tryz.prog p.1 p.2:=tbl_cons ok_valid_Count (tbl_cons ok_names_Right (tbl_cons ok_ins_Right (tbl_cons ok_valid_place (tbl_cons ok_ins_Leads (tbl_nil)))))
noncomputable def c_valid_thread:Code:=Go.Proofs.Tryz.f77.body.getD .skip
def tb_valid_thread:Tb:=[(7,⟨[2,3,5,21,22,23,75,83],[]⟩),(14,⟨[2,3,5,7,21,22,23,28,29,30,75,83],[]⟩),(38,⟨[5,87,88,89],[]⟩)]
inductive J_valid_thread where | l7 (h:Int) (seen:List (ByteArray×Bool)) | l14 (h:List ByteArray) (h1:Int) (i:Int) (i1:Bool) (i2:Int) (i3:Int) (i4:Int) (i5:Int) (i6:Int) (i7:Int) (i8:Int) (i9:Int) (i10:Int) (i11:ByteArray) (i12:List ByteArray) (h2:Int) (seen:List (ByteArray×Bool)) (h3:Int) | l38 (h:Int) (seen:List (ByteArray×Bool))
def T_valid_thread (p:El T_api_Prog) (t:List (El T_api_Ins)):J_valid_thread→JT J_valid_thread (Int) |.l7 h seen=>.br (decide (h < (Int.ofNat (List.length t)))) (.br ((decide ((0:Int)≤h))&&(decide (h < (Int.ofNat (List.length t))))) (.jmp (.l14 (List.getD t (Int.toNat h) (dflt T_api_Ins)).2.2.2.2.2.2 (Int.ofNat (List.length (List.getD t (Int.toNat h) (dflt T_api_Ins)).2.2.2.2.2.2)) (List.getD t (Int.toNat h) (dflt T_api_Ins)).1 (List.getD t (Int.toNat h) (dflt T_api_Ins)).2.1 (List.getD t (Int.toNat h) (dflt T_api_Ins)).2.2.1 (List.getD t (Int.toNat h) (dflt T_api_Ins)).2.2.2.1.1 (List.getD t (Int.toNat h) (dflt T_api_Ins)).2.2.2.1.2.1 (List.getD t (Int.toNat h) (dflt T_api_Ins)).2.2.2.1.2.2.1 (List.getD t (Int.toNat h) (dflt T_api_Ins)).2.2.2.1.2.2.2 (List.getD t (Int.toNat h) (dflt T_api_Ins)).2.2.2.2.1.1 (List.getD t (Int.toNat h) (dflt T_api_Ins)).2.2.2.2.1.2.1 (List.getD t (Int.toNat h) (dflt T_api_Ins)).2.2.2.2.1.2.2.1 (List.getD t (Int.toNat h) (dflt T_api_Ins)).2.2.2.2.1.2.2.2 (List.getD t (Int.toNat h) (dflt T_api_Ins)).2.2.2.2.2.1 (List.getD t (Int.toNat h) (dflt T_api_Ins)).2.2.2.2.2.2 (0:Int) seen h)) (.no)) (.br ((Int.ofNat (List.length t))==(0:Int)) (.leaf (9:Int)) (.br ((decide ((0:Int)≤(IntKind.i64.wrap ((Int.ofNat (List.length t)) - (1:Int)))))&&(decide ((IntKind.i64.wrap ((Int.ofNat (List.length t)) - (1:Int))) < (Int.ofNat (List.length t))))) (.br ((List.getD t (Int.toNat (IntKind.i64.wrap ((Int.ofNat (List.length t)) - (1:Int)))) (dflt T_api_Ins)).1 !=(10:Int)) (.br ((decide ((0:Int)≤(IntKind.i64.wrap ((Int.ofNat (List.length t)) - (1:Int)))))&&(decide ((IntKind.i64.wrap ((Int.ofNat (List.length t)) - (1:Int))) < (Int.ofNat (List.length t))))) (.br ((List.getD t (Int.toNat (IntKind.i64.wrap ((Int.ofNat (List.length t)) - (1:Int)))) (dflt T_api_Ins)).1 !=(14:Int)) (.leaf (9:Int)) (.jmp (.l38 (0:Int) seen))) (.no)) (.jmp (.l38 (0:Int) seen))) (.no))) |.l14 h h1 i i1 i2 i3 i4 i5 i6 i7 i8 i9 i10 i11 i12 h2 seen h3=>.br (decide (h2 < h1)) (.br ((decide ((0:Int)≤h2))&&(decide (h2 < (Int.ofNat (List.length h))))) (.br (k_names_Right (List.getD h (Int.toNat h2) (dflt .str))) (.br (! (v_names_Right (List.getD h (Int.toNat h2) (dflt .str)))) (.leaf (3:Int)) (.br (Option.getD (mget (kt:=.str) (List.getD h (Int.toNat h2) (dflt .str)) seen) false) (.leaf (6:Int)) (.jmp (.l14 h h1 i i1 i2 i3 i4 i5 i6 i7 i8 i9 i10 i11 i12 (IntKind.i64.wrap (h2+(1:Int))) (mput (kt:=.str) (List.getD h (Int.toNat h2) (dflt .str)) true seen) h3)))) (.no)) (.no)) (.br (k_ins_Right (i,(i1,(i2,((i3,(i4,(i5,i6))),((i7,(i8,(i9,i10))),(i11,i12))))))) (.br ((v_ins_Right (i,(i1,(i2,((i3,(i4,(i5,i6))),((i7,(i8,(i9,i10))),(i11,i12)))))))==(0:Int)) (.br ((v_valid_place p (i3,(i4,(i5,i6))))==(0:Int)) (.br ((v_valid_place p (i7,(i8,(i9,i10)))) !=(0:Int)) (.leaf (v_valid_place p (i7,(i8,(i9,i10))))) (.jmp (.l7 (IntKind.i64.wrap (h3+(1:Int))) seen))) (.br ((v_valid_place p (i3,(i4,(i5,i6)))) !=(0:Int)) (.leaf (v_valid_place p (i3,(i4,(i5,i6))))) (.jmp (.l7 (IntKind.i64.wrap (h3+(1:Int))) seen)))) (.br ((v_ins_Right (i,(i1,(i2,((i3,(i4,(i5,i6))),((i7,(i8,(i9,i10))),(i11,i12)))))))==(0:Int)) (.br ((v_valid_place p (i7,(i8,(i9,i10)))) !=(0:Int)) (.leaf (v_valid_place p (i7,(i8,(i9,i10))))) (.jmp (.l7 (IntKind.i64.wrap (h3+(1:Int))) seen))) (.br ((v_ins_Right (i,(i1,(i2,((i3,(i4,(i5,i6))),((i7,(i8,(i9,i10))),(i11,i12))))))) !=(0:Int)) (.leaf (v_ins_Right (i,(i1,(i2,((i3,(i4,(i5,i6))),((i7,(i8,(i9,i10))),(i11,i12)))))))) (.jmp (.l7 (IntKind.i64.wrap (h3+(1:Int))) seen))))) (.no)) |.l38 h seen=>.br (decide (h < (Int.ofNat (List.length t)))) (.br ((decide ((0:Int)≤h))&&(decide (h < (Int.ofNat (List.length t))))) (.br (k_ins_Leads (List.getD t (Int.toNat h) (dflt T_api_Ins))) (.br (v_ins_Leads (List.getD t (Int.toNat h) (dflt T_api_Ins))).2 (.br (! (Option.getD (mget (kt:=.str) (List.getD t (Int.toNat h) (dflt T_api_Ins)).2.2.2.2.2.1 seen) false)) (.leaf (7:Int)) (.jmp (.l38 (IntKind.i64.wrap (h+(1:Int))) seen))) (.jmp (.l38 (IntKind.i64.wrap (h+(1:Int))) seen))) (.no)) (.no)) (.leaf (0:Int))
def T0_valid_thread (p:El T_api_Prog) (t:List (El T_api_Ins)):JT J_valid_thread (Int):=.br (k_valid_Count t) (.br (decide ((v_valid_Count t) > (4096:Int))) (.leaf (10:Int)) (.jmp (.l7 (0:Int) []))) (.no)
def R_valid_thread:Int→AV:=fun (r:Int)=>.d (.int .i64) r
def S_valid_thread (p:El T_api_Prog) (t:List (El T_api_Ins)):J_valid_thread→Nat×St |.l7 h seen=>(7,⟨mkTm 107 [(2,.pt 3 0 0),(3,.pt 4 0 0),(5,.mp 6 0),(21,.d (.sl T_api_Ins) t),(22,.d (.int .i64) (Int.ofNat (List.length t))),(23,.d (.int .i64) h)],[(3,0,.box 27 [.d (.sl T_api_Sym) p.1,.d (.sl (.sl T_api_Ins)) p.2] none),(4,0,.box 33 [.d (.sl T_api_Ins) t] none),(6,0,.map .str .bool seen)]⟩) |.l14 h h1 i i1 i2 i3 i4 i5 i6 i7 i8 i9 i10 i11 i12 h2 seen h3=>(14,⟨mkTm 107 [(2,.pt 3 0 0),(3,.pt 4 0 0),(5,.mp 6 0),(7,.pt 8 0 0),(21,.d (.sl T_api_Ins) t),(22,.d (.int .i64) (Int.ofNat (List.length t))),(23,.d (.int .i64) h3),(28,.d (.sl .str) h),(29,.d (.int .i64) h1),(30,.d (.int .i64) h2)],[(3,0,.box 27 [.d (.sl T_api_Sym) p.1,.d (.sl (.sl T_api_Ins)) p.2] none),(4,0,.box 33 [.d (.sl T_api_Ins) t] none),(6,0,.map .str .bool seen),(8,0,.box 53 [.d (.int .i64) i,.d .bool i1,.d (.int .i64) i2,.d (.int .i64) i3,.d (.int .i64) i4,.d (.int .i64) i5,.d (.int .i64) i6,.d (.int .i64) i7,.d (.int .i64) i8,.d (.int .i64) i9,.d (.int .i64) i10,.d .str i11,.d (.sl .str) i12] none)]⟩) |.l38 h seen=>(38,⟨mkTm 107 [(5,.mp 6 0),(87,.d (.sl T_api_Ins) t),(88,.d (.int .i64) (Int.ofNat (List.length t))),(89,.d (.int .i64) h)],[(6,0,.map .str .bool seen)]⟩)
theorem en_valid_thread (p:El T_api_Prog) (t:List (El T_api_Ins)) (L:Lt):entryA Go.Proofs.Tryz.prog (clOf t_valid_thread) tb_valid_thread Go.Proofs.Tryz.f77 c_valid_thread L (toForms sg_valid_thread (p,t,()))=(T0_valid_thread p t).run (fun v=>some (R_valid_thread v,tps (toForms sg_valid_thread (p,t,())))) fun j=>L (S_valid_thread p t j).1 (S_valid_thread p t j).2:=by kernel_rfl
theorem lp_valid_thread (p:El T_api_Prog) (t:List (El T_api_Ins)):∀(L:Lt) (j:J_valid_thread),procOf (procsF Go.Proofs.Tryz.prog (clOf t_valid_thread) tb_valid_thread Go.Proofs.Tryz.f77 c_valid_thread (toForms sg_valid_thread (p,t,()))) (S_valid_thread p t j).1 L (S_valid_thread p t j).2=(T_valid_thread p t j).run (fun v=>some (R_valid_thread v,tps (toForms sg_valid_thread (p,t,())))) fun j=>L (S_valid_thread p t j).1 (S_valid_thread p t j).2 | L,.l7 h seen=>by kernel_rfl | L,.l14 h h1 i i1 i2 i3 i4 i5 i6 i7 i8 i9 i10 i11 i12 h2 seen h3=>by kernel_rfl | L,.l38 h seen=>by kernel_rfl
end
end Go.Ev
end

section
open Go
namespace Go.Ev
def v_valid_thread (p:El T_api_Prog) (t:List (El T_api_Ins)):Int:=threadC p t
def k_valid_thread (p:El T_api_Prog) (t:List (El T_api_Ins)):Bool:=smallThread t
theorem g_valid_thread (p:El T_api_Prog) (t:List (El T_api_Ins)) (hk:k_valid_thread p t=true):Goes (T_valid_thread p t) (T0_valid_thread p t) (v_valid_thread p t):=by
 have hS:=smallT hk
 have hn:=hS.len
 have jmps:∀m seen,Seen m seen→(∀i∈t,v_ins_Right i=0)→∀k,k≤t.length→Goes (T_valid_thread p t) (.jmp (.l38 (k:Int) m)) (jumpC seen (t.drop k)):=by
  intro m seen hm hr
  refine down ?_ fun k hk ih=>?_
  ·rw[goes_jmp]
   simp only[T_valid_thread,goes_br,lt_len_not (Nat.lt_irrefl _),goes_leaf,List.drop_length]
   simp[jumpC]
  ·have hmem:t[k]∈t:=List.getElem_mem hk
   have hto:=hS.to _ hmem
   rw[goes_jmp]
   simp only[T_valid_thread,goes_br,lt_len hk,nng,Bool.and_self,if_true,Int.toNat_natCast,getD_lt hk,wrap_succ (k:=k) (by omega),k_leads hto,jumps_is hto (hr _ hmem),hm t[k].2.2.2.2.2.1]
   rw[drop_cons hk]
   unfold jumpC
   by_cases h1:((t[k].1==(10:Int)) || (t[k].1==(11:Int)))=true
   ·rw[if_pos h1,if_pos h1]
    by_cases h2:seen.contains t[k].2.2.2.2.2.1=true
    ·rw[if_pos h2,if_neg (by rw[h2];decide)];exact ih
    ·rw[if_neg h2,if_pos (by rw[Bool.eq_false_iff.2 h2];rfl)];exact .leaf
   ·rw[if_neg h1,if_neg h1];exact ih
 have main:∀k,k≤t.length→∀m seen,Seen m seen→(∀i∈t.take k,v_ins_Right i=0)→Goes (T_valid_thread p t) (.jmp (.l7 (k:Int) m)) (scanI p (fun seen=>endC t (jumpC seen t)) seen (t.drop k)):=by
  refine down ?_ fun k hk ih=>?_
  ·intro m seen hm hr
   rw[List.take_length] at hr
   have hj:=jmps m seen hm hr 0 (Nat.zero_le _)
   rw[List.drop_zero] at hj
   rw[goes_jmp,List.drop_length]
   unfold scanI
   simp only[T_valid_thread,goes_br,lt_len_not (Nat.lt_irrefl _)]
   rw[if_neg (by decide)]
   by_cases h0:t.length=0
   ·have:t=[]:=List.eq_nil_of_length_eq_zero h0
    rw[this];simp[goes_leaf,endC]
   ·have hp:0 < t.length:=by omega
    rw[if_neg (by simp;exact fun e=>h0 (by rw[e];rfl)),endC_eq hp]
    rw[show Int.ofNat t.length=(t.length:Int) from rfl,wrap_pred (k:=t.length) (by omega) hp]
    have hb:(decide (0≤((t.length - 1:Nat):Int))&&decide (((t.length - 1:Nat):Int) < (t.length:Int)))=true:=by simp;omega
    simp only[hb,if_true,Int.toNat_natCast,getD_lt (show t.length - 1 < t.length by omega)]
    unfold bne
    cases h10:(t[t.length - 1].1==(10:Int)) with
    | true=>simpa using hj
    | false=>
     cases h14:(t[t.length - 1].1==(14:Int)) with
     | true=>simpa using hj
     | false=>simp[goes_leaf]
  ·intro m seen hm hr
   have hmem:t[k]∈t:=List.getElem_mem hk
   have hto:=hS.to _ hmem
   have hlab:=hS.lab _ hmem
   have hlen:=Nat.lt_of_le_of_lt (labels_mem hmem) hS.labs
   have hr':v_ins_Right t[k]=0→∀i∈t.take (k+1),v_ins_Right i=0:=fun h i hi=>by
    rw[List.take_add_one,List.getElem?_eq_getElem hk] at hi
    rcases List.mem_append.1 hi with hi | hi
    ·exact hr i hi
    ·rw[Option.toList_some,List.mem_singleton] at hi;rw[hi];exact h
   rw[goes_jmp]
   simp only[T_valid_thread,goes_br,lt_len hk,nng,Bool.and_self,if_true,Int.toNat_natCast,getD_lt hk]
   rw[drop_cons hk]
   unfold scanI
   generalize t[k]=i at hto hlab hlen hr'
   obtain ⟨op,lock,cond,⟨ak,ar,ay,an⟩,⟨bk,br,bz,bn⟩,to,ls⟩:=i
   dsimp only at hto hlab hlen hr' ⊢
   have inner:∀j,j≤ls.length→∀m seen,Seen m seen→Goes (T_valid_thread p t) (.jmp (.l14 ls (Int.ofNat ls.length) op lock cond ak ar ay an bk br bz bn to ls (j:Int) m (k:Int))) (scanL seen (fun seen=>if insC p (op,(lock,(cond,((ak,(ar,(ay,an))),((bk,(br,(bz,bn))),(to,ls))))))≠0 then insC p (op,(lock,(cond,((ak,(ar,(ay,an))),((bk,(br,(bz,bn))),(to,ls)))))) else scanI p (fun seen=>endC t (jumpC seen t)) seen (t.drop (k+1))) (ls.drop j)):=by
    refine down ?_ fun j hj ihj=>?_
    ·intro m seen hm
     rw[goes_jmp,List.drop_length]
     unfold scanL
     have hkr:k_ins_Right (op,(lock,(cond,((ak,(ar,(ay,an))),((bk,(br,(bz,bn))),(to,ls))))))=true:=hto
     simp only[T_valid_thread,goes_br,lt_len_not (Nat.lt_irrefl _),hkr,if_true,v_valid_place,wrap_succ (k:=k) (by omega)]
     rw[if_neg (by decide)]
     unfold insC
     dsimp only
     by_cases hr:v_ins_Right (op,(lock,(cond,((ak,(ar,(ay,an))),((bk,(br,(bz,bn))),(to,ls))))))=0
     ·have ih':=ih m seen hm (hr' hr)
      by_cases ha:placeC p (ak,(ar,(ay,an)))=0
      ·by_cases hb:placeC p (bk,(br,(bz,bn)))=0
       ·simp[hr,ha,hb];exact ih'
       ·simp[hr,ha,hb,goes_leaf]
      ·simp[hr,ha,goes_leaf]
     ·simp[hr,goes_leaf]
    ·intro m seen hm
     have hl:=hlab ls[j] (List.getElem_mem hj)
     have hkn:k_names_Right ls[j]=true:=hl
     rw[goes_jmp]
     simp only[T_valid_thread,goes_br,lt_len hj,nng,Bool.and_self,if_true,Int.toNat_natCast,getD_lt hj,wrap_succ (k:=j) (by omega),hkn,hm ls[j]]
     rw[drop_cons hj]
     unfold scanL
     by_cases h1:nameRight ls[j]=false
     ·rw[if_pos h1,if_pos (by show (! nameRight ls[j])=true;rw[h1];rfl)];exact .leaf
     ·rw[if_neg h1,if_neg (by show ¬(! nameRight ls[j])=true;simpa using h1)]
      by_cases h2:seen.contains ls[j]=true
      ·rw[if_pos h2,if_pos h2];exact .leaf
      ·rw[if_neg h2,if_neg h2];exact ihj _ _ (hm.put _)
   have:=inner 0 (Nat.zero_le _) m seen hm
   rw[List.drop_zero] at this
   exact this
 unfold T0_valid_thread v_valid_thread
 have hkc:k_valid_Count t=true:=decide_eq_true hn
 simp only[goes_br,hkc,if_true]
 unfold threadC v_valid_Count
 by_cases h:4096 < countM t
 ·rw[if_pos (by simp;omega),if_pos h];exact .leaf
 ·rw[if_neg (by simp;omega),if_neg h]
  exact main 0 (Nat.zero_le _) [] [] Seen.nil (fun i hi=>by simp at hi)
end Go.Ev
end

section
open Go Go.Ev
namespace Go.Ev
noncomputable section
noncomputable def e_valid_thread:Run:=entG sg_valid_thread R_valid_thread (fun a=>k_valid_thread a.1 a.2.1) (fun a=>v_valid_thread a.1 a.2.1)
theorem ok_valid_thread:EntOK Go.Proofs.Tryz.prog 77 e_valid_thread:=entG_ok (tb:=tb_valid_thread) (c:=c_valid_thread) tk_valid_thread (by kernel_rfl) (by kernel_rfl) (by kernel_rfl) (fun a=>by kernel_rfl) fun ⟨p,t,_⟩ hk=>evF_goes (c:=c_valid_thread) (K:=fun v=>(R_valid_thread v,tps (toForms sg_valid_thread (p,t,())))) (S:=S_valid_thread p t) (by kernel_rfl) (en_valid_thread p t) (lp_valid_thread p t) (g_valid_thread p t hk)
end
end Go.Ev
end

section
open Go Go.Ev
namespace Go.Ev
noncomputable section
def sg_valid_Check:Sig:=[(true,T_api_Prog)]
noncomputable def t_valid_Check:Tbl:=[(76,e_names_Right),(77,e_valid_thread)]
theorem tk_valid_Check:∀p∈t_valid_Check,EntOK Go.Proofs.Tryz.prog p.1 p.2:=tbl_cons ok_names_Right (tbl_cons ok_valid_thread (tbl_nil))
noncomputable def c_valid_Check:Code:=Go.Proofs.Tryz.f43.body.getD .skip
def tb_valid_Check:Tb:=[(7,⟨[1,3,21,22,23],[]⟩),(21,⟨[1,59,60,61],[]⟩)]
inductive J_valid_Check where | l7 (h:Int) (seen:List (ByteArray×Bool)) | l21 (h:Int)
def T_valid_Check (p:El T_api_Prog):J_valid_Check→JT J_valid_Check (Int) |.l7 h seen=>.br (decide (h < (Int.ofNat (List.length p.1)))) (.br ((decide ((0:Int)≤h))&&(decide (h < (Int.ofNat (List.length p.1))))) (.br (k_names_Right (List.getD p.1 (Int.toNat h) (dflt T_api_Sym)).1) (.br (! (v_names_Right (List.getD p.1 (Int.toNat h) (dflt T_api_Sym)).1)) (.leaf (3:Int)) (.br (Option.getD (mget (kt:=.str) (List.getD p.1 (Int.toNat h) (dflt T_api_Sym)).1 seen) false) (.leaf (6:Int)) (.br (decide ((List.getD p.1 (Int.toNat h) (dflt T_api_Sym)).2.1 < (1:Int))) (.leaf (5:Int)) (.br (decide ((List.getD p.1 (Int.toNat h) (dflt T_api_Sym)).2.1 > (64:Int))) (.leaf (5:Int)) (.br (decide ((Int.ofNat (List.length (List.getD p.1 (Int.toNat h) (dflt T_api_Sym)).2.2)) > (List.getD p.1 (Int.toNat h) (dflt T_api_Sym)).2.1)) (.leaf (5:Int)) (.jmp (.l7 (IntKind.i64.wrap (h+(1:Int))) (mput (kt:=.str) (List.getD p.1 (Int.toNat h) (dflt T_api_Sym)).1 true seen)))))))) (.no)) (.no)) (.jmp (.l21 (0:Int))) |.l21 h=>.br (decide (h < (Int.ofNat (List.length p.2)))) (.br ((decide ((0:Int)≤h))&&(decide (h < (Int.ofNat (List.length p.2))))) (.br (k_valid_thread p (List.getD p.2 (Int.toNat h) (dflt (.sl T_api_Ins)))) (.br ((v_valid_thread p (List.getD p.2 (Int.toNat h) (dflt (.sl T_api_Ins)))) !=(0:Int)) (.leaf (v_valid_thread p (List.getD p.2 (Int.toNat h) (dflt (.sl T_api_Ins))))) (.jmp (.l21 (IntKind.i64.wrap (h+(1:Int)))))) (.no)) (.no)) (.leaf (0:Int))
def T0_valid_Check (p:El T_api_Prog):JT J_valid_Check (Int):=.br (decide ((Int.ofNat (List.length p.1)) > (64:Int))) (.leaf (10:Int)) (.br (decide ((Int.ofNat (List.length p.2)) > (64:Int))) (.leaf (10:Int)) (.jmp (.l7 (0:Int) [])))
def R_valid_Check:Int→AV:=fun (r:Int)=>.d (.int .i64) r
def S_valid_Check (p:El T_api_Prog):J_valid_Check→Nat×St |.l7 h seen=>(7,⟨mkTm 72 [(1,.pt 2 0 0),(3,.mp 4 0),(21,.d (.sl T_api_Sym) p.1),(22,.d (.int .i64) (Int.ofNat (List.length p.1))),(23,.d (.int .i64) h)],[(2,0,.box 27 [.d (.sl T_api_Sym) p.1,.d (.sl (.sl T_api_Ins)) p.2] none),(4,0,.map .str .bool seen)]⟩) |.l21 h=>(21,⟨mkTm 72 [(1,.pt 2 0 0),(59,.d (.sl (.sl T_api_Ins)) p.2),(60,.d (.int .i64) (Int.ofNat (List.length p.2))),(61,.d (.int .i64) h)],[(2,0,.box 27 [.d (.sl T_api_Sym) p.1,.d (.sl (.sl T_api_Ins)) p.2] none)]⟩)
theorem en_valid_Check (p:El T_api_Prog) (L:Lt):entryA Go.Proofs.Tryz.prog (clOf t_valid_Check) tb_valid_Check Go.Proofs.Tryz.f43 c_valid_Check L (toForms sg_valid_Check (p,()))=(T0_valid_Check p).run (fun v=>some (R_valid_Check v,tps (toForms sg_valid_Check (p,())))) fun j=>L (S_valid_Check p j).1 (S_valid_Check p j).2:=by kernel_rfl
theorem lp_valid_Check (p:El T_api_Prog):∀(L:Lt) (j:J_valid_Check),procOf (procsF Go.Proofs.Tryz.prog (clOf t_valid_Check) tb_valid_Check Go.Proofs.Tryz.f43 c_valid_Check (toForms sg_valid_Check (p,()))) (S_valid_Check p j).1 L (S_valid_Check p j).2=(T_valid_Check p j).run (fun v=>some (R_valid_Check v,tps (toForms sg_valid_Check (p,())))) fun j=>L (S_valid_Check p j).1 (S_valid_Check p j).2 | L,.l7 h seen=>by kernel_rfl | L,.l21 h=>by kernel_rfl
end
end Go.Ev
end

section
open Go
namespace Go.Ev
def v_valid_Check (p:El T_api_Prog):Int:=checkC p
def k_valid_Check (p:El T_api_Prog):Bool:=smallProg p
theorem g_valid_Check (p:El T_api_Prog) (hk:k_valid_Check p=true):Goes (T_valid_Check p) (T0_valid_Check p) (v_valid_Check p):=by
 have hth:∀t∈p.2,smallThread t=true:=by
  unfold k_valid_Check smallProg at hk
  simp only[Bool.and_eq_true,List.all_eq_true] at hk
  exact hk.2
 have hsy:∀s∈p.1,smallText s.1=true:=by
  unfold k_valid_Check smallProg at hk
  simp only[Bool.and_eq_true,List.all_eq_true] at hk
  exact hk.1
 obtain ⟨sy,th⟩:=p
 dsimp only at hth hsy
 have ths:th.length≤64→∀k,k≤th.length→Goes (T_valid_Check (sy,th)) (.jmp (.l21 (k:Int))) (thsC (sy,th) (th.drop k)):=by
  intro hn
  refine down ?_ fun k hk ih=>?_
  ·rw[goes_jmp]
   simp only[T_valid_Check,goes_br,lt_len_not (Nat.lt_irrefl _),goes_leaf,List.drop_length]
   simp[thsC]
  ·have hkt:k_valid_thread (sy,th) th[k]=true:=hth _ (List.getElem_mem hk)
   rw[goes_jmp]
   simp only[T_valid_Check,goes_br,lt_len hk,nng,Bool.and_self,if_true,Int.toNat_natCast,getD_lt hk,wrap_succ (k:=k) (by omega),hkt]
   rw[drop_cons hk]
   unfold thsC
   show (if (threadC (sy,th) th[k] !=0)=true then _ else _)
   by_cases h:threadC (sy,th) th[k]=0
   ·rw[if_neg (by simp[h]),if_neg (by simp[h])];exact ih
   ·rw[if_pos (by simp[h]),if_pos h];exact .leaf
 have main:sy.length≤64→th.length≤64→∀k,k≤sy.length→∀m seen,Seen m seen→Goes (T_valid_Check (sy,th)) (.jmp (.l7 (k:Int) m)) (symsC (thsC (sy,th) th) seen (sy.drop k)):=by
  intro hn hm
  refine down ?_ fun k hk ih=>?_
  ·intro m seen hs
   rw[goes_jmp,List.drop_length]
   unfold symsC
   simp only[T_valid_Check,goes_br,lt_len_not (Nat.lt_irrefl _)]
   rw[if_neg (by decide)]
   simpa using ths hm 0 (Nat.zero_le _)
  ·intro m seen hs
   have hkn:k_names_Right sy[k].1=true:=hsy _ (List.getElem_mem hk)
   rw[goes_jmp]
   simp only[T_valid_Check,goes_br,lt_len hk,nng,Bool.and_self,if_true,Int.toNat_natCast,getD_lt hk,wrap_succ (k:=k) (by omega),hkn,hs sy[k].1]
   rw[drop_cons hk]
   unfold symsC
   generalize sy[k]=s at*
   obtain ⟨nm,size,init⟩:=s
   dsimp only
   change Int at size
   by_cases h1:nameRight nm=false
   ·rw[if_pos h1,if_pos (by show (! nameRight nm)=true;rw[h1];rfl)];exact .leaf
   rw[if_neg h1,if_neg (by show ¬(! nameRight nm)=true;simpa using h1)]
   by_cases h2:seen.contains nm=true
   ·rw[if_pos h2,if_pos h2];exact .leaf
   rw[if_neg h2,if_neg h2]
   by_cases h3:size < 1
   ·rw[if_pos (decide_eq_true h3),if_pos (.inl h3)];exact .leaf
   rw[if_neg (by simpa using h3)]
   by_cases h4:64 < size
   ·rw[if_pos (decide_eq_true h4),if_pos (.inr (.inl h4))];exact .leaf
   rw[if_neg (by simpa using h4)]
   by_cases h5:size < (List.length init:Int)
   ·rw[if_pos (show decide (Int.ofNat (List.length init) > size)=true from decide_eq_true h5),if_pos (.inr (.inr h5))];exact .leaf
   rw[if_neg (show ¬decide (Int.ofNat (List.length init) > size)=true by simpa using h5),if_neg (by rintro (h | h | h) <;> contradiction)]
   exact ih _ _ (hs.put nm)
 unfold T0_valid_Check v_valid_Check checkC
 simp only[goes_br]
 by_cases h:64 < sy.length
 ·rw[if_pos (by simp;omega),if_pos (.inl h)];exact .leaf
 rw[if_neg (by simp;omega)]
 by_cases h2:64 < th.length
 ·rw[if_pos (by simp;omega),if_pos (.inr h2)];exact .leaf
 rw[if_neg (by simp;omega),if_neg (by rintro (h | h) <;> contradiction)]
 exact main (by omega) (by omega) 0 (Nat.zero_le _) [] [] Seen.nil
end Go.Ev
end

section
open Go Go.Ev
namespace Go.Ev
noncomputable section
noncomputable def e_valid_Check:Run:=entG sg_valid_Check R_valid_Check (fun a=>k_valid_Check a.1) (fun a=>v_valid_Check a.1)
theorem ok_valid_Check:EntOK Go.Proofs.Tryz.prog 43 e_valid_Check:=entG_ok (tb:=tb_valid_Check) (c:=c_valid_Check) tk_valid_Check (by kernel_rfl) (by kernel_rfl) (by kernel_rfl) (fun a=>by kernel_rfl) fun ⟨p,_⟩ hk=>evF_goes (c:=c_valid_Check) (K:=fun v=>(R_valid_Check v,tps (toForms sg_valid_Check (p,())))) (S:=S_valid_Check p) (by kernel_rfl) (en_valid_Check p) (lp_valid_Check p) (g_valid_Check p hk)
end
end Go.Ev
end

section
open Go Go.Ev
namespace Go.Ev
noncomputable section
def sg_cut_right:Sig:=[(true,T_api_Prog),(false,(.int .i64))]
noncomputable def t_cut_right:Tbl:=[(43,e_valid_Check)]
theorem tk_cut_right:∀p∈t_cut_right,EntOK Go.Proofs.Tryz.prog p.1 p.2:=tbl_cons ok_valid_Check (tbl_nil)
noncomputable def c_cut_right:Code:=Go.Proofs.Tryz.f23.body.getD .skip
def tb_cut_right:Tb:=[]
def T_cut_right (p:El T_api_Prog) (t:Int):Empty→JT Empty (Bool):=fun j=>nomatch j
def T0_cut_right (p:El T_api_Prog) (t:Int):JT Empty (Bool):=.br (decide (t≥(0:Int))) (.br (decide (t < (Int.ofNat (List.length p.2)))) (.br (k_valid_Check p) (.leaf ((v_valid_Check p)==(0:Int))) (.no)) (.leaf false)) (.leaf false)
def v_cut_right (p:El T_api_Prog) (t:Int):Bool:=bif (decide (t≥(0:Int))) then bif (decide (t < (Int.ofNat (List.length p.2)))) then bif (k_valid_Check p) then ((v_valid_Check p)==(0:Int)) else false else false else false
def k_cut_right (p:El T_api_Prog) (t:Int):Bool:=bif (decide (t≥(0:Int))) then bif (decide (t < (Int.ofNat (List.length p.2)))) then bif (k_valid_Check p) then true else false else true else true
theorem g_cut_right (p:El T_api_Prog) (t:Int) (hk:k_cut_right p t=true):Goes (T_cut_right p t) (T0_cut_right p t) (v_cut_right p t):=Goes.brk hk (fun hk=>Goes.brk hk (fun hk=>Goes.brk hk (fun hk=>Goes.leaf) (fun hk=>Goes.nok hk)) (fun hk=>Goes.leaf)) (fun hk=>Goes.leaf)
def R_cut_right:Bool→AV:=fun (r:Bool)=>.d .bool r
def S_cut_right (p:El T_api_Prog) (t:Int):Empty→Nat×St:=fun j=>nomatch j
theorem en_cut_right (p:El T_api_Prog) (t:Int) (L:Lt):entryA Go.Proofs.Tryz.prog (clOf t_cut_right) tb_cut_right Go.Proofs.Tryz.f23 c_cut_right L (toForms sg_cut_right (p,t,()))=(T0_cut_right p t).run (fun v=>some (R_cut_right v,tps (toForms sg_cut_right (p,t,())))) fun j=>L (S_cut_right p t j).1 (S_cut_right p t j).2:=by kernel_rfl
theorem lp_cut_right (p:El T_api_Prog) (t:Int):∀(L:Lt) (j:Empty),procOf (procsF Go.Proofs.Tryz.prog (clOf t_cut_right) tb_cut_right Go.Proofs.Tryz.f23 c_cut_right (toForms sg_cut_right (p,t,()))) (S_cut_right p t j).1 L (S_cut_right p t j).2=(T_cut_right p t j).run (fun v=>some (R_cut_right v,tps (toForms sg_cut_right (p,t,())))) fun j=>L (S_cut_right p t j).1 (S_cut_right p t j).2:=fun L j=>nomatch j
noncomputable def e_cut_right:Run:=entG sg_cut_right R_cut_right (fun a=>k_cut_right a.1 a.2.1) (fun a=>v_cut_right a.1 a.2.1)
theorem ok_cut_right:EntOK Go.Proofs.Tryz.prog 23 e_cut_right:=entG_ok (tb:=tb_cut_right) (c:=c_cut_right) tk_cut_right (by kernel_rfl) (by kernel_rfl) (by kernel_rfl) (fun a=>by kernel_rfl) fun ⟨p,t,_⟩ hk=>evF_goes (c:=c_cut_right) (K:=fun v=>(R_cut_right v,tps (toForms sg_cut_right (p,t,())))) (S:=S_cut_right p t) (by kernel_rfl) (en_cut_right p t) (lp_cut_right p t) (g_cut_right p t hk)
end
end Go.Ev
end

section
open Go Go.Ev
namespace Go.Ev
noncomputable section
def sg_ins_Locked:Sig:=[(true,T_api_Ins)]
noncomputable def t_ins_Locked:Tbl:=[(110,e_ins_Right)]
theorem tk_ins_Locked:∀p∈t_ins_Locked,EntOK Go.Proofs.Tryz.prog p.1 p.2:=tbl_cons ok_ins_Right (tbl_nil)
noncomputable def c_ins_Locked:Code:=Go.Proofs.Tryz.f83.body.getD .skip
def tb_ins_Locked:Tb:=[]
def T_ins_Locked (i:El T_api_Ins):Empty→JT Empty (Bool):=fun j=>nomatch j
def T0_ins_Locked (i:El T_api_Ins):JT Empty (Bool):=.br (k_ins_Right i) (.br ((v_ins_Right i)==(0:Int)) (.br (i.1==(8:Int)) (.leaf true) (.leaf i.2.1)) (.leaf false)) (.no)
def v_ins_Locked (i:El T_api_Ins):Bool:=bif (k_ins_Right i) then bif ((v_ins_Right i)==(0:Int)) then bif (i.1==(8:Int)) then true else i.2.1 else false else false
def k_ins_Locked (i:El T_api_Ins):Bool:=bif (k_ins_Right i) then bif ((v_ins_Right i)==(0:Int)) then bif (i.1==(8:Int)) then true else true else true else false
theorem g_ins_Locked (i:El T_api_Ins) (hk:k_ins_Locked i=true):Goes (T_ins_Locked i) (T0_ins_Locked i) (v_ins_Locked i):=Goes.brk hk (fun hk=>Goes.brk hk (fun hk=>Goes.brk hk (fun hk=>Goes.leaf) (fun hk=>Goes.leaf)) (fun hk=>Goes.leaf)) (fun hk=>Goes.nok hk)
def R_ins_Locked:Bool→AV:=fun (r:Bool)=>.d .bool r
def S_ins_Locked (i:El T_api_Ins):Empty→Nat×St:=fun j=>nomatch j
theorem en_ins_Locked (i:El T_api_Ins) (L:Lt):entryA Go.Proofs.Tryz.prog (clOf t_ins_Locked) tb_ins_Locked Go.Proofs.Tryz.f83 c_ins_Locked L (toForms sg_ins_Locked (i,()))=(T0_ins_Locked i).run (fun v=>some (R_ins_Locked v,tps (toForms sg_ins_Locked (i,())))) fun j=>L (S_ins_Locked i j).1 (S_ins_Locked i j).2:=by kernel_rfl
theorem lp_ins_Locked (i:El T_api_Ins):∀(L:Lt) (j:Empty),procOf (procsF Go.Proofs.Tryz.prog (clOf t_ins_Locked) tb_ins_Locked Go.Proofs.Tryz.f83 c_ins_Locked (toForms sg_ins_Locked (i,()))) (S_ins_Locked i j).1 L (S_ins_Locked i j).2=(T_ins_Locked i j).run (fun v=>some (R_ins_Locked v,tps (toForms sg_ins_Locked (i,())))) fun j=>L (S_ins_Locked i j).1 (S_ins_Locked i j).2:=fun L j=>nomatch j
noncomputable def e_ins_Locked:Run:=entG sg_ins_Locked R_ins_Locked (fun a=>k_ins_Locked a.1) (fun a=>v_ins_Locked a.1)
theorem ok_ins_Locked:EntOK Go.Proofs.Tryz.prog 83 e_ins_Locked:=entG_ok (tb:=tb_ins_Locked) (c:=c_ins_Locked) tk_ins_Locked (by kernel_rfl) (by kernel_rfl) (by kernel_rfl) (fun a=>by kernel_rfl) fun ⟨i,_⟩ hk=>evF_goes (c:=c_ins_Locked) (K:=fun v=>(R_ins_Locked v,tps (toForms sg_ins_Locked (i,())))) (S:=S_ins_Locked i) (by kernel_rfl) (en_ins_Locked i) (lp_ins_Locked i) (g_ins_Locked i hk)
end
end Go.Ev
end

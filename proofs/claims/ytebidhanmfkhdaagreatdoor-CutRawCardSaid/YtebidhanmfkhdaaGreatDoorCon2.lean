/- Part of the proof of: Of a program that may not be, or a thread that there is not, nothing is chosen: for every input the law answers true. -/
import Derived.Test.YtebidhanmfkhdaaGreatDoorCon1
set_option maxRecDepth 100000
set_option linter.unusedSectionVars false
set_option linter.unusedVariables false
set_option linter.unusedSimpArgs false
section
open Go Go.Ev
namespace Go.Ev
noncomputable section
def sg_slices_Index___int_int_:Sig:=[(false,(.sl (.int .i64))),(false,(.int .i64))]
noncomputable def t_slices_Index___int_int_:Tbl:=[]
theorem tk_slices_Index___int_int_:∀p∈t_slices_Index___int_int_,EntOK Go.Proofs.Tryz.prog p.1 p.2:=tbl_nil
noncomputable def c_slices_Index___int_int_:Code:=Go.Proofs.Tryz.f121.body.getD .skip
def tb_slices_Index___int_int_:Tb:=[(3,⟨[0,1,7,8],[]⟩)]
inductive J_slices_Index___int_int_ where | l3 (h:Int)
def T_slices_Index___int_int_ (s:List Int) (v_:Int):J_slices_Index___int_int_→JT J_slices_Index___int_int_ (Int) |.l3 h=>.br (decide (h < (Int.ofNat (List.length s)))) (.br ((decide ((0:Int)≤h))&&(decide (h < (Int.ofNat (List.length s))))) (.br (v_==(List.getD s (Int.toNat h) (dflt (.int .i64)))) (.leaf h) (.jmp (.l3 (IntKind.i64.wrap (h+(1:Int)))))) (.no)) (.leaf (-1:Int))
def T0_slices_Index___int_int_ (s:List Int) (v_:Int):JT J_slices_Index___int_int_ (Int):=.jmp (.l3 (0:Int))
def R_slices_Index___int_int_:Int→AV:=fun (r:Int)=>.d (.int .i64) r
def S_slices_Index___int_int_ (s:List Int) (v_:Int):J_slices_Index___int_int_→Nat×St |.l3 h=>(3,⟨mkTm 19 [(0,.d (.sl (.int .i64)) s),(1,.d (.int .i64) v_),(7,.d (.int .i64) (Int.ofNat (List.length s))),(8,.d (.int .i64) h)],[]⟩)
theorem en_slices_Index___int_int_ (s:List Int) (v_:Int) (L:Lt):entryA Go.Proofs.Tryz.prog (clOf t_slices_Index___int_int_) tb_slices_Index___int_int_ Go.Proofs.Tryz.f121 c_slices_Index___int_int_ L (toForms sg_slices_Index___int_int_ (s,v_,()))=(T0_slices_Index___int_int_ s v_).run (fun v=>some (R_slices_Index___int_int_ v,tps (toForms sg_slices_Index___int_int_ (s,v_,())))) fun j=>L (S_slices_Index___int_int_ s v_ j).1 (S_slices_Index___int_int_ s v_ j).2:=by kernel_rfl
theorem lp_slices_Index___int_int_ (s:List Int) (v_:Int):∀(L:Lt) (j:J_slices_Index___int_int_),procOf (procsF Go.Proofs.Tryz.prog (clOf t_slices_Index___int_int_) tb_slices_Index___int_int_ Go.Proofs.Tryz.f121 c_slices_Index___int_int_ (toForms sg_slices_Index___int_int_ (s,v_,()))) (S_slices_Index___int_int_ s v_ j).1 L (S_slices_Index___int_int_ s v_ j).2=(T_slices_Index___int_int_ s v_ j).run (fun v=>some (R_slices_Index___int_int_ v,tps (toForms sg_slices_Index___int_int_ (s,v_,())))) fun j=>L (S_slices_Index___int_int_ s v_ j).1 (S_slices_Index___int_int_ s v_ j).2 | L,.l3 h=>by kernel_rfl
end
end Go.Ev
end

section
open Go
namespace Go.Ev
def indexI (v:Int):List Int→Nat→Int
 | [],_=> -1
 | x :: r,k=>if v=x then (k:Int) else indexI v r (k+1)
theorem indexI_ge {v:Int} :∀ {l:List Int} {k:Nat},decide (indexI v l k≥0)=l.contains v
 | [],k=>rfl
 | x :: r,k=>by
  unfold indexI
  rw[List.contains_cons]
  by_cases h:v=x
  ·subst h;rw[if_pos rfl];simp
  ·rw[if_neg h,indexI_ge]
   have:(v==x)=false:=by simpa using h
   rw[this,Bool.false_or]
def v_slices_Index___int_int_ (s:List Int) (v:Int):Int:=indexI v s 0
def k_slices_Index___int_int_ (s:List Int) (v:Int):Bool:=decide (s.length < 4611686018427387904)
theorem g_slices_Index___int_int_ (s:List Int) (v:Int) (hk:k_slices_Index___int_int_ s v=true):Goes (T_slices_Index___int_int_ s v) (T0_slices_Index___int_int_ s v) (v_slices_Index___int_int_ s v):=by
 have hn:s.length < 4611686018427387904:=of_decide_eq_true hk
 have loop:∀k,k≤s.length→Goes (T_slices_Index___int_int_ s v) (.jmp (.l3 (k:Int))) (indexI v (s.drop k) k):=by
  refine down ?_ fun k hk ih=>?_
  ·rw[goes_jmp,T_slices_Index___int_int_,goes_br,if_neg (by rw[lt_len_not (Nat.lt_irrefl _)];decide),List.drop_length]
   exact .leaf
  ·have hd:s.getD k (dflt (.int .i64))=s[k]:=getD_lt hk
   rw[goes_jmp,T_slices_Index___int_int_,goes_br,if_pos (lt_len hk),goes_br,if_pos (bound_len hk),goes_br,Int.toNat_natCast,hd,drop_cons hk,indexI,wrap_succ (by omega)]
   by_cases h:v=s[k]
   ·rw[if_pos h,if_pos (by simpa using h)];exact .leaf
   ·rw[if_neg h,if_neg (by simpa using h)];exact ih
 exact loop 0 (Nat.zero_le _)
end Go.Ev
end

section
open Go Go.Ev
namespace Go.Ev
noncomputable section
noncomputable def e_slices_Index___int_int_:Run:=entG sg_slices_Index___int_int_ R_slices_Index___int_int_ (fun a=>k_slices_Index___int_int_ a.1 a.2.1) (fun a=>v_slices_Index___int_int_ a.1 a.2.1)
theorem ok_slices_Index___int_int_:EntOK Go.Proofs.Tryz.prog 121 e_slices_Index___int_int_:=entG_ok (tb:=tb_slices_Index___int_int_) (c:=c_slices_Index___int_int_) tk_slices_Index___int_int_ (by kernel_rfl) (by kernel_rfl) (by kernel_rfl) (fun a=>by kernel_rfl) fun ⟨s,v_,_⟩ hk=>evF_goes (c:=c_slices_Index___int_int_) (K:=fun v=>(R_slices_Index___int_int_ v,tps (toForms sg_slices_Index___int_int_ (s,v_,())))) (S:=S_slices_Index___int_int_ s v_) (by kernel_rfl) (en_slices_Index___int_int_ s v_) (lp_slices_Index___int_int_ s v_) (g_slices_Index___int_int_ s v_ hk)
end
end Go.Ev
end

section
open Go Go.Ev
namespace Go.Ev
noncomputable section
def sg_slices_Contains___int_int_:Sig:=[(false,(.sl (.int .i64))),(false,(.int .i64))]
noncomputable def t_slices_Contains___int_int_:Tbl:=[(121,e_slices_Index___int_int_)]
theorem tk_slices_Contains___int_int_:∀p∈t_slices_Contains___int_int_,EntOK Go.Proofs.Tryz.prog p.1 p.2:=tbl_cons ok_slices_Index___int_int_ (tbl_nil)
noncomputable def c_slices_Contains___int_int_:Code:=Go.Proofs.Tryz.f102.body.getD .skip
def tb_slices_Contains___int_int_:Tb:=[]
def T_slices_Contains___int_int_ (s:List Int) (v_:Int):Empty→JT Empty (Bool):=fun j=>nomatch j
def T0_slices_Contains___int_int_ (s:List Int) (v_:Int):JT Empty (Bool):=.br (k_slices_Index___int_int_ s v_) (.leaf (decide ((v_slices_Index___int_int_ s v_)≥(0:Int)))) (.no)
def v_slices_Contains___int_int_ (s:List Int) (v_:Int):Bool:=bif (k_slices_Index___int_int_ s v_) then (decide ((v_slices_Index___int_int_ s v_)≥(0:Int))) else false
def k_slices_Contains___int_int_ (s:List Int) (v_:Int):Bool:=bif (k_slices_Index___int_int_ s v_) then true else false
theorem g_slices_Contains___int_int_ (s:List Int) (v_:Int) (hk:k_slices_Contains___int_int_ s v_=true):Goes (T_slices_Contains___int_int_ s v_) (T0_slices_Contains___int_int_ s v_) (v_slices_Contains___int_int_ s v_):=Goes.brk hk (fun hk=>Goes.leaf) (fun hk=>Goes.nok hk)
def R_slices_Contains___int_int_:Bool→AV:=fun (r:Bool)=>.d .bool r
def S_slices_Contains___int_int_ (s:List Int) (v_:Int):Empty→Nat×St:=fun j=>nomatch j
theorem en_slices_Contains___int_int_ (s:List Int) (v_:Int) (L:Lt):entryA Go.Proofs.Tryz.prog (clOf t_slices_Contains___int_int_) tb_slices_Contains___int_int_ Go.Proofs.Tryz.f102 c_slices_Contains___int_int_ L (toForms sg_slices_Contains___int_int_ (s,v_,()))=(T0_slices_Contains___int_int_ s v_).run (fun v=>some (R_slices_Contains___int_int_ v,tps (toForms sg_slices_Contains___int_int_ (s,v_,())))) fun j=>L (S_slices_Contains___int_int_ s v_ j).1 (S_slices_Contains___int_int_ s v_ j).2:=by kernel_rfl
theorem lp_slices_Contains___int_int_ (s:List Int) (v_:Int):∀(L:Lt) (j:Empty),procOf (procsF Go.Proofs.Tryz.prog (clOf t_slices_Contains___int_int_) tb_slices_Contains___int_int_ Go.Proofs.Tryz.f102 c_slices_Contains___int_int_ (toForms sg_slices_Contains___int_int_ (s,v_,()))) (S_slices_Contains___int_int_ s v_ j).1 L (S_slices_Contains___int_int_ s v_ j).2=(T_slices_Contains___int_int_ s v_ j).run (fun v=>some (R_slices_Contains___int_int_ v,tps (toForms sg_slices_Contains___int_int_ (s,v_,())))) fun j=>L (S_slices_Contains___int_int_ s v_ j).1 (S_slices_Contains___int_int_ s v_ j).2:=fun L j=>nomatch j
noncomputable def e_slices_Contains___int_int_:Run:=entG sg_slices_Contains___int_int_ R_slices_Contains___int_int_ (fun a=>k_slices_Contains___int_int_ a.1 a.2.1) (fun a=>v_slices_Contains___int_int_ a.1 a.2.1)
theorem ok_slices_Contains___int_int_:EntOK Go.Proofs.Tryz.prog 102 e_slices_Contains___int_int_:=entG_ok (tb:=tb_slices_Contains___int_int_) (c:=c_slices_Contains___int_int_) tk_slices_Contains___int_int_ (by kernel_rfl) (by kernel_rfl) (by kernel_rfl) (fun a=>by kernel_rfl) fun ⟨s,v_,_⟩ hk=>evF_goes (c:=c_slices_Contains___int_int_) (K:=fun v=>(R_slices_Contains___int_int_ v,tps (toForms sg_slices_Contains___int_int_ (s,v_,())))) (S:=S_slices_Contains___int_int_ s v_) (by kernel_rfl) (en_slices_Contains___int_int_ s v_) (lp_slices_Contains___int_int_ s v_) (g_slices_Contains___int_int_ s v_ hk)
end
end Go.Ev
end

section
open Go Go.Ev
namespace Go.Ev
noncomputable section
def sg_road_Free:Sig:=[(true,(.sl T_api_Ins)),(false,(.sl (.int .i64))),(false,(.int .i64)),(false,(.int .i64))]
noncomputable def t_road_Free:Tbl:=[(47,e_road_Ends),(102,e_slices_Contains___int_int_)]
theorem tk_road_Free:∀p∈t_road_Free,EntOK Go.Proofs.Tryz.prog p.1 p.2:=tbl_cons ok_road_Ends (tbl_cons ok_slices_Contains___int_int_ (tbl_nil))
noncomputable def c_road_Free:Code:=Go.Proofs.Tryz.f73.body.getD .skip
def tb_road_Free:Tb:=[]
def T_road_Free (t:List (El T_api_Ins)) (points:List Int) (s:Int) (l:Int):Empty→JT Empty (Bool):=fun j=>nomatch j
def T0_road_Free (t:List (El T_api_Ins)) (points:List Int) (s:Int) (l:Int):JT Empty (Bool):=.br (k_road_Ends t points s) (.br (k_slices_Contains___int_int_ (v_road_Ends t points s) l) (.leaf (v_slices_Contains___int_int_ (v_road_Ends t points s) l)) (.no)) (.no)
def v_road_Free (t:List (El T_api_Ins)) (points:List Int) (s:Int) (l:Int):Bool:=bif (k_road_Ends t points s) then bif (k_slices_Contains___int_int_ (v_road_Ends t points s) l) then (v_slices_Contains___int_int_ (v_road_Ends t points s) l) else false else false
def k_road_Free (t:List (El T_api_Ins)) (points:List Int) (s:Int) (l:Int):Bool:=bif (k_road_Ends t points s) then bif (k_slices_Contains___int_int_ (v_road_Ends t points s) l) then true else false else false
theorem g_road_Free (t:List (El T_api_Ins)) (points:List Int) (s:Int) (l:Int) (hk:k_road_Free t points s l=true):Goes (T_road_Free t points s l) (T0_road_Free t points s l) (v_road_Free t points s l):=Goes.brk hk (fun hk=>Goes.brk hk (fun hk=>Goes.leaf) (fun hk=>Goes.nok hk)) (fun hk=>Goes.nok hk)
def R_road_Free:Bool→AV:=fun (r:Bool)=>.d .bool r
def S_road_Free (t:List (El T_api_Ins)) (points:List Int) (s:Int) (l:Int):Empty→Nat×St:=fun j=>nomatch j
theorem en_road_Free (t:List (El T_api_Ins)) (points:List Int) (s:Int) (l:Int) (L:Lt):entryA Go.Proofs.Tryz.prog (clOf t_road_Free) tb_road_Free Go.Proofs.Tryz.f73 c_road_Free L (toForms sg_road_Free (t,points,s,l,()))=(T0_road_Free t points s l).run (fun v=>some (R_road_Free v,tps (toForms sg_road_Free (t,points,s,l,())))) fun j=>L (S_road_Free t points s l j).1 (S_road_Free t points s l j).2:=by kernel_rfl
theorem lp_road_Free (t:List (El T_api_Ins)) (points:List Int) (s:Int) (l:Int):∀(L:Lt) (j:Empty),procOf (procsF Go.Proofs.Tryz.prog (clOf t_road_Free) tb_road_Free Go.Proofs.Tryz.f73 c_road_Free (toForms sg_road_Free (t,points,s,l,()))) (S_road_Free t points s l j).1 L (S_road_Free t points s l j).2=(T_road_Free t points s l j).run (fun v=>some (R_road_Free v,tps (toForms sg_road_Free (t,points,s,l,())))) fun j=>L (S_road_Free t points s l j).1 (S_road_Free t points s l j).2:=fun L j=>nomatch j
noncomputable def e_road_Free:Run:=entG sg_road_Free R_road_Free (fun a=>k_road_Free a.1 a.2.1 a.2.2.1 a.2.2.2.1) (fun a=>v_road_Free a.1 a.2.1 a.2.2.1 a.2.2.2.1)
theorem ok_road_Free:EntOK Go.Proofs.Tryz.prog 73 e_road_Free:=entG_ok (tb:=tb_road_Free) (c:=c_road_Free) tk_road_Free (by kernel_rfl) (by kernel_rfl) (by kernel_rfl) (fun a=>by kernel_rfl) fun ⟨t,points,s,l,_⟩ hk=>evF_goes (c:=c_road_Free) (K:=fun v=>(R_road_Free v,tps (toForms sg_road_Free (t,points,s,l,())))) (S:=S_road_Free t points s l) (by kernel_rfl) (en_road_Free t points s l) (lp_road_Free t points s l) (g_road_Free t points s l hk)
end
end Go.Ev
end

section
open Go Go.Ev
namespace Go.Ev
noncomputable section
def sg_delay_Open:Sig:=[(true,T_api_Prog)]
noncomputable def t_delay_Open:Tbl:=[(26,e_delay_Pairs),(73,e_road_Free)]
theorem tk_delay_Open:∀p∈t_delay_Open,EntOK Go.Proofs.Tryz.prog p.1 p.2:=tbl_cons ok_delay_Pairs (tbl_cons ok_road_Free (tbl_nil))
noncomputable def c_delay_Open:Code:=Go.Proofs.Tryz.f39.body.getD .skip
def tb_delay_Open:Tb:=[(4,⟨[1,3,7,8,9],[(4,118)]⟩)]
inductive J_delay_Open where | l4 (h:Int) (out:List (El T_api_Pair))
def T_delay_Open (p:El T_api_Prog):J_delay_Open→JT J_delay_Open (List (El T_api_Pair)) |.l4 h out=>.br (decide (h < (Int.ofNat (List.length (v_delay_Pairs p))))) (.br ((decide ((0:Int)≤h))&&(decide (h < (Int.ofNat (List.length (v_delay_Pairs p)))))) (.br ((decide ((0:Int)≤(List.getD (v_delay_Pairs p) (Int.toNat h) (dflt T_api_Pair)).1))&&(decide ((List.getD (v_delay_Pairs p) (Int.toNat h) (dflt T_api_Pair)).1 < (Int.ofNat (List.length p.2))))) (.br (k_road_Free (List.getD p.2 (Int.toNat (List.getD (v_delay_Pairs p) (Int.toNat h) (dflt T_api_Pair)).1) (dflt (.sl T_api_Ins))) [] (List.getD (v_delay_Pairs p) (Int.toNat h) (dflt T_api_Pair)).2.1 (List.getD (v_delay_Pairs p) (Int.toNat h) (dflt T_api_Pair)).2.2) (.br (v_road_Free (List.getD p.2 (Int.toNat (List.getD (v_delay_Pairs p) (Int.toNat h) (dflt T_api_Pair)).1) (dflt (.sl T_api_Ins))) [] (List.getD (v_delay_Pairs p) (Int.toNat h) (dflt T_api_Pair)).2.1 (List.getD (v_delay_Pairs p) (Int.toNat h) (dflt T_api_Pair)).2.2) (.br (Nat.ble (((List.length out)+1)*24) limit) (.jmp (.l4 (IntKind.i64.wrap (h+(1:Int))) (out++[(List.getD (v_delay_Pairs p) (Int.toNat h) (dflt T_api_Pair))]))) (.no)) (.jmp (.l4 (IntKind.i64.wrap (h+(1:Int))) out))) (.no)) (.no)) (.no)) (.leaf out)
def T0_delay_Open (p:El T_api_Prog):JT J_delay_Open (List (El T_api_Pair)):=.br (k_delay_Pairs p) (.jmp (.l4 (0:Int) [])) (.no)
def R_delay_Open:List (El T_api_Pair)→AV:=fun (r:List (El T_api_Pair))=>.rw 70 T_api_Pair r
def S_delay_Open (p:El T_api_Prog):J_delay_Open→Nat×St |.l4 h out=>(4,⟨mkTm 30 [(1,.pt 2 0 0),(3,.own 4 0 none),(7,.own 8 0 none),(8,.d (.int .i64) (Int.ofNat (List.length (v_delay_Pairs p)))),(9,.d (.int .i64) h)],[(2,0,.box 27 [.d (.sl T_api_Sym) p.1,.d (.sl (.sl T_api_Ins)) p.2] none),(4,0,.row 70 T_api_Pair out false),(8,0,.row 70 T_api_Pair (v_delay_Pairs p) false)]⟩)
theorem en_delay_Open (p:El T_api_Prog) (L:Lt):entryA Go.Proofs.Tryz.prog (clOf t_delay_Open) tb_delay_Open Go.Proofs.Tryz.f39 c_delay_Open L (toForms sg_delay_Open (p,()))=(T0_delay_Open p).run (fun v=>some (R_delay_Open v,tps (toForms sg_delay_Open (p,())))) fun j=>L (S_delay_Open p j).1 (S_delay_Open p j).2:=by kernel_rfl
theorem lp_delay_Open (p:El T_api_Prog):∀(L:Lt) (j:J_delay_Open),procOf (procsF Go.Proofs.Tryz.prog (clOf t_delay_Open) tb_delay_Open Go.Proofs.Tryz.f39 c_delay_Open (toForms sg_delay_Open (p,()))) (S_delay_Open p j).1 L (S_delay_Open p j).2=(T_delay_Open p j).run (fun v=>some (R_delay_Open v,tps (toForms sg_delay_Open (p,())))) fun j=>L (S_delay_Open p j).1 (S_delay_Open p j).2 | L,.l4 h out=>by kernel_rfl
end
end Go.Ev
end

section
open Go
namespace Go.Ev
noncomputable def openB (p:El T_api_Prog) (x:El T_api_Pair):Bool:=v_road_Free (List.getD p.2 (Int.toNat x.1) (dflt (.sl T_api_Ins))) [] x.2.1 x.2.2
noncomputable def openK (p:El T_api_Prog) (x:El T_api_Pair):Bool:=(decide ((0:Int)≤x.1)&&decide (x.1 < Int.ofNat (List.length p.2)))&&k_road_Free (List.getD p.2 (Int.toNat x.1) (dflt (.sl T_api_Ins))) [] x.2.1 x.2.2
noncomputable def v_delay_Open (p:El T_api_Prog):List (El T_api_Pair):=(v_delay_Pairs p).filter (openB p)
noncomputable def k_delay_Open (p:El T_api_Prog):Bool:=k_delay_Pairs p&&(decide ((v_delay_Pairs p).length < 10000000000)&&(v_delay_Pairs p).all (openK p))
theorem g_delay_Open (p:El T_api_Prog) (hk:k_delay_Open p=true):Goes (T_delay_Open p) (T0_delay_Open p) (v_delay_Open p):=by
 unfold k_delay_Open at hk
 rw[Bool.and_eq_true,Bool.and_eq_true] at hk
 obtain ⟨k1,k2,k3⟩:=hk
 have hN:=of_decide_eq_true k2
 unfold T0_delay_Open v_delay_Open
 rw[goes_br,if_pos k1]
 obtain ⟨l,hl⟩:∃l,v_delay_Pairs p=l:=⟨_,rfl⟩
 rw[hl] at hN k3
 rw[hl]
 have loop:∀k,k≤l.length→∀out:List (El T_api_Pair),out.length≤k→Goes (T_delay_Open p) (.jmp (.l4 (k:Int) out)) (out++(l.drop k).filter (openB p)):=by
  refine down ?_ fun k hk ih=>?_
  ·intro out ho
   rw[goes_jmp,T_delay_Open,hl,goes_br,if_neg (by rw[lt_len_not (Nat.lt_irrefl _)];decide),List.drop_length]
   simp only[List.filter_nil,List.append_nil]
   exact .leaf
  ·intro out ho
   have b1:Nat.ble ((out.length+1)*24) limit=true:=Nat.ble_eq_true_of_le (by unfold limit;omega)
   have hx:=List.all_eq_true.1 k3 l[k] (List.getElem_mem hk)
   unfold openK at hx
   rw[Bool.and_eq_true] at hx
   rw[goes_jmp,T_delay_Open,hl,drop_cons hk,List.filter_cons]
   simp only[goes_br,lt_len hk,nng,Bool.and_self,if_true,Int.toNat_natCast,getD_lt hk,b1,wrap_succ (k:=k) (by omega)]
   rw[if_pos hx.1,if_pos hx.2]
   by_cases c:openB p l[k]=true
   ·have c':=c
    unfold openB at c'
    rw[if_pos c',if_pos c]
    have:=ih (out++[l[k]]) (by simp;omega)
    rw[List.append_assoc] at this
    exact this
   ·have c':=c
    unfold openB at c'
    rw[if_neg c',if_neg c]
    exact ih out (by omega)
 have:=loop 0 (Nat.zero_le _) [] (Nat.zero_le _)
 rw[List.nil_append,List.drop_zero] at this
 exact this
end Go.Ev
end

section
open Go Go.Ev
namespace Go.Ev
noncomputable section
noncomputable def e_delay_Open:Run:=entG sg_delay_Open R_delay_Open (fun a=>k_delay_Open a.1) (fun a=>v_delay_Open a.1)
theorem ok_delay_Open:EntOK Go.Proofs.Tryz.prog 39 e_delay_Open:=entG_ok (tb:=tb_delay_Open) (c:=c_delay_Open) tk_delay_Open (by kernel_rfl) (by kernel_rfl) (by kernel_rfl) (fun a=>by kernel_rfl) fun ⟨p,_⟩ hk=>evF_goes (c:=c_delay_Open) (K:=fun v=>(R_delay_Open v,tps (toForms sg_delay_Open (p,())))) (S:=S_delay_Open p) (by kernel_rfl) (en_delay_Open p) (lp_delay_Open p) (g_delay_Open p hk)
end
end Go.Ev
end

section
open Go Go.Ev
namespace Go.Ev
noncomputable section
def sg_cut_of:Sig:=[(false,(.sl T_api_Pair)),(false,(.int .i64))]
noncomputable def t_cut_of:Tbl:=[]
theorem tk_cut_of:∀p∈t_cut_of,EntOK Go.Proofs.Tryz.prog p.1 p.2:=tbl_nil
noncomputable def c_cut_of:Code:=Go.Proofs.Tryz.f25.body.getD .skip
def tb_cut_of:Tb:=[(4,⟨[1,5,8,9,10],[(6,118)]⟩)]
inductive J_cut_of where | l4 (h:Int) (out:List (El T_api_Pair))
def T_cut_of (l:List (El T_api_Pair)) (t:Int):J_cut_of→JT J_cut_of (List (El T_api_Pair)) |.l4 h out=>.br (decide (h < (Int.ofNat (List.length l)))) (.br ((decide ((0:Int)≤h))&&(decide (h < (Int.ofNat (List.length l))))) (.br ((List.getD l (Int.toNat h) (dflt T_api_Pair)).1==t) (.br (Nat.ble (((List.length out)+1)*24) limit) (.jmp (.l4 (IntKind.i64.wrap (h+(1:Int))) (out++[(List.getD l (Int.toNat h) (dflt T_api_Pair))]))) (.no)) (.jmp (.l4 (IntKind.i64.wrap (h+(1:Int))) out))) (.no)) (.leaf out)
def T0_cut_of (l:List (El T_api_Pair)) (t:Int):JT J_cut_of (List (El T_api_Pair)):=.jmp (.l4 (0:Int) [])
def R_cut_of:List (El T_api_Pair)→AV:=fun (r:List (El T_api_Pair))=>.rw 70 T_api_Pair r
def S_cut_of (l:List (El T_api_Pair)) (t:Int):J_cut_of→Nat×St |.l4 h out=>(4,⟨mkTm 24 [(1,.d (.int .i64) t),(5,.own 6 0 none),(8,.d (.sl T_api_Pair) l),(9,.d (.int .i64) (Int.ofNat (List.length l))),(10,.d (.int .i64) h)],[(6,0,.row 70 T_api_Pair out false)]⟩)
theorem en_cut_of (l:List (El T_api_Pair)) (t:Int) (L:Lt):entryA Go.Proofs.Tryz.prog (clOf t_cut_of) tb_cut_of Go.Proofs.Tryz.f25 c_cut_of L (toForms sg_cut_of (l,t,()))=(T0_cut_of l t).run (fun v=>some (R_cut_of v,tps (toForms sg_cut_of (l,t,())))) fun j=>L (S_cut_of l t j).1 (S_cut_of l t j).2:=by kernel_rfl
theorem lp_cut_of (l:List (El T_api_Pair)) (t:Int):∀(L:Lt) (j:J_cut_of),procOf (procsF Go.Proofs.Tryz.prog (clOf t_cut_of) tb_cut_of Go.Proofs.Tryz.f25 c_cut_of (toForms sg_cut_of (l,t,()))) (S_cut_of l t j).1 L (S_cut_of l t j).2=(T_cut_of l t j).run (fun v=>some (R_cut_of v,tps (toForms sg_cut_of (l,t,())))) fun j=>L (S_cut_of l t j).1 (S_cut_of l t j).2 | L,.l4 h out=>by kernel_rfl
end
end Go.Ev
end

section
open Go Go.Ev
namespace Go.Ev
noncomputable section
end
end Go.Ev
end

section
open Go Go.Ev
namespace Go.Ev
noncomputable section
end
end Go.Ev
end

section
open Go Go.Ev
namespace Go.Ev
noncomputable section
end
end Go.Ev
end

section
open Go Go.Ev
namespace Go.Ev
noncomputable section
end
end Go.Ev
end

section
namespace Go.Ev
open Go
end Go.Ev
end

section
open Go
namespace Go.Ev
end Go.Ev
end

section
open Go Go.Ev
namespace Go.Ev
noncomputable section
end
end Go.Ev
end

section
open Go Go.Ev
namespace Go.Ev
noncomputable section
end
end Go.Ev
end

section
open Go Go.Ev
namespace Go.Ev
noncomputable section
end
end Go.Ev
end

section
open Go
namespace Go.Ev
end Go.Ev
end

section
open Go
namespace Go.Ev
def rowOf (n:Nat) (M:Nat→Bool):List Bool:=(List.range n).map M
theorem rowOf_length {n:Nat} {M:Nat→Bool} :(rowOf n M).length=n:=by simp[rowOf]
theorem rowOf_get {n:Nat} {M:Nat→Bool} {i:Nat} (h:i < n):(rowOf n M)[i]? =some (M i):=by simp[rowOf,h]
end Go.Ev
end

section
open Go Go.Ev
namespace Go.Ev
noncomputable section
end
end Go.Ev
end

section
open Go Go.Ev
namespace Go.Ev
noncomputable section
end
end Go.Ev
end

section
open Go
namespace Go.Ev
theorem rowOf_getD {n:Nat} {M:Nat→Bool} {i:Nat} (h:i < n):List.getD (rowOf n M) i (dflt .bool)=M i:=by
 simp[List.getD,rowOf_get h]
end Go.Ev
end

section
open Go
namespace Go.Ev
end Go.Ev
end

section
open Go Go.Ev
namespace Go.Ev
noncomputable section
end
end Go.Ev
end

section
open Go Go.Ev
namespace Go.Ev
noncomputable section
end
end Go.Ev
end

section
open Go Go.Ev
namespace Go.Ev
noncomputable section
end
end Go.Ev
end

section
open Go Go.Ev
namespace Go.Ev
noncomputable section
end
end Go.Ev
end

section
open Go
namespace Go.Ev
theorem acc_facts {p:El T_api_Prog} (h:smallAll p=true) {i:Nat} (hi:i < (ofC p).length):
  0≤thA (ofC p) i∧thA (ofC p) i < (p.2.length:Int)∧flowOK (thrOf p (ofC p) i)=true∧0≤inA (ofC p) i∧inA (ofC p) i < ((thrOf p (ofC p) i).length:Int):=by
 have hA:=smallA h
 have hm:accA (ofC p) i∈ofC p:=by unfold accA;rw[getD_lt hi];exact List.getElem_mem hi
 obtain ⟨u,x,j,y,h1,h2,h3,h4,h5⟩:=acc_where hm
 have hth:thA (ofC p) i=(u:Int):=h4
 have hin:inA (ofC p) i=(j:Int):=h5
 have hu:=(List.getElem?_eq_some_iff.1 h1).1
 have hj:=(List.getElem?_eq_some_iff.1 h2).1
 have ht:thrOf p (ofC p) i=x:=by
  unfold thrOf
  rw[hth,Int.toNat_natCast,List.getD_eq_getElem?_getD,h1];rfl
 rw[ht]
 exact ⟨by omega,by omega,flow_small (hA.thr x (List.mem_of_getElem? h1)),by omega,by omega⟩
end Go.Ev
end

section
open Go
namespace Go.Ev
end Go.Ev
end

section
open Go Go.Ev
namespace Go.Ev
noncomputable section
end
end Go.Ev
end

section
open Go Go.Ev
namespace Go.Ev
noncomputable section
end
end Go.Ev
end

section
open Go
namespace Go.Ev
def stB' (l:List Acc) (s:Nat):Bool:=(accA l s).2.2.2.2.1&& ! (accA l s).2.2.2.2.2
def ldB' (l:List Acc) (s:Nat):Bool:=! (accA l s).2.2.2.2.1&& ! (accA l s).2.2.2.2.2
noncomputable def delB (p:El T_api_Prog) (l:List Acc) (s r:Nat):Bool:=((thA l r==thA l s)&&ldB' l r)&&(fromB (thrOf p l s) (inA l s) (inA l r).toNat&&backB p l r s)
def delPair (l:List Acc) (s r:Nat):El T_api_Pair:=(thA l s,(inA l s,inA l r))
noncomputable def delS (p:El T_api_Prog) (l:List Acc) (s:Nat):List (El T_api_Pair):=if stB' l s then ((List.range' 0 l.length).filter fun r=>delB p l s r).map (delPair l s) else []
noncomputable def delsFrom (p:El T_api_Prog) (l:List Acc) (s:Nat):List (El T_api_Pair):=(List.range' s (l.length - s)).flatMap (delS p l)
noncomputable def v_ref3_Delays (p:El T_api_Prog):List (El T_api_Pair):=delsFrom p (ofC p) 0
def k_ref3_Delays (p:El T_api_Prog):Bool:=smallAll p&&decide ((ofC p).length < 1000000)
theorem delS_len (p:El T_api_Prog) (l:List Acc) (s:Nat):(delS p l s).length≤l.length:=by
 unfold delS
 split
 ·rw[List.length_map]
  have:=List.length_filter_le (fun r=>delB p l s r) (List.range' 0 l.length)
  rw[List.length_range'] at this
  exact this
 ·exact Nat.zero_le _
end Go.Ev
end

section
open Go
namespace Go.Ev
def k_book_SamePairs (a b:List (El T_api_Pair)):Bool:=decide (a.length < 4611686018427387904)
end Go.Ev
end

section
open Go
namespace Go.Ev
theorem putAll_ok {n:Nat} (hn:n < 4611686018427387904) {B:Nat→Bool} :∀(xs:List Nat) (d:SetD) (M:Nat→Bool),(∀x∈xs,x < n)→SetOK d n M→SetOK (putAll d (xs.map Int.ofNat)) n fun k=>M k || xs.contains k
 | [],d,M,_,h=>h.congr' fun j=>by simp
 | x :: xs,d,M,hx,h=>by
  have h1:=(h.putO hn (hx x (by simp))).2
  have h2:=putAll_ok (B:=B) hn xs _ _ (fun y hy=>hx y (by simp[hy])) h1
  refine h2.congr' fun j=>?_
  rw[List.contains_cons,Bool.or_assoc]
theorem putAll_list {n:Nat} (hn:n < 4611686018427387904) {B:Nat→Bool} :SetOK (putAll ((n:Int),[]) (listOf n B)) n fun k=>decide (k < n)&&B k:=by
 have:=putAll_ok (B:=B) hn ((List.range n).filter B) ((n:Int),[]) _ (fun x hx=>List.mem_range.1 (List.mem_filter.1 hx).1) (SetOK.new n)
 refine this.congr' fun j=>?_
 rw[Bool.false_or,Bool.eq_iff_iff,List.contains_iff_mem,List.mem_filter,List.mem_range,Bool.and_eq_true,decide_eq_true_eq]
theorem new_eq {n:Nat} (hn:n < 4611686018427387904):v_bits_New (Int.ofNat n)=((n:Int),[]):=by
 unfold v_bits_New
 simp
 omega
section
variable {p:El T_api_Prog}
theorem back_ok (hk:k_delay_Pairs p=true) {r:Nat} (hr:r < (ofC p).length):SetOK (dBack p (ofC p) (r:Int)) (ofC p).length fun k=>decide (k < (ofC p).length)&&backB p (ofC p) r k:=by
 obtain ⟨hs,hd⟩:=delayOK hk
 have hn:(ofC p).length < 4611686018427387904:=Nat.lt_trans hd.len (by decide)
 unfold dBack
 rw[new_eq hn]
 unfold v_clash_Back
 rw[if_pos ⟨Int.natCast_nonneg r,Int.ofNat_lt.2 hr⟩,Int.toNat_natCast]
 exact putAll_list hn
theorem hit_eq (hk:k_delay_Pairs p=true) {s r:Nat} (hs:s < (ofC p).length) (hr:r < (ofC p).length) (ht:thA (ofC p) r=thA (ofC p) s):
  hitP p (ofC p) (s:Int) (frS p (ofC p) (thA (ofC p) s) (s:Int)) (r:Int)=(fromB (thrOf p (ofC p) s) (inA (ofC p) s) (inA (ofC p) r).toNat&&backB p (ofC p) r s):=by
 obtain ⟨hsm,hd⟩:=delayOK hk
 have hn:(ofC p).length < 4611686018427387904:=Nat.lt_trans hd.len (by decide)
 obtain ⟨t0,t1,hf,i0,i1⟩:=acc_facts hsm hs
 obtain ⟨_,_,_,j0,j1⟩:=acc_facts hsm hr
 have et:thrOf p (ofC p) r=thrOf p (ofC p) s:=by unfold thrOf;rw[ht]
 rw[et] at j1
 have hlen:(thrOf p (ofC p) s).length < 4611686018427387904:=Nat.lt_trans (flowOK_len hf) (by decide)
 have e1:frS p (ofC p) (thA (ofC p) s) (s:Int)=putAll (((thrOf p (ofC p) s).length:Int),[]) (listOf (thrOf p (ofC p) s).length (fromB (thrOf p (ofC p) s) (inA (ofC p) s))):=by
  unfold frS
  rw[show insP p (thA (ofC p) s)=thrOf p (ofC p) s from rfl,new_eq hlen]
  rfl
 have h1:=putAll_list hlen (B:=fromB (thrOf p (ofC p) s) (inA (ofC p) s))
 rw[←e1] at h1
 have h2:=back_ok hk hr
 have e2:∀(x:SetD) (i:Int),(v_bits_Set_Has x i).1=hasS x i:=fun _ _=>rfl
 have g1:(v_bits_Set_Has (frS p (ofC p) (thA (ofC p) s) (s:Int)) (inA (ofC p) r)).1=fromB (thrOf p (ofC p) s) (inA (ofC p) s) (inA (ofC p) r).toNat:=by
  rw[e2,h1.has hlen,decide_eq_true j0,decide_eq_true (show (inA (ofC p) r).toNat < (thrOf p (ofC p) s).length by omega),Bool.true_and,Bool.true_and]
 have g2:(v_bits_Set_Has (dBack p (ofC p) (r:Int)) (s:Int)).1=backB p (ofC p) r s:=by
  rw[e2,h2.has hn,decide_eq_true (Int.natCast_nonneg s),Int.toNat_natCast,decide_eq_true hs,Bool.true_and,Bool.true_and]
 unfold hitP
 rw[g2]
 have:(v_bits_Set_Has (frS p (ofC p) (thA (ofC p) s) (s:Int)) (List.getD (ofC p) (Int.toNat (r:Int)) (dflt T_api_Access)).2.1).1=fromB (thrOf p (ofC p) s) (inA (ofC p) s) (inA (ofC p) r).toNat:=by
  rw[Int.toNat_natCast]
  exact g1
 rw[this]
end
theorem flatMap_eqX {α β:Type} {f g:α→List β} {l:List α} (h:∀x∈l,f x=g x):l.flatMap f=l.flatMap g:=by
 rw[List.flatMap_def,List.flatMap_def,List.map_congr_left h]
theorem by_key {α β:Type} {key:α→Nat} {D:α→List β} :∀(T:Nat) (L:List α),L.Pairwise (fun a b=>key a≤key b)→(∀x∈L,key x < T)→((List.range T).flatMap fun t=>(L.filter fun x=>key x==t).flatMap D)=L.flatMap D
 | 0,L,_,h=>by
  cases L with
  | nil=>rfl
  | cons x L=>exact absurd (h x (by simp)) (Nat.not_lt_zero _)
 | T+1,L,hp,h=>by
  have split:∀L:List α,L.Pairwise (fun a b=>key a≤key b)→(∀x∈L,key x < T+1)→L=(L.filter fun x=>decide (key x < T))++L.filter fun x=>key x==T:=by
   intro L
   induction L with
   | nil=>intros;rfl
   | cons x L ih=>
    intro hp h
    obtain ⟨p1,p2⟩:=List.pairwise_cons.1 hp
    have ih:=ih p2 fun y hy=>h y (by simp[hy])
    by_cases hx:key x < T
    ·have hx':(key x==T)=false:=by rw[beq_eq_false_iff_ne];omega
     rw[List.filter_cons_of_pos (by simpa using hx),List.filter_cons_of_neg (by rw[hx'];exact Bool.false_ne_true),List.cons_append,←ih]
    ·have hk:key x=T:=by have:=h x (by simp);omega
     have hnone:L.filter (fun x=>decide (key x < T))=[]:=List.filter_eq_nil_iff.2 fun y hy=>by have:=p1 y hy;simp;omega
     rw[List.filter_cons_of_neg (by simpa using hx),List.filter_cons_of_pos (by simpa using hk),hnone,List.nil_append]
     rw[hnone,List.nil_append] at ih
     rw[←ih]
  have e:=split L hp h
  rw[List.range_succ,List.flatMap_append]
  have h1:((List.range T).flatMap fun t=>(L.filter fun x=>key x==t).flatMap D)=(L.filter fun x=>decide (key x < T)).flatMap D:=by
   rw[←by_key T (L.filter fun x=>decide (key x < T)) (hp.sublist List.filter_sublist) fun x hx=>by simpa using (List.mem_filter.1 hx).2]
   refine flatMap_eqX fun t ht=>?_
   rw[List.filter_filter]
   congr 1
   refine List.filter_congr fun x hx=>?_
   have:=List.mem_range.1 ht
   by_cases hk:key x=t
   ·simp[hk,this]
   ·simp[hk]
  rw[h1]
  simp only[List.flatMap_cons,List.flatMap_nil,List.append_nil]
  rw[←List.flatMap_append,←e]
theorem flat_if {α β γ:Type} {g:β→List γ} {f:α→β} {P H:α→Bool} {q:α→γ} :∀(l:List α),(∀x∈l,P x=true→g (f x)=if H x=true then [q x] else [])→((l.filter P).map f).flatMap g=(l.filter fun x=>P x&&H x).map q
 | [],_=>rfl
 | x :: l,h=>by
  have ih:=flat_if l fun y hy=>h y (by simp[hy])
  cases hP:P x with
  | false=>rw[List.filter_cons_of_neg (by simp[hP]),List.filter_cons_of_neg (by simp[hP]),ih]
  | true=>
   rw[List.filter_cons_of_pos hP,List.map_cons,List.flatMap_cons,h x (by simp) hP,ih]
   cases hH:H x with
   | false=>rw[List.filter_cons_of_neg (by simp[hP,hH])];simp
   | true=>rw[List.filter_cons_of_pos (by simp[hP,hH])];simp
theorem flat_filter {α β:Type} {P:α→Bool} {D:α→List β} :∀(l:List α),(l.flatMap fun x=>if P x=true then D x else [])=(l.filter P).flatMap D
 | []=>rfl
 | x :: l=>by
  cases hP:P x with
  | false=>rw[List.filter_cons_of_neg (by simp[hP]),List.flatMap_cons,flat_filter l];simp[hP]
  | true=>rw[List.filter_cons_of_pos hP,List.flatMap_cons,List.flatMap_cons,flat_filter l];simp[hP]
theorem key_le {p:El T_api_Prog} {a b:Nat} (ha:a < (ofC p).length) (hb:b < (ofC p).length) (h:a < b):thA (ofC p) a≤thA (ofC p) b:=by
 have ho:=List.pairwise_iff_getElem.1 (ofC_ord p) a b ha hb h
 have ga:accA (ofC p) a=(ofC p)[a]:=by unfold accA;rw[getD_lt ha]
 have gb:accA (ofC p) b=(ofC p)[b]:=by unfold accA;rw[getD_lt hb]
 rw[←ga,←gb] at ho
 have:∀t k q t' k' q':Int,ltNX t k q t' k' q'→t≤t':=fun t k q t' k' q' h=>by
  rcases h with h | ⟨h,_⟩ <;> omega
 exact this _ _ _ _ _ _ ho
theorem delays_eq {p:El T_api_Prog} (hk:k_delay_Pairs p=true):v_delay_Pairs p=v_ref3_Delays p:=by
 obtain ⟨hsm,hd⟩:=delayOK hk
 have facts:=fun i=>acc_facts (i:=i) hsm
 have hits:=fun s r=>hit_eq (s:=s) (r:=r) hk
 have keys:=fun a b=>key_le (p:=p) (a:=a) (b:=b)
 unfold v_delay_Pairs v_ref3_Delays delsFrom outN
 generalize ofC p=l at facts hits keys
 rw[Nat.sub_zero,←List.range_eq_range']
 have hD:∀s,delS p l s=if stB' l s=true then ((List.range l.length).filter fun r=>delB p l s r).map (delPair l s) else []:=fun s=>by
  unfold delS
  rw[←List.range_eq_range']
 rw[flatMap_eqX fun s _=>hD s,flat_filter]
 refine Eq.trans ?_ (by_key (key:=fun s=>(thA l s).toNat) p.2.length ((List.range l.length).filter fun s=>stB' l s) ?_ ?_)
 ·refine flatMap_eqX fun t ht=>?_
  have ht:=List.mem_range.1 ht
  rw[List.filter_filter]
  unfold outT v_delay_plain listOf
  rw[List.flatMap_map]
  have hf:(List.range l.length).filter (plB l (t:Int) true)=(List.range l.length).filter fun s=>((thA l s).toNat==t)&&stB' l s:=by
   refine List.filter_congr fun s hs=>?_
   obtain ⟨t0,_⟩:=facts s (List.mem_range.1 hs)
   unfold plB stB'
   rw[Bool.and_assoc]
   have e:(((List.getD l s (dflt T_api_Access)).1:Int)==(t:Int))=((thA l s).toNat==t):=by
    show (thA l s==(t:Int))=_
    rw[Bool.eq_iff_iff,beq_iff_eq,beq_iff_eq]
    omega
   have e2:((List.getD l s (dflt T_api_Access)).2.2.2.2.1==true)=(accA l s).2.2.2.2.1:=by
    show ((accA l s).2.2.2.2.1==true)=_
    cases (accA l s).2.2.2.2.1 <;> rfl
   rw[e2]
   exact congrArg (· &&_) e
  rw[hf]
  refine flatMap_eqX fun s hs=>?_
  obtain ⟨hs1,hs2⟩:=List.mem_filter.1 hs
  have hsN:=List.mem_range.1 hs1
  rw[Bool.and_eq_true,beq_iff_eq] at hs2
  obtain ⟨t0,_⟩:=facts s hsN
  have hth:thA l s=(t:Int):=by have:=hs2.1;omega
  unfold outS v_delay_plain listOf
  rw[flat_if (H:=fun r=>fromB (thrOf p l s) (inA l s) (inA l r).toNat&&backB p l r s) (q:=delPair l s)]
  ·congr 1
   refine List.filter_congr fun r hr=>?_
   unfold plB delB ldB'
   have e1:(((List.getD l r (dflt T_api_Access)).1:Int)==(t:Int))=(thA l r==thA l s):=by rw[hth];rfl
   have e2:((List.getD l r (dflt T_api_Access)).2.2.2.2.1==false)=! (accA l r).2.2.2.2.1:=by
    show ((accA l r).2.2.2.2.1==false)=_
    cases (accA l r).2.2.2.2.1 <;> rfl
   rw[e2,←Bool.and_assoc (thA l r==thA l s)]
   exact congrArg (fun x=>x&&_&&_&&_) e1
  ·intro r hr hP
   have hrN:=List.mem_range.1 hr
   unfold plB at hP
   rw[Bool.and_eq_true,Bool.and_eq_true] at hP
   have hth2:thA l r=(t:Int):=by have:=hP.1.1;exact eq_of_beq this
   have:=hits s r hsN hrN (hth2.trans hth.symm)
   rw[hth] at this
   show oneP p l (t:Int) (s:Int) (frS p l (t:Int) (s:Int)) (r:Int)=_
   unfold oneP
   rw[this]
   unfold delPair
   rw[hth]
   rfl
 ·refine List.Pairwise.filter _ ?_
  refine List.pairwise_lt_range.imp_of_mem fun {a b} ha hb h=>?_
  have:=keys a b (List.mem_range.1 ha) (List.mem_range.1 hb) h
  omega
 ·intro s hs
  obtain ⟨t0,t1,_⟩:=facts s (List.mem_range.1 (List.mem_filter.1 hs).1)
  omega
end Go.Ev
end

section
open Go Go.Ev
namespace Go.Ev
noncomputable section
end
end Go.Ev
end

section
open Go Go.Ev
namespace Go.Ev
noncomputable section
end
end Go.Ev
end

section
namespace Go.Ev
open Go
end Go.Ev
end

section
open Go
namespace Go.Ev
end Go.Ev
end

section
open Go Go.Ev
namespace Go.Ev
noncomputable section
end
end Go.Ev
end

section
open Go Go.Ev
namespace Go.Ev
noncomputable section
end
end Go.Ev
end

section
open Go
namespace Go.Ev
end Go.Ev
end

section
open Go Go.Ev
namespace Go.Ev
noncomputable section
end
end Go.Ev
end

section
open Go Go.Ev
namespace Go.Ev
noncomputable section
end
end Go.Ev
end

section
open Go
namespace Go.Ev
end Go.Ev
end

section
open Go Go.Ev
namespace Go.Ev
noncomputable section
end
end Go.Ev
end

section
open Go Go.Ev
namespace Go.Ev
noncomputable section
def u_book_label (i:Int):ByteArray:=bif (decide ((Int.ofNat ((ByteArray.size (bs [108]))+(ByteArray.size (bytesText [(IntKind.u8.wrap (IntKind.i64.wrap ((48:Int)+(IntKind.i64.wrap (Int.tdiv i (10:Int)))))),(IntKind.u8.wrap (IntKind.i64.wrap ((48:Int)+(Int.tmod i (10:Int)))))])))) > (9223372036854775807:Int))) then (bs []) else ((bs [108])++(bytesText [(IntKind.u8.wrap (IntKind.i64.wrap ((48:Int)+(IntKind.i64.wrap (Int.tdiv i (10:Int)))))),(IntKind.u8.wrap (IntKind.i64.wrap ((48:Int)+(Int.tmod i (10:Int)))))]))
end
end Go.Ev
end

section
open Go
namespace Go.Ev
def v_book_label (i:Int):ByteArray:=u_book_label i
end Go.Ev
end

section
open Go Go.Ev
namespace Go.Ev
noncomputable section
end
end Go.Ev
end

section
open Go Go.Ev
namespace Go.Ev
noncomputable section
end
end Go.Ev
end

section
open Go Go.Ev
namespace Go.Ev
noncomputable section
end
end Go.Ev
end

section
namespace Go.Ev
open Go
def placeOK (k s n:Int):Bool:=decide (0≤s)&&(decide (s < 3)&&(k==4 || decide (n < [1,2,1].getD s.toNat 0)))
structure BookOK (many:Int) (i:El T_api_Ins):Prop where
 right:v_ins_Right i=0
 to:((show Int from i.1)≠10∧(show Int from i.1)≠11∧i.2.2.2.2.2.1=bs [])∨(((show Int from i.1)=10∨(show Int from i.1)=11)∧∃k:Int,0≤k∧k < many∧i.2.2.2.2.2.1=v_book_label k)
 labels:i.2.2.2.2.2.2=[]
 op:(show Int from i.1)≠14
 placeA:((show Int from i.2.2.2.1.1)=3∨(show Int from i.2.2.2.1.1)=4)→placeOK i.2.2.2.1.1 i.2.2.2.1.2.2.1 i.2.2.2.1.2.2.2=true
 placeB:((show Int from i.2.2.2.2.1.1)=3∨(show Int from i.2.2.2.2.1.1)=4)→placeOK i.2.2.2.2.1.1 i.2.2.2.2.1.2.2.1 i.2.2.2.2.1.2.2.2=true
theorem label_right {k:Int} (h0:0≤k) (h1:k < 100):nameRight (v_book_label k)=true∧smallText (v_book_label k)=true:=by
 have:∀k:Fin 100,(nameRight (v_book_label (k.1:Int))&&smallText (v_book_label (k.1:Int)))=true:=by decide+kernel
 have:=this ⟨k.toNat,by omega⟩
 rw[Int.toNat_of_nonneg h0,Bool.and_eq_true] at this
 exact this
theorem BookOK.small {many:Int} (hm:many≤100) {i:El T_api_Ins} (h:BookOK many i):smallText i.2.2.2.2.2.1=true:=by
 rcases h.to with ⟨_,_,e⟩ | ⟨_,k,h0,h1,e⟩
 ·rw[e];decide
 ·rw[e];exact (label_right h0 (by omega)).2
end Go.Ev
end

section
namespace Go.Ev
open Go
theorem smallText_of {s:ByteArray} (h:s.size≤60):smallText s=true:=decide_eq_true (by omega)
theorem labels_le {t:List (El T_api_Ins)} {n:Nat} (h:∀i∈t,i.2.2.2.2.2.2.length≤n):(labels t).length≤n*t.length:=by
 unfold labels
 induction t with
 | nil=>simp
 | cons i t ih=>
  rw[List.flatMap_cons,List.length_append,List.length_cons,Nat.mul_add,Nat.mul_one]
  have h1:=h i (List.mem_cons_self ..)
  have h2:=ih fun j hj=>h j (List.mem_cons_of_mem _ hj)
  omega
end Go.Ev
end

section
namespace Go.Ev
open Go
end Go.Ev
end

section
namespace Go.Ev
open Go
end Go.Ev
end

section
open Go
namespace Go.Ev
end Go.Ev
end

section
open Go Go.Ev
namespace Go.Ev
noncomputable section
end
end Go.Ev
end

section
namespace Go.Ev
open Go
end Go.Ev
end

section
open Go
namespace Go.Ev
end Go.Ev
end

section
open Go Go.Ev
namespace Go.Ev
noncomputable section
def sg_book_SameInts:Sig:=[(false,(.sl (.int .i64))),(false,(.sl (.int .i64)))]
noncomputable def t_book_SameInts:Tbl:=[]
theorem tk_book_SameInts:∀p∈t_book_SameInts,EntOK Go.Proofs.Tryz.prog p.1 p.2:=tbl_nil
noncomputable def c_book_SameInts:Code:=Go.Proofs.Tryz.f10.body.getD .skip
def tb_book_SameInts:Tb:=[(6,⟨[0,1,5],[]⟩)]
inductive J_book_SameInts where | l6 (i:Int)
def T_book_SameInts (a:List Int) (b:List Int):J_book_SameInts→JT J_book_SameInts (Bool) |.l6 i=>.br (decide (i < (Int.ofNat (List.length a)))) (.br ((decide ((0:Int)≤i))&&(decide (i < (Int.ofNat (List.length a))))) (.br ((decide ((0:Int)≤i))&&(decide (i < (Int.ofNat (List.length b))))) (.br ((List.getD a (Int.toNat i) (dflt (.int .i64))) !=(List.getD b (Int.toNat i) (dflt (.int .i64)))) (.leaf false) (.jmp (.l6 (IntKind.i64.wrap (i+(1:Int)))))) (.no)) (.no)) (.leaf true)
def T0_book_SameInts (a:List Int) (b:List Int):JT J_book_SameInts (Bool):=.br ((Int.ofNat (List.length a)) !=(Int.ofNat (List.length b))) (.leaf false) (.jmp (.l6 (0:Int)))
def R_book_SameInts:Bool→AV:=fun (r:Bool)=>.d .bool r
def S_book_SameInts (a:List Int) (b:List Int):J_book_SameInts→Nat×St |.l6 i=>(6,⟨mkTm 26 [(0,.d (.sl (.int .i64)) a),(1,.d (.sl (.int .i64)) b),(5,.d (.int .i64) i)],[]⟩)
theorem en_book_SameInts (a:List Int) (b:List Int) (L:Lt):entryA Go.Proofs.Tryz.prog (clOf t_book_SameInts) tb_book_SameInts Go.Proofs.Tryz.f10 c_book_SameInts L (toForms sg_book_SameInts (a,b,()))=(T0_book_SameInts a b).run (fun v=>some (R_book_SameInts v,tps (toForms sg_book_SameInts (a,b,())))) fun j=>L (S_book_SameInts a b j).1 (S_book_SameInts a b j).2:=by kernel_rfl
theorem lp_book_SameInts (a:List Int) (b:List Int):∀(L:Lt) (j:J_book_SameInts),procOf (procsF Go.Proofs.Tryz.prog (clOf t_book_SameInts) tb_book_SameInts Go.Proofs.Tryz.f10 c_book_SameInts (toForms sg_book_SameInts (a,b,()))) (S_book_SameInts a b j).1 L (S_book_SameInts a b j).2=(T_book_SameInts a b j).run (fun v=>some (R_book_SameInts v,tps (toForms sg_book_SameInts (a,b,())))) fun j=>L (S_book_SameInts a b j).1 (S_book_SameInts a b j).2 | L,.l6 i=>by kernel_rfl
end
end Go.Ev
end

section
open Go
namespace Go.Ev
theorem intB_eq {a b:Int} :(a==b)=decide (a=b):=by rw[Bool.eq_iff_iff];simp
def v_book_SameInts (a b:List Int):Bool:=decide (a=b)
def k_book_SameInts (a b:List Int):Bool:=decide (a.length < 4611686018427387904)
theorem g_book_SameInts (a b:List Int) (hk:k_book_SameInts a b=true):Goes (T_book_SameInts a b) (T0_book_SameInts a b) (v_book_SameInts a b):=by
 have hn:a.length < 4611686018427387904:=of_decide_eq_true hk
 have loop:a.length=b.length→∀k,k≤a.length→Goes (T_book_SameInts a b) (.jmp (.l6 (k:Int))) (decide (a.drop k=b.drop k)):=by
  intro he
  refine down ?_ fun k hk ih=>?_
  ·rw[goes_jmp]
   simp[T_book_SameInts,goes_br,goes_leaf,he]
  ·rw[goes_jmp]
   have hkb:k < b.length:=he▸hk
   simp only[T_book_SameInts,goes_br,lt_len hk,lt_len hkb,nng,Bool.and_self,if_true,Int.toNat_natCast,getD_lt hk,getD_lt hkb,wrap_succ (k:=k) (by omega)]
   rw[drop_cons hk,drop_cons hkb]
   split
   ·rename_i h1
    have h2:(! decide (a[k]=b[k]))=true:=(congrArg Bool.not intB_eq).symm.trans h1
    have h3:¬a[k]=b[k]:=by simpa using h2
    rw[decide_eq_false (fun e=>h3 (List.cons.inj e).1)]
    exact .leaf
   ·rename_i h1
    have h2:¬(! decide (a[k]=b[k]))=true:=fun h=>h1 ((congrArg Bool.not intB_eq).trans h)
    have h3:a[k]=b[k]:=by simpa using h2
    rw[show decide (a[k] :: List.drop (k+1) a=b[k] :: List.drop (k+1) b)=decide (List.drop (k+1) a=List.drop (k+1) b) from decide_eq_decide.2 ⟨fun e=>(List.cons.inj e).2,fun e=>by rw[h3,e]⟩]
    exact ih
 unfold T0_book_SameInts v_book_SameInts
 rw[goes_br]
 by_cases h:a.length=b.length
 ·have:=loop h 0 (Nat.zero_le _)
  simpa[h] using this
 ·have:a≠b:=fun e=>h (congrArg _ e)
  rw[if_pos (by simp;omega),decide_eq_false this]
  exact .leaf
end Go.Ev
end

section
open Go
namespace Go.Ev
theorem listOf_le {n:Nat} {M:Nat→Bool} :(listOf n M).length≤n:=by rw[listOf_length];exact card_le
theorem listOf_contains {n:Nat} {M:Nat→Bool} {x:Int} :(listOf n M).contains x=(decide (0≤x∧x < (n:Int))&&M x.toNat):=by
 rw[Bool.eq_iff_iff,List.contains_iff_mem,listOf_mem]
 simp only[Bool.and_eq_true,decide_eq_true_eq]
 constructor
 ·rintro ⟨i,h1,h2,rfl⟩;exact ⟨by omega,by rw[Int.toNat_natCast];exact h2⟩
 ·rintro ⟨h1,h2⟩;exact ⟨x.toNat,by omega,h2,by omega⟩
theorem same_self {l:List Int} (h:l.length < 1099511627776):k_book_SameInts l l=true∧v_book_SameInts l l=true:=⟨decide_eq_true (by omega),decide_eq_true rfl⟩
theorem ends_road {t:List (El T_api_Ins)} {points:List Int} (h:flowOK t=true) (hp:points.length < 4611686018427387904) (s:Int):
  k_road_Ends t points s=true∧k_book_SameInts (v_road_Ends t points s) (v_road_Ends t points s)=true∧v_book_SameInts (v_road_Ends t points s) (v_road_Ends t points s)=true:=by
 have k1:k_road_Ends t points s=true:=by unfold k_road_Ends;rw[h,decide_eq_true hp];rfl
 have hl:=flowOK_len h
 exact ⟨k1,same_self (by unfold v_road_Ends;have:= @listOf_le t.length (endsB t points s);omega)⟩
theorem free_road {t:List (El T_api_Ins)} {points:List Int} (h:flowOK t=true) (hp:points.length < 4611686018427387904) (s l:Int):
  k_road_Free t points s l=true∧v_road_Free t points s l=(decide (0≤l∧l < (t.length:Int))&&endsB t points s l.toNat):=by
 obtain ⟨k1,_⟩:=ends_road h hp s
 have hl:=flowOK_len h
 have ki:k_slices_Index___int_int_ (v_road_Ends t points s) l=true:=decide_eq_true (by unfold v_road_Ends;have:= @listOf_le t.length (endsB t points s);omega)
 have vr:v_road_Free t points s l=(decide (0≤l∧l < (t.length:Int))&&endsB t points s l.toNat):=by
  unfold v_road_Free k_slices_Contains___int_int_ v_slices_Contains___int_int_
  rw[k1,ki]
  simp only[cond_true]
  unfold v_slices_Index___int_int_
  rw[indexI_ge]
  unfold v_road_Ends
  exact listOf_contains
 refine ⟨?_,vr⟩
 unfold k_road_Free k_slices_Contains___int_int_;rw[k1,ki];rfl
end Go.Ev
end

section
open Go Go.Ev
namespace Go.Ev
noncomputable section
end
end Go.Ev
end

section
open Go
namespace Go.Ev
end Go.Ev
end

section
open Go Go.Ev
namespace Go.Ev
noncomputable section
end
end Go.Ev
end

section
open Go Go.Ev
namespace Go.Ev
noncomputable section
end
end Go.Ev
end

section
open Go Go.Ev
namespace Go.Ev
noncomputable section
end
end Go.Ev
end

section
open Go
namespace Go.Ev
end Go.Ev
end

section
open Go
namespace Go.Ev
noncomputable def v_ref3_ends (t:List (El T_api_Ins)) (points:List Int) (s:Int):List Bool:=rowOf t.length (endsB t points s)
def k_ref3_ends (t:List (El T_api_Ins)) (points:List Int) (s:Int):Bool:=flowOK t&&decide (points.length < 4611686018427387904)
end Go.Ev
end

section
namespace Go.Ev
open Go
end Go.Ev
end

section
namespace Go.Ev
open Go
end Go.Ev
end

section
open Go Go.Ev
namespace Go.Ev
noncomputable section
end
end Go.Ev
end

section
open Go Go.Ev
namespace Go.Ev
noncomputable section
def v_ref3_Free (t:List (El T_api_Ins)) (points:List Int) (s:Int) (l:Int):Bool:=bif (decide (l≥(0:Int))) then bif (decide (l < (Int.ofNat (List.length t)))) then bif (k_ref3_ends t points s) then bif ((decide ((0:Int)≤l))&&(decide (l < (Int.ofNat (List.length (v_ref3_ends t points s)))))) then (List.getD (v_ref3_ends t points s) (Int.toNat l) (dflt .bool)) else false else false else false else false
def k_ref3_Free (t:List (El T_api_Ins)) (points:List Int) (s:Int) (l:Int):Bool:=bif (decide (l≥(0:Int))) then bif (decide (l < (Int.ofNat (List.length t)))) then bif (k_ref3_ends t points s) then bif ((decide ((0:Int)≤l))&&(decide (l < (Int.ofNat (List.length (v_ref3_ends t points s)))))) then true else false else false else true else true
end
end Go.Ev
end

section
open Go
namespace Go.Ev
theorem free_eqO {t:List (El T_api_Ins)} {points:List Int} (h:flowOK t=true) (hp:points.length < 4611686018427387904) (s l:Int):
  k_road_Free t points s l=true∧k_ref3_Free t points s l=true∧v_ref3_Free t points s l=v_road_Free t points s l∧v_road_Free t points s l=(decide (0≤l∧l < (t.length:Int))&&endsB t points s l.toNat):=by
 have hl:=flowOK_len h
 have k4:k_ref3_ends t points s=true:=by unfold k_ref3_ends;rw[h,decide_eq_true hp];rfl
 obtain ⟨kr,vr⟩:=free_road h hp s l
 refine ⟨kr,?_,?_,vr⟩
 ·unfold k_ref3_Free
  by_cases h0:l≥0
  ·rw[decide_eq_true h0,cond_true]
   by_cases h1:l < Int.ofNat t.length
   ·have h2:decide (l < Int.ofNat (v_ref3_ends t points s).length)=true:=by
     unfold v_ref3_ends
     rw[rowOf_length];exact decide_eq_true h1
    simp only[decide_eq_true h1,k4,h2,Bool.and_self,Bool.true_and,cond_true]
   ·rw[decide_eq_false h1];rfl
  ·rw[decide_eq_false h0];rfl
 ·rw[vr]
  unfold v_ref3_Free
  by_cases h0:l≥0
  ·rw[decide_eq_true h0,cond_true]
   by_cases h1:l < Int.ofNat t.length
   ·have h2:decide (l < Int.ofNat (v_ref3_ends t points s).length)=true:=by
     unfold v_ref3_ends
     rw[rowOf_length];exact decide_eq_true h1
    simp only[decide_eq_true h1,k4,h2,Bool.and_self,Bool.true_and,cond_true]
    rw[decide_eq_true (show 0≤l∧l < (t.length:Int) from ⟨h0,h1⟩),Bool.true_and]
    unfold v_ref3_ends
    obtain ⟨j,rfl⟩:=Int.eq_ofNat_of_zero_le h0
    rw[Int.toNat_natCast,rowOf_getD (by have:(j:Int) < (t.length:Int):=h1;omega)]
   ·rw[decide_eq_false h1,decide_eq_false (show ¬(0≤l∧l < (t.length:Int)) from fun h=>h1 h.2)];rfl
  ·rw[decide_eq_false h0,decide_eq_false (show ¬(0≤l∧l < (t.length:Int)) from fun h=>h0 h.1)];rfl
end Go.Ev
end

section
open Go Go.Ev
namespace Go.Ev
noncomputable section
end
end Go.Ev
end

section
open Go
namespace Go.Ev
noncomputable def openR (p:El T_api_Prog) (x:El T_api_Pair):Bool:=v_ref3_Free (List.getD p.2 (Int.toNat x.1) (dflt (.sl T_api_Ins))) [] x.2.1 x.2.2
noncomputable def openRK (p:El T_api_Prog) (x:El T_api_Pair):Bool:=(decide ((0:Int)≤x.1)&&decide (x.1 < Int.ofNat (List.length p.2)))&&k_ref3_Free (List.getD p.2 (Int.toNat x.1) (dflt (.sl T_api_Ins))) [] x.2.1 x.2.2
noncomputable def v_ref3_Open (p:El T_api_Prog):List (El T_api_Pair):=(v_ref3_Delays p).filter (openR p)
noncomputable def k_ref3_Open (p:El T_api_Prog):Bool:=k_ref3_Delays p&&(decide ((v_ref3_Delays p).length < 10000000000)&&(v_ref3_Delays p).all (openRK p))
end Go.Ev
end

section
open Go
namespace Go.Ev
end Go.Ev
end

section
open Go
namespace Go.Ev
def fromX (t:List (El T_api_Ins)) (i:Int) (j:Nat):Bool:=(comeL (fun k j=>nextB t (k:Int) j) (nextB t i) t.length).getD j false
theorem fromX_eq (t:List (El T_api_Ins)) (i:Int) (j:Nat):fromB t i j=fromX t i j:=comeL_eq (fun j=>nextB_lt) (fun k j=>nextB_lt) j
def behX (p:El T_api_Prog) (l:List Acc) (c d:Nat):Bool:=
 decide (d < l.length)&&(thA l d==thA l c&&(d==c || ((inA l d==inA l c&&decide (paA l d > paA l c)) || (decide (0≤inA l d)&&fromX (thrOf p l c) (inA l c) (inA l d).toNat))))
theorem behX_eq (p:El T_api_Prog) (l:List Acc) (c d:Nat):behB p l c d=behX p l c d:=by
 unfold behB behX
 rw[fromX_eq]
def chX (p:El T_api_Prog) (l:List Acc) (a i k:Nat):Bool:=decide (k < l.length)&&(!(thA l k==thA l a)&&(clB l i k || behX p l i k))
def isX (p:El T_api_Prog) (l:List Acc) (a k:Nat):Bool:=(comeL (chX p l a) (chS l a) l.length).getD k false
theorem isX_eq (p:El T_api_Prog) (l:List Acc) (a k:Nat):isB p l a k=isX p l a k:=by
 have e:chB p l a=chX p l a:=by
  funext i k
  unfold chB chX
  rw[behX_eq]
 unfold isB isX
 rw[e]
 refine comeL_eq (fun j h=>?_) (fun k j h=>?_) k
 ·unfold chS at h
  rw[Bool.and_eq_true,decide_eq_true_eq] at h
  exact h.1
 ·unfold chX at h
  rw[Bool.and_eq_true,decide_eq_true_eq] at h
  exact h.1
def backX (p:El T_api_Prog) (l:List Acc) (a b:Nat):Bool:=thA l b==thA l a&&(List.range l.length).any fun k=>isX p l a k&&clB l k b
theorem backX_eq (p:El T_api_Prog) (l:List Acc) (a b:Nat):backB p l a b=backX p l a b:=by
 unfold backB backX
 simp only[isX_eq]
end Go.Ev
end

section
open Go
namespace Go.Ev
theorem dels_len (p:El T_api_Prog):(v_ref3_Delays p).length≤(ofC p).length*(ofC p).length:=by
 unfold v_ref3_Delays delsFrom
 have:=flat_len (delS_len p (ofC p)) (List.range' 0 ((ofC p).length - 0))
 rw[List.length_range',Nat.sub_zero] at this
 exact this
theorem dels_mem {p:El T_api_Prog} {x:El T_api_Pair} (h:x∈v_ref3_Delays p):∃s r,s < (ofC p).length∧r < (ofC p).length∧stB' (ofC p) s=true∧delB p (ofC p) s r=true∧x=delPair (ofC p) s r:=by
 unfold v_ref3_Delays delsFrom at h
 obtain ⟨s,hs,hx⟩:=List.mem_flatMap.1 h
 rw[Nat.sub_zero,←List.range_eq_range'] at hs
 unfold delS at hx
 split at hx
 ·rename_i hst
  obtain ⟨r,hr,rfl⟩:=List.mem_map.1 hx
  obtain ⟨hr1,hr2⟩:=List.mem_filter.1 hr
  rw[←List.range_eq_range'] at hr1
  exact ⟨s,r,List.mem_range.1 hs,List.mem_range.1 hr1,hst,hr2,rfl⟩
 ·cases hx
theorem open_fact {p:El T_api_Prog} (h:smallAll p=true) {x:El T_api_Pair} (hx:x∈v_ref3_Delays p):openK p x=true∧openRK p x=true∧openR p x=openB p x:=by
 obtain ⟨s,r,hs,hr,h1,h2,rfl⟩:=dels_mem hx
 obtain ⟨t0,t1,hf,i0,i1⟩:=acc_facts h hs
 have hf':flowOK (List.getD p.2 (Int.toNat (delPair (ofC p) s r).1) (dflt (.sl T_api_Ins)))=true:=hf
 obtain ⟨f1,f2,f3,_⟩:=free_eqO hf' (points:=[]) (by decide) (delPair (ofC p) s r).2.1 (delPair (ofC p) s r).2.2
 have hin:(decide ((0:Int)≤(delPair (ofC p) s r).1)&&decide ((delPair (ofC p) s r).1 < Int.ofNat (List.length p.2)))=true:=by
  rw[Bool.and_eq_true,decide_eq_true_eq,decide_eq_true_eq];exact ⟨t0,t1⟩
 unfold openK openRK openR openB
 rw[hin,f1,f2]
 exact ⟨rfl,rfl,f3⟩
theorem delays_all {p:El T_api_Prog} (h:smallAll p=true) (hN:(ofC p).length≤20000) (hT:p.2.length≤100):
  k_delay_Pairs p=true∧k_ref3_Delays p=true∧v_ref3_Delays p=v_delay_Pairs p∧k_book_SamePairs (v_delay_Pairs p) (v_delay_Pairs p)=true∧k_delay_Open p=true∧k_ref3_Open p=true∧v_ref3_Open p=v_delay_Open p∧k_book_SamePairs (v_delay_Open p) (v_delay_Open p)=true:=by
 have hNN:(ofC p).length*(ofC p).length≤20000*20000:=Nat.mul_le_mul hN hN
 have hTN:p.2.length*((ofC p).length*(ofC p).length)≤100*(20000*20000):=Nat.mul_le_mul hT hNN
 have k1:k_delay_Pairs p=true:=by
  unfold k_delay_Pairs
  rw[h,decide_eq_true (show (ofC p).length < 1000000000 by omega),decide_eq_true (show p.2.length < 1000000000 by omega),decide_eq_true]
  ·rfl
  ·unfold limit;omega
 have k2:k_ref3_Delays p=true:=by unfold k_ref3_Delays;rw[h,decide_eq_true (show (ofC p).length < 1000000 by omega)];rfl
 have e:=delays_eq k1
 have hl:=dels_len p
 have hl2:(v_ref3_Delays p).length≤400000000:=by omega
 have k3:k_delay_Open p=true:=by
  unfold k_delay_Open
  rw[k1,e,decide_eq_true (Nat.lt_of_le_of_lt hl2 (by decide)),Bool.true_and,Bool.true_and]
  exact List.all_eq_true.2 fun x hx=>(open_fact h hx).1
 have k4:k_ref3_Open p=true:=by
  unfold k_ref3_Open
  rw[k2,decide_eq_true (Nat.lt_of_le_of_lt hl2 (by decide)),Bool.true_and,Bool.true_and]
  exact List.all_eq_true.2 fun x hx=>(open_fact h hx).2.1
 have e2:v_ref3_Open p=v_delay_Open p:=by
  unfold v_ref3_Open v_delay_Open
  rw[e]
  exact List.filter_congr fun x hx=>(open_fact h hx).2.2
 refine ⟨k1,k2,e.symm,decide_eq_true (by rw[e];exact Nat.lt_of_le_of_lt hl2 (by decide)),k3,k4,e2,decide_eq_true ?_⟩
 have:(v_delay_Open p).length≤(v_delay_Pairs p).length:=by unfold v_delay_Open;exact List.length_filter_le _ _
 rw[e] at this
 exact Nat.lt_of_le_of_lt (Nat.le_trans this hl2) (by decide)
def delBX (p:El T_api_Prog) (l:List Acc) (s r:Nat):Bool:=((thA l r==thA l s)&&ldB' l r)&&(fromX (thrOf p l s) (inA l s) (inA l r).toNat&&backX p l r s)
def delsX (p:El T_api_Prog) (l:List Acc):List (El T_api_Pair):=(List.range' 0 l.length).flatMap fun s=>if stB' l s then ((List.range' 0 l.length).filter fun r=>delBX p l s r).map (delPair l s) else []
theorem delsX_eq (p:El T_api_Prog):v_ref3_Delays p=delsX p (ofC p):=by
 unfold v_ref3_Delays delsFrom delsX delS
 rw[Nat.sub_zero]
 have:∀l s r,delB p l s r=delBX p l s r:=fun l s r=>by unfold delB delBX;rw[fromX_eq,backX_eq]
 simp only[this]
def endsX (t:List (El T_api_Ins)) (points:List Int) (s:Int) (j:Nat):Bool:=(comeL (stepB t points) (firstB t points s) t.length).getD j false
theorem endsX_eq (t:List (El T_api_Ins)) (points:List Int) (s:Int) (j:Nat):endsB t points s j=endsX t points s j:=comeL_eq (fun j=>firstB_lt) (fun k j=>stepB_lt) j
end Go.Ev
end

section
namespace Go.Ev
open Go
theorem get!_at {zs:List Int} {j:Nat} (h:j < zs.length):zs.toArray[j]! =zs[j]:=by simp[h]
theorem compact_mem {zs:List Int} {x:Int} :x∈Go.Lib.compact zs↔x∈zs:=by
 unfold Go.Lib.compact Go.Lib.compactUpTo
 rw[List.mem_map]
 constructor
 ·rintro ⟨j,hj,rfl⟩
  obtain ⟨h1,_⟩:=List.mem_filter.1 hj
  have hj:=List.mem_range.1 h1
  rw[get!_at hj]
  exact List.getElem_mem hj
 ·intro hx
  obtain ⟨j,hj,he⟩:=List.mem_iff_getElem.1 hx
  induction j using Nat.strongRecOn with
  | _ j ih=>
  by_cases hk:Go.Lib.keeps zs.toArray j=true
  ·exact ⟨j,List.mem_filter.2 ⟨List.mem_range.2 hj,hk⟩,by rw[get!_at hj,he]⟩
  ·unfold Go.Lib.keeps at hk
   simp only[ne_eq,decide_eq_true_eq,not_or,Decidable.not_not] at hk
   obtain ⟨h0,h1⟩:=hk
   have hj':j - 1 < zs.length:=by omega
   rw[get!_at hj,get!_at hj'] at h1
   exact ih (j - 1) (by omega) hj' (h1▸he)
theorem compact_strict {zs:List Int} (h:zs.Pairwise (· ≤ ·)):(Go.Lib.compact zs).Pairwise (· < ·):=by
 unfold Go.Lib.compact Go.Lib.compactUpTo
 have hg:=List.pairwise_iff_getElem.1 h
 refine List.pairwise_map.2 ((List.Pairwise.filter _ List.pairwise_lt_range).imp_of_mem ?_)
 intro i j hi hj hij
 obtain ⟨h1,_⟩:=List.mem_filter.1 hi
 obtain ⟨h2,h3⟩:=List.mem_filter.1 hj
 have hi:=List.mem_range.1 h1
 have hj:=List.mem_range.1 h2
 have hj':j - 1 < zs.length:=by omega
 unfold Go.Lib.keeps at h3
 simp only[ne_eq,decide_eq_true_eq] at h3
 rw[get!_at hi,get!_at hj]
 rw[get!_at hj,get!_at hj'] at h3
 have a1:zs[i]≤zs[j - 1]:=by
  by_cases e:i=j - 1
  ·subst e;exact Int.le_refl _
  ·exact hg i (j - 1) hi hj' (by omega)
 have a2:zs[j - 1]≤zs[j]:=hg (j - 1) j hj' hj (by omega)
 rcases h3 with h3 | h3
 ·omega
 ·have:zs[j]≠zs[j - 1]:=h3
  omega
@[reducible] def risL (l:List Int):List Int:=Go.Lib.compact (sorted l)
theorem sorted_le (l:List Int):(sorted l).Pairwise (· ≤ ·):=by
 have:=List.pairwise_mergeSort (le:=fun x y:Int=>decide (x≤y)) (fun a b c h1 h2=>by simp at*;omega) (fun a b=>by simp;omega) l
 exact this.imp fun h=>by simpa using h
theorem risL_mem {l:List Int} {x:Int} :x∈risL l↔x∈l:=by rw[compact_mem,List.mem_mergeSort]
theorem risL_strict {l:List Int} :(risL l).Pairwise (· < ·):=compact_strict (sorted_le l)
theorem risL_len {l:List Int} :(risL l).length≤l.length:=by
 have:=Go.Lib.compact_length_le (sorted l)
 rwa[List.length_mergeSort] at this
def putL (n:Int):List Int→List Int
 | []=>[n]
 | x :: r=>if x < n then x :: putL n r else if x=n then x :: r else n :: x :: r
theorem putL_mem {n x:Int} :∀ {l:List Int},x∈putL n l↔x=n∨x∈l
 | []=>by simp[putL]
 | y :: r=>by
  unfold putL
  split
  ·rw[List.mem_cons,putL_mem,List.mem_cons]
   constructor
   ·rintro (h | h | h) <;> simp[h]
   ·rintro (h | h | h) <;> simp[h]
  ·split
   ·rename_i h
    subst h
    simp
   ·simp
theorem putL_strict {n:Int} :∀ {l:List Int},l.Pairwise (· < ·)→(putL n l).Pairwise (· < ·)
 | [],_=>by simp[putL]
 | y :: r,h=>by
  obtain ⟨h1,h2⟩:=List.pairwise_cons.1 h
  unfold putL
  split
  ·refine List.pairwise_cons.2 ⟨fun z hz=>?_,putL_strict h2⟩
   rcases putL_mem.1 hz with rfl | hz
   ·assumption
   ·exact h1 z hz
  ·split
   ·exact h
   ·refine List.pairwise_cons.2 ⟨fun z hz=>?_,h⟩
    rcases List.mem_cons.1 hz with rfl | hz
    ·omega
    ·have:=h1 z hz;omega
def putsL (acc:List Int) (l:List Int):List Int:=l.foldl (fun a n=>putL n a) acc
theorem putsL_mem {x:Int} :∀ {l acc:List Int},x∈putsL acc l↔x∈acc∨x∈l
 | [],acc=>by simp[putsL]
 | n :: r,acc=>by
  show x∈putsL (putL n acc) r↔_
  rw[putsL_mem,putL_mem,List.mem_cons]
  constructor
  ·rintro ((h | h) | h) <;> simp[h]
  ·rintro (h | h | h) <;> simp[h]
theorem putsL_strict:∀ {l acc:List Int},acc.Pairwise (· < ·)→(putsL acc l).Pairwise (· < ·)
 | [],acc,h=>h
 | n :: r,acc,h=>putsL_strict (l:=r) (putL_strict h)
end Go.Ev
end

section
open Go
namespace Go.Ev
section
variable {α:Type} (U:List Int→α→Bool)
def stepG (pts:List Int) (l:List α) (acc:Int×List α) (k:Nat):Int×List α:=if (l.filter (U (pts++[(k:Int)]))).length < acc.2.length then ((k:Int),l.filter (U (pts++[(k:Int)]))) else acc
def bestFrom (n:Nat) (pts:List Int) (l:List α) (k:Nat) (acc:Int×List α):Int×List α:=(List.range' k (n - k)).foldl (stepG U pts l) acc
def bestG (n:Nat) (pts:List Int) (l:List α):Int×List α:=bestFrom U n pts l 0 (0,l)
def greedyL (n:Nat):Nat→List Int→List α→List Int
 | 0,pts,_=>pts
 | f+1,pts,l=>if l.length=0 then pts else greedyL n f (pts++[(bestG U n pts l).1]) (bestG U n pts l).2
def pruneL (all:List α):List Int→List Int→List Int
 | done,[]=>done
 | done,x :: r=>if (all.filter (U (done++r))).length=0 then pruneL all done r else pruneL all (done++[x]) r
variable {U}
theorem bestFrom_end {n:Nat} {pts:List Int} {l:List α} {acc:Int×List α} :bestFrom U n pts l n acc=acc:=by unfold bestFrom;rw[Nat.sub_self];rfl
theorem bestFrom_step {n:Nat} {pts:List Int} {l:List α} {k:Nat} (hk:k < n) {acc:Int×List α} :bestFrom U n pts l k acc=bestFrom U n pts l (k+1) (stepG U pts l acc k):=by
 unfold bestFrom
 rw[show n - k=(n - (k+1))+1 by omega,List.range'_succ,List.foldl_cons]
theorem bestFrom_inv {n:Nat} {pts:List Int} {l:List α} :∀(m k:Nat),k+m=n→∀acc:Int×List α,
  ((bestFrom U n pts l k acc)=acc∨∃j:Nat,k≤j∧j < n∧(bestFrom U n pts l k acc).1=(j:Int)∧(bestFrom U n pts l k acc).2=l.filter (U (pts++[(j:Int)]))∧(bestFrom U n pts l k acc).2.length < acc.2.length)∧
  (bestFrom U n pts l k acc).2.length≤acc.2.length∧∀j:Nat,k≤j→j < n→(bestFrom U n pts l k acc).2.length≤(l.filter (U (pts++[(j:Int)]))).length:=by
 intro m
 induction m with
 | zero=>
  intro k hk acc
  have:k=n:=by omega
  subst this
  rw[bestFrom_end]
  exact ⟨.inl rfl,Nat.le_refl _,fun j h1 h2=>by omega⟩
 | succ m ih=>
  intro k hk acc
  rw[bestFrom_step (by omega)]
  obtain ⟨h1,h2,h3⟩:=ih (k+1) (by omega) (stepG U pts l acc k)
  unfold stepG at h1 h2 h3 ⊢
  by_cases hc:(l.filter (U (pts++[(k:Int)]))).length < acc.2.length
  ·rw[if_pos hc] at h1 h2 h3 ⊢
   refine ⟨.inr ?_,by simp only at h2;omega,fun j j1 j2=>?_⟩
   ·rcases h1 with h1 | ⟨j,j1,j2,j3,j4,j5⟩
    ·rw[h1];exact ⟨k,Nat.le_refl _,by omega,rfl,rfl,hc⟩
    ·exact ⟨j,by omega,j2,j3,j4,by simp only at j5;omega⟩
   ·by_cases e:j=k
    ·subst e;exact h2
    ·exact h3 j (by omega) j2
  ·rw[if_neg hc] at h1 h2 h3 ⊢
   refine ⟨?_,h2,fun j j1 j2=>?_⟩
   ·rcases h1 with h1 | ⟨j,j1,j2,j3⟩
    ·exact .inl h1
    ·exact .inr ⟨j,by omega,j2,j3⟩
   ·by_cases e:j=k
    ·subst e;omega
    ·exact h3 j (by omega) j2
def Cuts (U:List Int→α→Bool) (n:Nat) (l:List α):Prop:=∀x∈l,∃k:Nat,k < n∧∀pts:List Int,U (pts++[(k:Int)]) x=false
theorem filter_lt {p:α→Bool} {l:List α} {x:α} (hx:x∈l) (hp:p x=false):(l.filter p).length < l.length:=by
 induction l with
 | nil=>cases hx
 | cons y r ih=>
  rw[List.filter_cons]
  rcases List.mem_cons.1 hx with rfl | hx
  ·rw[hp,if_neg Bool.false_ne_true]
   have:=List.length_filter_le p r
   show (List.filter p r).length < r.length+1
   omega
  ·have:=ih hx
   split
   ·show (List.filter p r).length+1 < r.length+1
    omega
   ·show (List.filter p r).length < r.length+1
    omega
theorem bestG_less {n:Nat} {pts:List Int} {l:List α} (hc:Cuts U n l) (hl:0 < l.length):
  ∃j:Nat,j < n∧(bestG U n pts l).1=(j:Int)∧(bestG U n pts l).2=l.filter (U (pts++[(j:Int)]))∧(bestG U n pts l).2.length < l.length:=by
 obtain ⟨h1,h2,h3⟩:=bestFrom_inv (U:=U) (n:=n) (pts:=pts) (l:=l) n 0 (by omega) (0,l)
 have hx:l[0]∈l:=List.getElem_mem hl
 obtain ⟨k,hk,hU⟩:=hc _ hx
 have h4:=h3 k (Nat.zero_le _) hk
 have h5:=filter_lt hx (hU pts)
 unfold bestG
 rcases h1 with h1 | ⟨j,_,j2,j3,j4,j5⟩
 ·rw[h1] at h4
  simp only at h4
  omega
 ·exact ⟨j,j2,j3,j4,j5⟩
theorem cuts_sub {n:Nat} {l m:List α} (h:Cuts U n l) (hs:∀x∈m,x∈l):Cuts U n m:=fun x hx=>h x (hs x hx)
end
end Go.Ev
end

section
open Go
namespace Go.Ev
abbrev PairD:=El T_api_Pair
theorem len_lt2 {a b:Nat} (h:a < b):decide (Int.ofNat a < Int.ofNat b)=true:=decide_eq_true (Int.ofNat_lt.2 h)
theorem len_nlt2 {a b:Nat} (h:¬a < b):decide (Int.ofNat a < Int.ofNat b)=false:=decide_eq_false fun h'=>h (Int.ofNat_lt.1 h')
theorem toNat_ltN {y:Int} {n:Nat} (h0:0≤y) (h:y < (n:Int)):y.toNat < n:=by omega
noncomputable def uB (t:List (El T_api_Ins)) (pts:List Int) (x:PairD):Bool:=decide ((0:Int)≤x.2.2∧(show Int from x.2.2) < (t.length:Int))&&endsB t pts x.2.1 (Int.toNat x.2.2)
def uX (t:List (El T_api_Ins)) (pts:List Int) (x:PairD):Bool:=decide ((0:Int)≤x.2.2∧(show Int from x.2.2) < (t.length:Int))&&endsX t pts x.2.1 (Int.toNat x.2.2)
theorem uB_eq (t:List (El T_api_Ins)):uB t=uX t:=by
 funext pts x
 unfold uB uX
 rw[endsX_eq]
theorem uB_load {t:List (El T_api_Ins)} {pts:List Int} {x:PairD} (h:(show Int from x.2.2)∈pts):uB t pts x=false:=by
 unfold uB
 by_cases hr:(0:Int)≤x.2.2∧(show Int from x.2.2) < (t.length:Int)
 ·rw[decide_eq_true hr,Bool.true_and,Bool.eq_false_iff]
  intro he
  unfold endsB at he
  have hc:∀j,pts.contains ((j:Nat):Int)=true→firstB t pts x.2.1 j=false∧∀k,stepB t pts k j=false:=fun j hj=>by
   unfold firstB stepB
   rw[hj]
   simp
  have hj:pts.contains (((Int.toNat x.2.2:Nat)):Int)=true:=by
   rw[List.contains_iff_mem,Int.toNat_of_nonneg hr.1]
   exact h
  cases comeB_iff.1 he with
  | start h=>rw[(hc _ hj).1] at h;cases h
  | step _ h=>rw[(hc _ hj).2] at h;cases h
 ·rw[decide_eq_false hr,Bool.false_and]
theorem risL_eq (l:List Int):risL l=putsL [] l:=strict_ext risL_strict (putsL_strict .nil) fun x=>by rw[risL_mem,putsL_mem];simp
def ofB (t:Int) (x:PairD):Bool:=(show Int from x.1)==t
def missL (U:List Int→PairD→Bool) (pts:List Int) (l:List PairD):List PairD:=l.filter (U pts)
def inR (n:Nat) (k:Int):Bool:=decide (0≤k)&&decide (k < (n:Int))
def pruneV (U:List Int→PairD→Bool) (n:Nat) (all:List PairD) (pts:List Int):List Int:=pruneL U all [] (putsL [] (pts.filter (inR n)))
def greedyV (U:List Int→PairD→Bool) (n:Nat) (l:List PairD):List Int:=putsL [] (greedyL U n l.length [] l)
def shorter (a b:List Int):List Int:=if b.length < a.length then b else a
def pointsV (U:List Int→PairD→Bool) (n:Nat) (all op:List PairD):List Int:=
 shorter (shorter (pruneV U n all (greedyV U n op)) (pruneV U n all (op.map fun x=>(show Int from x.2.1)+1))) (pruneV U n all (op.map fun x=>x.2.2))
def cutOK (p:El T_api_Prog):Bool:=smallAll p&&(decide ((ofC p).length≤20000)&&decide (p.2.length≤100))
def thrT (p:El T_api_Prog) (t:Int):List (El T_api_Ins):=List.getD p.2 (Int.toNat t) (dflt (.sl T_api_Ins))
def rightT (p:El T_api_Prog) (t:Int):Bool:=decide ((0:Int)≤t)&&(decide (t < (p.2.length:Int))&&decide (checkC p=0))
end Go.Ev
end

section
open Go
namespace Go.Ev
def v_cut_of (l:List (El T_api_Pair)) (t:Int):List (El T_api_Pair):=l.filter (ofB t)
def k_cut_of (l:List (El T_api_Pair)) (t:Int):Bool:=decide (l.length < 1000000000000)
theorem g_cut_of (l:List (El T_api_Pair)) (t:Int) (hk:k_cut_of l t=true):Goes (T_cut_of l t) (T0_cut_of l t) (v_cut_of l t):=by
 have hN:=of_decide_eq_true hk
 have loop:∀k,k≤l.length→∀out:List (El T_api_Pair),out.length≤k→Goes (T_cut_of l t) (.jmp (.l4 (k:Int) out)) (out++(l.drop k).filter (ofB t)):=by
  refine down ?_ fun k hk ih=>?_
  ·intro out ho
   rw[goes_jmp,T_cut_of,goes_br,if_neg (by rw[lt_len_not (Nat.lt_irrefl _)];decide),List.drop_length]
   simp only[List.filter_nil,List.append_nil]
   exact .leaf
  ·intro out ho
   have b1:Nat.ble ((out.length+1)*24) limit=true:=Nat.ble_eq_true_of_le (by unfold limit;omega)
   rw[goes_jmp,T_cut_of,drop_cons hk,List.filter_cons]
   simp only[goes_br,lt_len hk,nng,Bool.and_self,if_true,Int.toNat_natCast,getD_lt hk,b1,wrap_succ (k:=k) (by omega)]
   by_cases c:ofB t l[k]=true
   ·have c':=c
    unfold ofB at c'
    rw[if_pos c',if_pos c]
    have:=ih (out++[l[k]]) (by simp;omega)
    rw[List.append_assoc] at this
    exact this
   ·have c':=c
    unfold ofB at c'
    rw[if_neg c',if_neg c]
    exact ih out (by omega)
 have:=loop 0 (Nat.zero_le _) [] (Nat.zero_le _)
 rw[List.nil_append,List.drop_zero] at this
 exact this
end Go.Ev
end

section
open Go Go.Ev
namespace Go.Ev
noncomputable section
noncomputable def e_cut_of:Run:=entG sg_cut_of R_cut_of (fun a=>k_cut_of a.1 a.2.1) (fun a=>v_cut_of a.1 a.2.1)
theorem ok_cut_of:EntOK Go.Proofs.Tryz.prog 25 e_cut_of:=entG_ok (tb:=tb_cut_of) (c:=c_cut_of) tk_cut_of (by kernel_rfl) (by kernel_rfl) (by kernel_rfl) (fun a=>by kernel_rfl) fun ⟨l,t,_⟩ hk=>evF_goes (c:=c_cut_of) (K:=fun v=>(R_cut_of v,tps (toForms sg_cut_of (l,t,())))) (S:=S_cut_of l t) (by kernel_rfl) (en_cut_of l t) (lp_cut_of l t) (g_cut_of l t hk)
end
end Go.Ev
end

section
open Go Go.Ev
namespace Go.Ev
def renClo:Go.Shelf.Ren:=⟨fun n=>if n=15 then 61 else n,
 fun n=>if n=22 then 23 else n,
 fun n=>n⟩
theorem renClo_lays:Go.Proofs.Lays2.n15 Go.Proofs.Tryz.prog renClo where
 mixed:=by kernel_rfl
 f15:=by kernel_rfl
 t3:=by kernel_rfl
 a3:=fun w=>by kernel_rfl
 z3:=fun w=>by kernel_rfl
 v3:=fun w=>by kernel_rfl
 t4:=by kernel_rfl
 a4:=fun w=>by kernel_rfl
 z4:=fun w=>by kernel_rfl
 v4:=fun w=>by kernel_rfl
 t22:=by kernel_rfl
 a22:=fun w=>by kernel_rfl
 z22:=fun w=>by kernel_rfl
 v22:=fun w=>by kernel_rfl
 i3:=by kernel_rfl
theorem cloOK:CloneOK Go.Proofs.Tryz.prog 61 3:=⟨fun b off n c zs w h1 h2 h3=>Go.Proofs.Any.slices_Clone_int renClo_lays b off n c zs w h1 h2 h3,fun n c w=>Go.Proofs.Any.slices_Clone_int_nil renClo_lays n c w,fun a c w=>Go.Proofs.Any.slices_Clone_int_zero renClo_lays a c w⟩
noncomputable section
def sg_slices_Clone___int_int_:Sig:=[(false,.sl (.int .i64))]
def v_slices_Clone___int_int_ (l:List Int):List Int:=l
def k_slices_Clone___int_int_ (l:List Int):Bool:=decide (l.length*8≤140737488355328)
def R_slices_Clone___int_int_:List Int→AV:=fun r=>.rw 3 (.int .i64) r
def e_slices_Clone___int_int_:Run:=entG sg_slices_Clone___int_int_ R_slices_Clone___int_int_ (fun a=>k_slices_Clone___int_int_ a.1) (fun a=>v_slices_Clone___int_int_ a.1)
theorem ok_slices_Clone___int_int_:EntOK Go.Proofs.Tryz.prog 61 e_slices_Clone___int_int_:=entG_hand (known_of (fn:=Go.Proofs.Tryz.f61) (c:=Go.Proofs.Tryz.f61.body.getD .skip) (by kernel_rfl) (by kernel_rfl) (by kernel_rfl)) fun a h=>clone_call cloOK a.1 (of_decide_eq_true h)
end
end Go.Ev
end

section
open Go Go.Ev
namespace Go.Ev
noncomputable section
def sg_cmp_isNaN_int_:Sig:=[(false,(.int .i64))]
noncomputable def t_cmp_isNaN_int_:Tbl:=[]
theorem tk_cmp_isNaN_int_:∀p∈t_cmp_isNaN_int_,EntOK Go.Proofs.Tryz.prog p.1 p.2:=tbl_nil
noncomputable def c_cmp_isNaN_int_:Code:=Go.Proofs.Tryz.f114.body.getD .skip
def tb_cmp_isNaN_int_:Tb:=[]
def T_cmp_isNaN_int_ (x:Int):Empty→JT Empty (Bool):=fun j=>nomatch j
def T0_cmp_isNaN_int_ (x:Int):JT Empty (Bool):=.leaf (x !=x)
def v_cmp_isNaN_int_ (x:Int):Bool:=(x !=x)
theorem g_cmp_isNaN_int_ (x:Int):Goes (T_cmp_isNaN_int_ x) (T0_cmp_isNaN_int_ x) (v_cmp_isNaN_int_ x):=Goes.leaf
def R_cmp_isNaN_int_:Bool→AV:=fun (r:Bool)=>.d .bool r
def S_cmp_isNaN_int_ (x:Int):Empty→Nat×St:=fun j=>nomatch j
theorem en_cmp_isNaN_int_ (x:Int) (L:Lt):entryA Go.Proofs.Tryz.prog (clOf t_cmp_isNaN_int_) tb_cmp_isNaN_int_ Go.Proofs.Tryz.f114 c_cmp_isNaN_int_ L (toForms sg_cmp_isNaN_int_ (x,()))=(T0_cmp_isNaN_int_ x).run (fun v=>some (R_cmp_isNaN_int_ v,tps (toForms sg_cmp_isNaN_int_ (x,())))) fun j=>L (S_cmp_isNaN_int_ x j).1 (S_cmp_isNaN_int_ x j).2:=by kernel_rfl
theorem lp_cmp_isNaN_int_ (x:Int):∀(L:Lt) (j:Empty),procOf (procsF Go.Proofs.Tryz.prog (clOf t_cmp_isNaN_int_) tb_cmp_isNaN_int_ Go.Proofs.Tryz.f114 c_cmp_isNaN_int_ (toForms sg_cmp_isNaN_int_ (x,()))) (S_cmp_isNaN_int_ x j).1 L (S_cmp_isNaN_int_ x j).2=(T_cmp_isNaN_int_ x j).run (fun v=>some (R_cmp_isNaN_int_ v,tps (toForms sg_cmp_isNaN_int_ (x,())))) fun j=>L (S_cmp_isNaN_int_ x j).1 (S_cmp_isNaN_int_ x j).2:=fun L j=>nomatch j
noncomputable def e_cmp_isNaN_int_:Run:=entT sg_cmp_isNaN_int_ R_cmp_isNaN_int_ (fun a=>v_cmp_isNaN_int_ a.1)
theorem ok_cmp_isNaN_int_:EntOK Go.Proofs.Tryz.prog 114 e_cmp_isNaN_int_:=entT_ok (tb:=tb_cmp_isNaN_int_) (c:=c_cmp_isNaN_int_) tk_cmp_isNaN_int_ (by kernel_rfl) (by kernel_rfl) (by kernel_rfl) (fun a=>by kernel_rfl) fun ⟨x,_⟩=>evF_goes (c:=c_cmp_isNaN_int_) (K:=fun v=>(R_cmp_isNaN_int_ v,tps (toForms sg_cmp_isNaN_int_ (x,())))) (S:=S_cmp_isNaN_int_ x) (by kernel_rfl) (en_cmp_isNaN_int_ x) (lp_cmp_isNaN_int_ x) (g_cmp_isNaN_int_ x)
end
end Go.Ev
end

section
open Go Go.Ev
namespace Go.Ev
noncomputable section
def sg_cmp_Less_int_:Sig:=[(false,(.int .i64)),(false,(.int .i64))]
noncomputable def t_cmp_Less_int_:Tbl:=[(114,e_cmp_isNaN_int_)]
theorem tk_cmp_Less_int_:∀p∈t_cmp_Less_int_,EntOK Go.Proofs.Tryz.prog p.1 p.2:=tbl_cons ok_cmp_isNaN_int_ (tbl_nil)
noncomputable def c_cmp_Less_int_:Code:=Go.Proofs.Tryz.f81.body.getD .skip
def tb_cmp_Less_int_:Tb:=[]
def T_cmp_Less_int_ (x:Int) (y:Int):Empty→JT Empty (Bool):=fun j=>nomatch j
def T0_cmp_Less_int_ (x:Int) (y:Int):JT Empty (Bool):=.br (v_cmp_isNaN_int_ x) (.br (! (v_cmp_isNaN_int_ y)) (.leaf true) (.leaf (decide (x < y)))) (.leaf (decide (x < y)))
def v_cmp_Less_int_ (x:Int) (y:Int):Bool:=bif (v_cmp_isNaN_int_ x) then bif (! (v_cmp_isNaN_int_ y)) then true else (decide (x < y)) else (decide (x < y))
theorem g_cmp_Less_int_ (x:Int) (y:Int):Goes (T_cmp_Less_int_ x y) (T0_cmp_Less_int_ x y) (v_cmp_Less_int_ x y):=Goes.br (Goes.br (Goes.leaf) (Goes.leaf)) (Goes.leaf)
def R_cmp_Less_int_:Bool→AV:=fun (r:Bool)=>.d .bool r
def S_cmp_Less_int_ (x:Int) (y:Int):Empty→Nat×St:=fun j=>nomatch j
theorem en_cmp_Less_int_ (x:Int) (y:Int) (L:Lt):entryA Go.Proofs.Tryz.prog (clOf t_cmp_Less_int_) tb_cmp_Less_int_ Go.Proofs.Tryz.f81 c_cmp_Less_int_ L (toForms sg_cmp_Less_int_ (x,y,()))=(T0_cmp_Less_int_ x y).run (fun v=>some (R_cmp_Less_int_ v,tps (toForms sg_cmp_Less_int_ (x,y,())))) fun j=>L (S_cmp_Less_int_ x y j).1 (S_cmp_Less_int_ x y j).2:=by kernel_rfl
theorem lp_cmp_Less_int_ (x:Int) (y:Int):∀(L:Lt) (j:Empty),procOf (procsF Go.Proofs.Tryz.prog (clOf t_cmp_Less_int_) tb_cmp_Less_int_ Go.Proofs.Tryz.f81 c_cmp_Less_int_ (toForms sg_cmp_Less_int_ (x,y,()))) (S_cmp_Less_int_ x y j).1 L (S_cmp_Less_int_ x y j).2=(T_cmp_Less_int_ x y j).run (fun v=>some (R_cmp_Less_int_ v,tps (toForms sg_cmp_Less_int_ (x,y,())))) fun j=>L (S_cmp_Less_int_ x y j).1 (S_cmp_Less_int_ x y j).2:=fun L j=>nomatch j
noncomputable def e_cmp_Less_int_:Run:=entT sg_cmp_Less_int_ R_cmp_Less_int_ (fun a=>v_cmp_Less_int_ a.1 a.2.1)
theorem ok_cmp_Less_int_:EntOK Go.Proofs.Tryz.prog 81 e_cmp_Less_int_:=entT_ok (tb:=tb_cmp_Less_int_) (c:=c_cmp_Less_int_) tk_cmp_Less_int_ (by kernel_rfl) (by kernel_rfl) (by kernel_rfl) (fun a=>by kernel_rfl) fun ⟨x,y,_⟩=>evF_goes (c:=c_cmp_Less_int_) (K:=fun v=>(R_cmp_Less_int_ v,tps (toForms sg_cmp_Less_int_ (x,y,())))) (S:=S_cmp_Less_int_ x y) (by kernel_rfl) (en_cmp_Less_int_ x y) (lp_cmp_Less_int_ x y) (g_cmp_Less_int_ x y)
end
end Go.Ev
end

section
open Go Go.Ev
namespace Go.Ev
noncomputable section
def sg_slices_isNaN_int_:Sig:=[(false,(.int .i64))]
noncomputable def t_slices_isNaN_int_:Tbl:=[]
theorem tk_slices_isNaN_int_:∀p∈t_slices_isNaN_int_,EntOK Go.Proofs.Tryz.prog p.1 p.2:=tbl_nil
noncomputable def c_slices_isNaN_int_:Code:=Go.Proofs.Tryz.f82.body.getD .skip
def tb_slices_isNaN_int_:Tb:=[]
def T_slices_isNaN_int_ (x:Int):Empty→JT Empty (Bool):=fun j=>nomatch j
def T0_slices_isNaN_int_ (x:Int):JT Empty (Bool):=.leaf (x !=x)
def v_slices_isNaN_int_ (x:Int):Bool:=(x !=x)
theorem g_slices_isNaN_int_ (x:Int):Goes (T_slices_isNaN_int_ x) (T0_slices_isNaN_int_ x) (v_slices_isNaN_int_ x):=Goes.leaf
def R_slices_isNaN_int_:Bool→AV:=fun (r:Bool)=>.d .bool r
def S_slices_isNaN_int_ (x:Int):Empty→Nat×St:=fun j=>nomatch j
theorem en_slices_isNaN_int_ (x:Int) (L:Lt):entryA Go.Proofs.Tryz.prog (clOf t_slices_isNaN_int_) tb_slices_isNaN_int_ Go.Proofs.Tryz.f82 c_slices_isNaN_int_ L (toForms sg_slices_isNaN_int_ (x,()))=(T0_slices_isNaN_int_ x).run (fun v=>some (R_slices_isNaN_int_ v,tps (toForms sg_slices_isNaN_int_ (x,())))) fun j=>L (S_slices_isNaN_int_ x j).1 (S_slices_isNaN_int_ x j).2:=by kernel_rfl
theorem lp_slices_isNaN_int_ (x:Int):∀(L:Lt) (j:Empty),procOf (procsF Go.Proofs.Tryz.prog (clOf t_slices_isNaN_int_) tb_slices_isNaN_int_ Go.Proofs.Tryz.f82 c_slices_isNaN_int_ (toForms sg_slices_isNaN_int_ (x,()))) (S_slices_isNaN_int_ x j).1 L (S_slices_isNaN_int_ x j).2=(T_slices_isNaN_int_ x j).run (fun v=>some (R_slices_isNaN_int_ v,tps (toForms sg_slices_isNaN_int_ (x,())))) fun j=>L (S_slices_isNaN_int_ x j).1 (S_slices_isNaN_int_ x j).2:=fun L j=>nomatch j
noncomputable def e_slices_isNaN_int_:Run:=entT sg_slices_isNaN_int_ R_slices_isNaN_int_ (fun a=>v_slices_isNaN_int_ a.1)
theorem ok_slices_isNaN_int_:EntOK Go.Proofs.Tryz.prog 82 e_slices_isNaN_int_:=entT_ok (tb:=tb_slices_isNaN_int_) (c:=c_slices_isNaN_int_) tk_slices_isNaN_int_ (by kernel_rfl) (by kernel_rfl) (by kernel_rfl) (fun a=>by kernel_rfl) fun ⟨x,_⟩=>evF_goes (c:=c_slices_isNaN_int_) (K:=fun v=>(R_slices_isNaN_int_ v,tps (toForms sg_slices_isNaN_int_ (x,())))) (S:=S_slices_isNaN_int_ x) (by kernel_rfl) (en_slices_isNaN_int_ x) (lp_slices_isNaN_int_ x) (g_slices_isNaN_int_ x)
end
end Go.Ev
end

section
open Go Go.Ev
namespace Go.Ev
noncomputable section
def sg_slices_BinarySearch___int_int_:Sig:=[(false,(.sl (.int .i64))),(false,(.int .i64))]
noncomputable def t_slices_BinarySearch___int_int_:Tbl:=[(81,e_cmp_Less_int_),(82,e_slices_isNaN_int_)]
theorem tk_slices_BinarySearch___int_int_:∀p∈t_slices_BinarySearch___int_int_,EntOK Go.Proofs.Tryz.prog p.1 p.2:=tbl_cons ok_cmp_Less_int_ (tbl_cons ok_slices_isNaN_int_ (tbl_nil))
noncomputable def c_slices_BinarySearch___int_int_:Code:=Go.Proofs.Tryz.f48.body.getD .skip
def tb_slices_BinarySearch___int_int_:Tb:=[(4,⟨[0,1,6,7,8,42,48,50,51],[]⟩)]
inductive J_slices_BinarySearch___int_int_ where | l4 (i:Int) (j_:Int)
def T_slices_BinarySearch___int_int_ (x:List Int) (target:Int):J_slices_BinarySearch___int_int_→JT J_slices_BinarySearch___int_int_ (Int×Bool) |.l4 i j_=>.br (decide (i < j_)) (.br ((decide ((0:Int)≤(IntKind.i64.wrap (Int.fdiv (IntKind.u64.wrap (IntKind.i64.wrap (i+j_))) (2 ^ (min 1 (IntKind.u64).bits))))))&&(decide ((IntKind.i64.wrap (Int.fdiv (IntKind.u64.wrap (IntKind.i64.wrap (i+j_))) (2 ^ (min 1 (IntKind.u64).bits)))) < (Int.ofNat (List.length x))))) (.br (v_cmp_Less_int_ (List.getD x (Int.toNat (IntKind.i64.wrap (Int.fdiv (IntKind.u64.wrap (IntKind.i64.wrap (i+j_))) (2 ^ (min 1 (IntKind.u64).bits))))) (dflt (.int .i64))) target) (.jmp (.l4 (IntKind.i64.wrap ((IntKind.i64.wrap (Int.fdiv (IntKind.u64.wrap (IntKind.i64.wrap (i+j_))) (2 ^ (min 1 (IntKind.u64).bits))))+(1:Int))) j_)) (.jmp (.l4 i (IntKind.i64.wrap (Int.fdiv (IntKind.u64.wrap (IntKind.i64.wrap (i+j_))) (2 ^ (min 1 (IntKind.u64).bits))))))) (.no)) (.br (decide (i < (Int.ofNat (List.length x)))) (.br ((decide ((0:Int)≤i))&&(decide (i < (Int.ofNat (List.length x))))) (.br ((List.getD x (Int.toNat i) (dflt (.int .i64)))==target) (.leaf (i,true)) (.br ((decide ((0:Int)≤i))&&(decide (i < (Int.ofNat (List.length x))))) (.br (v_slices_isNaN_int_ (List.getD x (Int.toNat i) (dflt (.int .i64)))) (.leaf (i,(v_slices_isNaN_int_ target))) (.leaf (i,false))) (.no))) (.no)) (.leaf (i,false)))
def T0_slices_BinarySearch___int_int_ (x:List Int) (target:Int):JT J_slices_BinarySearch___int_int_ (Int×Bool):=.jmp (.l4 (0:Int) (Int.ofNat (List.length x)))
def R_slices_BinarySearch___int_int_:Int×Bool→AV:=fun (r:Int×Bool)=>.tu [.d (.int .i64) r.1,.d .bool r.2]
def S_slices_BinarySearch___int_int_ (x:List Int) (target:Int):J_slices_BinarySearch___int_int_→Nat×St |.l4 i j_=>(4,⟨mkTm 54 [(0,.d (.sl (.int .i64)) x),(1,.d (.int .i64) target),(6,.d (.int .i64) (Int.ofNat (List.length x))),(7,.d (.int .i64) i),(8,.d (.int .i64) j_)],[]⟩)
theorem en_slices_BinarySearch___int_int_ (x:List Int) (target:Int) (L:Lt):entryA Go.Proofs.Tryz.prog (clOf t_slices_BinarySearch___int_int_) tb_slices_BinarySearch___int_int_ Go.Proofs.Tryz.f48 c_slices_BinarySearch___int_int_ L (toForms sg_slices_BinarySearch___int_int_ (x,target,()))=(T0_slices_BinarySearch___int_int_ x target).run (fun v=>some (R_slices_BinarySearch___int_int_ v,tps (toForms sg_slices_BinarySearch___int_int_ (x,target,())))) fun j=>L (S_slices_BinarySearch___int_int_ x target j).1 (S_slices_BinarySearch___int_int_ x target j).2:=by kernel_rfl
theorem lp_slices_BinarySearch___int_int_ (x:List Int) (target:Int):∀(L:Lt) (j:J_slices_BinarySearch___int_int_),procOf (procsF Go.Proofs.Tryz.prog (clOf t_slices_BinarySearch___int_int_) tb_slices_BinarySearch___int_int_ Go.Proofs.Tryz.f48 c_slices_BinarySearch___int_int_ (toForms sg_slices_BinarySearch___int_int_ (x,target,()))) (S_slices_BinarySearch___int_int_ x target j).1 L (S_slices_BinarySearch___int_int_ x target j).2=(T_slices_BinarySearch___int_int_ x target j).run (fun v=>some (R_slices_BinarySearch___int_int_ v,tps (toForms sg_slices_BinarySearch___int_int_ (x,target,())))) fun j=>L (S_slices_BinarySearch___int_int_ x target j).1 (S_slices_BinarySearch___int_int_ x target j).2 | L,.l4 i j_=>by kernel_rfl
end
end Go.Ev
end

section
open Go
namespace Go.Ev
def v_slices_BinarySearch___int_int_ (x:List Int) (target:Int):Int×Bool:=(((x.countP fun y=>decide (y < target)):Nat),x.contains target)
def k_slices_BinarySearch___int_int_ (x:List Int) (target:Int):Bool:=decide (x.Pairwise (· < ·))&&decide (x.length < 4611686018427387904)
theorem mid_eq {a b:Nat} (h:a+b < 9223372036854775807):IntKind.i64.wrap (Int.fdiv (IntKind.u64.wrap (IntKind.i64.wrap ((a:Int)+(b:Int)))) (2 ^ (min 1 (IntKind.u64).bits)))=(((a+b) / 2:Nat):Int):=by
 have e1:IntKind.i64.wrap ((a:Int)+(b:Int))=((a+b:Nat):Int):=by rw[wrap_i64 (by omega) (by omega)];omega
 have e2:IntKind.u64.wrap ((a+b:Nat):Int)=((a+b:Nat):Int):=wrapU_lt (by omega)
 have e3:(2:Int) ^ (min 1 (IntKind.u64).bits)=2:=by decide
 rw[e1,e2,e3,Int.fdiv_eq_ediv_of_nonneg _ (by decide),wrap_i64 (by omega) (by omega)]
 omega
theorem countP_split {x:List Int} {t:Int} {lo:Nat} (hlo:lo≤x.length) (h1:∀j (h:j < x.length),j < lo→x[j] < t) (h2:∀j (h:j < x.length),lo≤j→t≤x[j]):(x.countP fun y=>decide (y < t))=lo:=by
 have e:x=x.take lo++x.drop lo:=(List.take_append_drop lo x).symm
 rw[e,List.countP_append]
 have a:(x.take lo).countP (fun y=>decide (y < t))=lo:=by
  have:(x.take lo).countP (fun y=>decide (y < t))=(x.take lo).length:=List.countP_eq_length.2 fun y hy=>by
   obtain ⟨j,hj,rfl⟩:=List.mem_iff_getElem.1 hy
   rw[List.getElem_take]
   rw[List.length_take] at hj
   exact decide_eq_true (h1 j (by omega) (by omega))
  rw[this,List.length_take];omega
 have b:(x.drop lo).countP (fun y=>decide (y < t))=0:=List.countP_eq_zero.2 fun y hy=>by
  obtain ⟨j,hj,rfl⟩:=List.mem_iff_getElem.1 hy
  rw[List.getElem_drop]
  rw[List.length_drop] at hj
  have:=h2 (lo+j) (by omega) (by omega)
  simpa using this
 rw[a,b,Nat.add_zero]
theorem g_slices_BinarySearch___int_int_ (x:List Int) (target:Int) (hk:k_slices_BinarySearch___int_int_ x target=true):Goes (T_slices_BinarySearch___int_int_ x target) (T0_slices_BinarySearch___int_int_ x target) (v_slices_BinarySearch___int_int_ x target):=by
 unfold k_slices_BinarySearch___int_int_ at hk
 rw[Bool.and_eq_true,decide_eq_true_eq,decide_eq_true_eq] at hk
 obtain ⟨hp,hn⟩:=hk
 have hg:=List.pairwise_iff_getElem.1 hp
 have vless:∀a b:Int,v_cmp_Less_int_ a b=decide (a < b):=fun a b=>by
  unfold v_cmp_Less_int_ v_cmp_isNaN_int_
  simp
 have vnan:∀a:Int,v_slices_isNaN_int_ a=false:=fun a=>by unfold v_slices_isNaN_int_;simp
 have fin:∀lo:Nat,lo≤x.length→(∀j (h:j < x.length),j < lo→x[j] < target)→(∀j (h:j < x.length),lo≤j→target≤x[j])→Goes (T_slices_BinarySearch___int_int_ x target) (.jmp (.l4 (lo:Int) (lo:Int))) (v_slices_BinarySearch___int_int_ x target):=by
  intro lo hlo h1 h2
  have hc:=countP_split hlo h1 h2
  have hv:v_slices_BinarySearch___int_int_ x target=((lo:Int),x.contains target):=by unfold v_slices_BinarySearch___int_int_;rw[hc]
  rw[hv,goes_jmp,T_slices_BinarySearch___int_int_,goes_br,if_neg (by simp),goes_br]
  have hcon:∀h:lo < x.length,x[lo]≠target→x.contains target=false:=fun h hne=>by
   rw[Bool.eq_false_iff]
   intro hm
   rw[List.contains_iff_mem] at hm
   obtain ⟨j,hj,he⟩:=List.mem_iff_getElem.1 hm
   rcases Nat.lt_trichotomy j lo with hjl | rfl | hjl
   ·have:=h1 j hj hjl;omega
   ·exact hne he
   ·have:=hg lo j h hj hjl
    have:=h2 lo h (Nat.le_refl _)
    omega
  by_cases hl:lo < x.length
  ·rw[if_pos (lt_len hl)]
   simp only[goes_br,nng,lt_len hl,Bool.and_self,if_true,Int.toNat_natCast,getD_lt hl,vnan]
   by_cases he:x[lo]=target
   ·rw[if_pos (by simpa using he),show x.contains target=true from List.contains_iff_mem.2 (he▸List.getElem_mem hl)]
    exact .leaf
   ·rw[if_neg (by simpa using he),if_neg (by decide),hcon hl he]
    exact .leaf
  ·have:lo=x.length:=by omega
   subst this
   rw[if_neg (by rw[lt_len_not (Nat.lt_irrefl _)];decide)]
   have:x.contains target=false:=by
    rw[Bool.eq_false_iff]
    intro hm
    rw[List.contains_iff_mem] at hm
    obtain ⟨j,hj,he⟩:=List.mem_iff_getElem.1 hm
    have:=h1 j hj hj
    omega
   rw[this]
   exact .leaf
 have loop:∀m lo hi:Nat,hi - lo≤m→lo≤hi→hi≤x.length→(∀j (h:j < x.length),j < lo→x[j] < target)→(∀j (h:j < x.length),hi≤j→target≤x[j])→Goes (T_slices_BinarySearch___int_int_ x target) (.jmp (.l4 (lo:Int) (hi:Int))) (v_slices_BinarySearch___int_int_ x target):=by
  intro m
  induction m with
  | zero=>
   intro lo hi hm hlh hhi h1 h2
   have:lo=hi:=by omega
   subst this
   exact fin lo hhi h1 h2
  | succ m ih=>
   intro lo hi hm hlh hhi h1 h2
   by_cases he:lo=hi
   ·subst he
    exact fin lo hhi h1 h2
   have hlt:lo < hi:=by omega
   have hM:(lo+hi) / 2 < x.length:=by omega
   rw[goes_jmp,T_slices_BinarySearch___int_int_,mid_eq (by omega),goes_br,if_pos (decide_eq_true (by omega))]
   simp only[goes_br,nng,lt_len hM,Bool.and_self,if_true,Int.toNat_natCast,getD_lt hM,vless]
   by_cases c:x[(lo+hi) / 2] < target
   ·rw[if_pos (decide_eq_true c),wrap_succ (by omega)]
    refine ih _ _ (by omega) (by omega) hhi (fun j h hj=>?_) h2
    by_cases e:j=(lo+hi) / 2
    ·subst e;exact c
    ·have:=hg j ((lo+hi) / 2) h hM (by omega)
     omega
   ·rw[if_neg (by simpa using c)]
    refine ih _ _ (by omega) (by omega) (by omega) h1 (fun j h hj=>?_)
    by_cases e:j=(lo+hi) / 2
    ·subst e;omega
    ·have:=hg ((lo+hi) / 2) j hM h (by omega)
     omega
 exact loop x.length 0 x.length (by omega) (by omega) (Nat.le_refl _) (fun j h hj=>absurd hj (Nat.not_lt_zero _)) (fun j h hj=>absurd h (by omega))
end Go.Ev
end

section
open Go Go.Ev
namespace Go.Ev
noncomputable section
noncomputable def e_slices_BinarySearch___int_int_:Run:=entG sg_slices_BinarySearch___int_int_ R_slices_BinarySearch___int_int_ (fun a=>k_slices_BinarySearch___int_int_ a.1 a.2.1) (fun a=>v_slices_BinarySearch___int_int_ a.1 a.2.1)
theorem ok_slices_BinarySearch___int_int_:EntOK Go.Proofs.Tryz.prog 48 e_slices_BinarySearch___int_int_:=entG_ok (tb:=tb_slices_BinarySearch___int_int_) (c:=c_slices_BinarySearch___int_int_) tk_slices_BinarySearch___int_int_ (by kernel_rfl) (by kernel_rfl) (by kernel_rfl) (fun a=>by kernel_rfl) fun ⟨x,target,_⟩ hk=>evF_goes (c:=c_slices_BinarySearch___int_int_) (K:=fun v=>(R_slices_BinarySearch___int_int_ v,tps (toForms sg_slices_BinarySearch___int_int_ (x,target,())))) (S:=S_slices_BinarySearch___int_int_ x target) (by kernel_rfl) (en_slices_BinarySearch___int_int_ x target) (lp_slices_BinarySearch___int_int_ x target) (g_slices_BinarySearch___int_int_ x target hk)
end
end Go.Ev
end

section
open Go Go.Ev
namespace Go.Ev
noncomputable section
abbrev mProg:Program:=Go.Proofs.Tryz.prog
noncomputable def msB:Code:=Go.Proofs.Tryz.f24.body.getD .skip
noncomputable def mlR1 (K:Code):Code:=fstC (innC (innC K))
noncomputable def mlB (K:Code):Code:=innC (fstC (sndC (sndC (innC (innC K)))))
noncomputable def mlR2 (K:Code):Code:=sndC (sndC (sndC (innC (innC K))))
noncomputable def ms0:Code:=fstC msB
noncomputable def ms1:Code:=fstC (sndC msB)
noncomputable def ms2:Code:=fstC (sndC (sndC msB))
noncomputable def ms3:Code:=fstC (fstC (sndC (sndC (sndC msB))))
noncomputable def msK:Code:=sndC (fstC (sndC (sndC (sndC msB))))
noncomputable def msE:Code:=fstC (sndC (sndC (sndC (sndC msB))))
noncomputable def msT:Tbl:=[(47,e_road_Ends),(48,e_slices_BinarySearch___int_int_)]
theorem msT_ok:∀p∈msT,EntOK Go.Proofs.Tryz.prog p.1 p.2:=tbl_cons ok_road_Ends (tbl_cons ok_slices_BinarySearch___int_int_ tbl_nil)
theorem mcl:Spec mProg (clOf msT)∧DetC (clOf msT):=clOf_ok msT_ok
theorem msB_eq:msB=.seq ms0 (.seq ms1 (.seq (.region (ridC ms2) (ropsC ms2) false) (.seq (.seq ms3 msK) (.seq msE .ret)))):=by kernel_rfl
theorem msK_eq:msK=.block 0 (.loop (.seq (mlR1 msK) (.seq (.cond (.tmp 19) .skip (.exit 0)) (.seq (.block 1 (mlB msK)) (mlR2 msK))))):=by kernel_rfl
noncomputable def ms4:Code:=fstC (mlB msK)
noncomputable def ms5:Code:=fstC (sndC (mlB msK))
noncomputable def ms6:Code:=fstC (fstC (sndC (sndC (mlB msK))))
noncomputable def msX:Code:=thenC (sndC (fstC (sndC (sndC (mlB msK)))))
noncomputable def ms7:Code:=fstC msX
noncomputable def ms8:Code:=sndC msX
noncomputable def ms9:Code:=sndC (sndC (sndC (mlB msK)))
theorem msL_eq:mlB msK=.seq ms4 (.seq (.region (ridC ms5) (ropsC ms5) false) (.seq (.seq ms6 (.cond (.tmp 30) (.seq ms7 (.region (ridC ms8) (ropsC ms8) false)) .skip)) ms9)):=by kernel_rfl
def mOb (t:List (El T_api_Ins)):Id×Nat×Obj:=(4,0,.box 33 [.d (.sl T_api_Ins) t] none)
def mOut (out:List (El T_api_Pair)):Id×Nat×Obj:=(8,0,.row 70 T_api_Pair out false)
def mX (x:El T_api_Pair):Id×Nat×Obj:=(11,0,.box 70 [.d (.int .i64) x.1,.d (.int .i64) x.2.1,.d (.int .i64) x.2.2] none)
section
variable (t:List (El T_api_Ins)) (l:List (El T_api_Pair)) (pts:List Int) (out:List (El T_api_Pair)) (m:Nat) (k:Int) (x:El T_api_Pair) (e:List Int) (b:Bool)
def mS0:St:=⟨.ag [.d (.sl T_api_Ins) t] :: .d (.sl T_api_Pair) l :: .d (.sl (.int .i64)) pts :: tops 51,[]⟩
def mS1:St:=⟨mkTm 54 [(1,.d (.sl T_api_Pair) l),(2,.d (.sl (.int .i64)) pts),(3,.pt 4 0 0)],[mOb t]⟩
def mS2:St:=⟨mkTm 54 [(1,.d (.sl T_api_Pair) l),(2,.d (.sl (.int .i64)) pts),(3,.pt 4 0 0),(7,.own 8 0 none)],[mOb t,mOut []]⟩
def mS3:St:=((mS2 t l pts).put (some 15) (.cst (.map (some m)))).put (some 8) (.cst (.map (some m)))
def mSA:St:=⟨mkTm 54 [(2,.d (.sl (.int .i64)) pts),(3,.pt 4 0 0),(7,.own 8 0 none),(8,.cst (.map (some m))),(16,.d (.sl T_api_Pair) l),(17,.d (.int .i64) (Int.ofNat (List.length l))),(18,.d (.int .i64) k)],[mOb t,mOut out]⟩
def mLA:Lab:=⟨[2,3,7,8,16,17,18],[(8,118)]⟩
def mSB:St:=⟨mkTm 54 [(2,.d (.sl (.int .i64)) pts),(3,.pt 4 0 0),(7,.own 8 0 none),(8,.cst (.map (some m))),(10,.pt 11 0 0),(16,.d (.sl T_api_Pair) l),(17,.d (.int .i64) (Int.ofNat (List.length l))),(18,.d (.int .i64) k)],[mOb t,mOut out,mX x]⟩
def mLB:Lab:=⟨[2,3,7,8,10,16,17,18],[(8,118)]⟩
def mSC:St:=⟨mkTm 54 [(2,.d (.sl (.int .i64)) pts),(3,.pt 4 0 0),(7,.own 8 0 none),(8,.cst (.map (some m))),(10,.pt 11 0 0),(11,.d (.sl (.int .i64)) e),(12,.d .bool b),(16,.d (.sl T_api_Pair) l),(17,.d (.int .i64) (Int.ofNat (List.length l))),(18,.d (.int .i64) k)],[mOb t,mOut out,mX x]⟩
def mLC:Lab:=⟨[2,3,7,8,10,11,12,16,17,18],[(8,118)]⟩
def mLC30:Lab:=⟨[2,3,7,8,10,11,16,17,18,30],[(8,118)]⟩
def mSD:St:=⟨mkTm 54 [(2,.d (.sl (.int .i64)) pts),(3,.pt 4 0 0),(7,.own 8 0 none),(8,.cst (.map (some m))),(10,.pt 11 0 0),(11,.d (.sl (.int .i64)) e),(16,.d (.sl T_api_Pair) l),(17,.d (.int .i64) (Int.ofNat (List.length l))),(18,.d (.int .i64) k)],[mOb t,mOut out,mX x]⟩
def mLD:Lab:=⟨[2,3,7,8,10,11,16,17,18],[(8,118)]⟩
def mSO:St:=⟨mkTm 54 [(2,.d (.sl (.int .i64)) pts),(3,.pt 4 0 0),(7,.own 8 0 none),(8,.cst (.map (some m))),(10,.pt 11 0 0),(11,.own 12 0 none),(16,.d (.sl T_api_Pair) l),(17,.d (.int .i64) (Int.ofNat (List.length l))),(18,.d (.int .i64) k)],[mOb t,mOut out,mX x,(12,0,.row 3 (.int .i64) e false)]⟩
@[reducible] def inM (i:Int) (n:Nat):Bool:=decide ((0:Int)≤i)&&decide (i < Int.ofNat n)
abbrev mEv (c:Code) (lab:Lab) (s s':St):Prop:=∀(L:Lt) (k:Kt) (x:Nat→Kt) (r:Kt),evC mProg (clOf msT) [] L c 0 (fun t=>k (norm mProg lab t)) x r s=k s'
abbrev mEvI (c:Code) (s s':St):Prop:=∀(L:Lt) (k:Kt) (x:Nat→Kt) (r:Kt),evC mProg (clOf msT) [] L c 0 (fun t=>k t) x r s=k s'
abbrev mEvG (c:Code) (lab:Lab) (s s':St) (b:Bool):Prop:=∀(L:Lt) (k:Kt) (x:Nat→Kt) (r:Kt),evC mProg (clOf msT) [] L c 0 (fun t=>k (norm mProg lab t)) x r s=bif b then k s' else none
theorem mEvG.ok {c:Code} {lab:Lab} {s s':St} {b:Bool} (h:mEvG c lab s s' b) (hb:b=true):mEv c lab s s':=fun L k x r=>by rw[h,hb];rfl
theorem m_0:mEv ms0 ⟨[1,2,3],[]⟩ (mS0 t l pts) (mS1 t l pts):=fun L k x r=>by kernel_rfl
theorem m_1:mEv ms1 ⟨[1,2,3,7],[(8,118)]⟩ (mS1 t l pts) (mS2 t l pts):=fun L k x r=>by kernel_rfl
theorem m_3:mEv ms3 mLA (mS3 t l pts m) (mSA t l pts [] m 0):=fun L k x r=>by kernel_rfl
theorem m_R1:mEvI (mlR1 msK) (mSA t l pts out m k) ((mSA t l pts out m k).put (some 19) (.d .bool (decide (k < Int.ofNat (List.length l))))):=fun L k x r=>by kernel_rfl
theorem m_4:mEvG ms4 mLB ((mSA t l pts out m k).put (some 19) (.d .bool b)) (mSB t l pts out m k (List.getD l (Int.toNat k) (dflt T_api_Pair))) (inM k (List.length l)):=fun L k x r=>by kernel_rfl
theorem m_6:mEv ms6 mLC30 (mSC t l pts out m k x e b) ((mSD t l pts out m k x e).put (some 30) (.d .bool (! b))):=fun L k x r=>by kernel_rfl
theorem m_7:mEvG ms7 mLD ((mSD t l pts out m k x e).put (some 30) (.d .bool b)) (mSO t l pts out m k x (v_road_Ends t pts x.2.1)) (k_road_Ends t pts x.2.1):=fun L k x r=>by kernel_rfl
theorem m_n30:norm mProg mLD ((mSD t l pts out m k x e).put (some 30) (.d .bool b))=mSD t l pts out m k x e:=by kernel_rfl
theorem m_9 (L:Lt) (kk:Kt) (xx:Nat→Kt) (r:Kt):evC mProg (clOf msT) [] L ms9 0 (fun t=>kk (norm mProg mLA t)) xx r (mSD t l pts out m k x e)=
  bif k_slices_BinarySearch___int_int_ e x.2.2 then (bif (v_slices_BinarySearch___int_int_ e x.2.2).2 then (bif Nat.ble ((List.length out+1)*24) limit then kk (mSA t l pts (out++[x]) m k) else none) else kk (mSA t l pts out m k)) else none:=by kernel_rfl
theorem m_R2:mEv (mlR2 msK) mLA (mSA t l pts out m k) (mSA t l pts out m (IntKind.i64.wrap (k+1))):=fun L k x r=>by kernel_rfl
theorem m_E:mEvI msE ((mSA t l pts out m k).put (some 19) (.d .bool b)) ((((mSA t l pts out m k).put (some 19) (.d .bool b)).put (some 53) (.own 8 0 none)).put (some 6) (.own 8 0 none)):=fun L k x r=>by kernel_rfl
def mSB5 (e:List Int) (b:Bool):St:=((((mSB t l pts out m k x).put (some 23) (.cst (.map (some m)))).put (some 24) (.pt 11 0 1)).put (some 25) (.d (.int .i64) x.2.1)).put (some 26) (.tu [.d (.sl (.int .i64)) e,.d .bool b])
def mSB9 (e:List Int) (b:Bool):St:=(((((mSB5 t l pts out m k x e b).put (some 22) (.tu [.d (.sl (.int .i64)) e,.d .bool b])).put (some 27) (.d (.sl (.int .i64)) e)).put (some 28) (.d .bool b)).put (some 11) (.d (.sl (.int .i64)) e)).put (some 12) (.d .bool b)
theorem m_n9:norm mProg mLC (mSB9 t l pts out m k x e b)=mSC t l pts out m k x e b:=by kernel_rfl
def mSO4:St:=((((mSO t l pts out m k x e).put (some 36) (.cst (.map (some m)))).put (some 37) (.pt 11 0 1)).put (some 38) (.d (.int .i64) x.2.1)).put (some 39) (.own 12 0 none)
theorem m_n8 (o:Option Nat) (ho:o=none):norm mProg ⟨[2,3,7,8,10,11,16,17,18],[(8,118),(12+lockK,1)]⟩ (((mSO4 t l pts out m k x e).lock [12]).put o .top)=mSD t l pts out m k x e:=by
 subst ho
 kernel_rfl
end
section
variable [Orgs] {Mod F0:Nat→Prop} {w0:World} {a:Act} {w:World} {Q:Exit→Act→World→Prop}
variable {t:List (El T_api_Ins)} {l:List (El T_api_Pair)} {pts:List Int} {out:List (El T_api_Pair)} {m:Nat} {k:Int} {x:El T_api_Pair} {ms:MapD}
theorem mw_2 (hr:Rel Mod F0 w0 (mS2 t l pts) a w) (hQ:∀m a' w',RelX (mapHid m []) Mod F0 w0 (mS3 t l pts m) a' w'→Q .normal a' w'):(Code.region (ridC ms2) (ropsC ms2) false).wp mProg Q a w:=by
 refine wp_region ?_
 rw[show List.range (ropsC ms2).size=[0,1] from by kernel_rfl]
 refine handOp (o:=opC ms2 0) (by kernel_rfl) (by kernel_rfl) ?_
 refine makeMapX (TM:=77) (by kernel_rfl) hr fun m a w hr=>?_
 rw[show (opC ms2 0).dst=some 15 from by kernel_rfl] at hr
 refine evOpX mcl.1 (o:=opC ms2 1) (st1:=mS3 t l pts m) (by kernel_rfl) (by kernel_rfl) (fun k=>by kernel_rfl) hr fun a w hr=>?_
 exact hQ m a w hr
theorem mw_5 (hr:RelX (mapHid m ms) Mod F0 w0 (mSB t l pts out m k x) a w) (hQ:∀a' w',RelX (mapHid m ms) Mod F0 w0 (mSC t l pts out m k x ((getM ms x.2.1).getD []) (getM ms x.2.1).isSome) a' w'→Q .normal a' w'):(Code.region (ridC ms5) (ropsC ms5) false).wp mProg Q a w:=by
 refine wp_region ?_
 rw[show List.range (ropsC ms5).size=[0,1,2,3,4,5,6,7,8] from by kernel_rfl]
 refine evOpX mcl.1 (o:=opC ms5 0) (st1:=(mSB t l pts out m k x).put (some 23) (.cst (.map (some m)))) (by kernel_rfl) (by kernel_rfl) (fun k=>by kernel_rfl) hr fun a w hr=>?_
 refine evOpX mcl.1 (o:=opC ms5 1) (st1:=((mSB t l pts out m k x).put (some 23) (.cst (.map (some m)))).put (some 24) (.pt 11 0 1)) (by kernel_rfl) (by kernel_rfl) (fun k=>by kernel_rfl) hr fun a w hr=>?_
 refine evOpX mcl.1 (o:=opC ms5 2) (st1:=(((mSB t l pts out m k x).put (some 23) (.cst (.map (some m)))).put (some 24) (.pt 11 0 1)).put (some 25) (.d (.int .i64) x.2.1)) (by kernel_rfl) (by kernel_rfl) (fun k=>by kernel_rfl) hr fun a w hr=>?_
 refine handOp (o:=opC ms5 3) (by kernel_rfl) (by kernel_rfl) ?_
 refine lookupX (TM:=77) (K:=3) (V:=23) (x:=.tmp 23) (k:=.tmp 25) (key:=x.2.1) (by kernel_rfl) (by kernel_rfl) (by kernel_rfl) (by kernel_rfl) (by kernel_rfl) (by kernel_rfl) hr fun a w hr=>?_
 rw[show (opC ms5 3).dst=some 26 from by kernel_rfl] at hr
 generalize (getM ms x.2.1).getD []=e at hr hQ
 generalize (getM ms x.2.1).isSome=b at hr hQ
 refine evOpX mcl.1 (o:=opC ms5 4) (st1:=(mSB5 t l pts out m k x e b).put (some 22) (.tu [.d (.sl (.int .i64)) e,.d .bool b])) (by kernel_rfl) (by kernel_rfl) (fun k=>by kernel_rfl) hr fun a w hr=>?_
 refine evOpX mcl.1 (o:=opC ms5 5) (st1:=((mSB5 t l pts out m k x e b).put (some 22) (.tu [.d (.sl (.int .i64)) e,.d .bool b])).put (some 27) (.d (.sl (.int .i64)) e)) (by kernel_rfl) (by kernel_rfl) (fun k=>by kernel_rfl) hr fun a w hr=>?_
 refine evOpX mcl.1 (o:=opC ms5 6) (st1:=(((mSB5 t l pts out m k x e b).put (some 22) (.tu [.d (.sl (.int .i64)) e,.d .bool b])).put (some 27) (.d (.sl (.int .i64)) e)).put (some 28) (.d .bool b)) (by kernel_rfl) (by kernel_rfl) (fun k=>by kernel_rfl) hr fun a w hr=>?_
 refine evOpX mcl.1 (o:=opC ms5 7) (st1:=((((mSB5 t l pts out m k x e b).put (some 22) (.tu [.d (.sl (.int .i64)) e,.d .bool b])).put (some 27) (.d (.sl (.int .i64)) e)).put (some 28) (.d .bool b)).put (some 11) (.d (.sl (.int .i64)) e)) (by kernel_rfl) (by kernel_rfl) (fun k=>by kernel_rfl) hr fun a w hr=>?_
 refine evOpX mcl.1 (o:=opC ms5 8) (st1:=mSB9 t l pts out m k x e b) (by kernel_rfl) (by kernel_rfl) (fun k=>by kernel_rfl) hr fun a w hr=>?_
 exact hQ a w (RelX.norm (P:=mProg) (m_n9 t l pts out m k x e b) hr)
theorem mw_8 {e:List Int} (hn:getM ms x.2.1=none) (hr:RelX (mapHid m ms) Mod F0 w0 (mSO t l pts out m k x e) a w) (hQ:∀a' w',RelX (mapHid m (ms++[((show Int from x.2.1),e)])) Mod F0 w0 (mSD t l pts out m k x e) a' w'→Q .normal a' w'):(Code.region (ridC ms8) (ropsC ms8) false).wp mProg Q a w:=by
 refine wp_region ?_
 rw[show List.range (ropsC ms8).size=[0,1,2,3,4] from by kernel_rfl]
 refine evOpX mcl.1 (o:=opC ms8 0) (st1:=(mSO t l pts out m k x e).put (some 36) (.cst (.map (some m)))) (by kernel_rfl) (by kernel_rfl) (fun k=>by kernel_rfl) hr fun a w hr=>?_
 refine evOpX mcl.1 (o:=opC ms8 1) (st1:=((mSO t l pts out m k x e).put (some 36) (.cst (.map (some m)))).put (some 37) (.pt 11 0 1)) (by kernel_rfl) (by kernel_rfl) (fun k=>by kernel_rfl) hr fun a w hr=>?_
 refine evOpX mcl.1 (o:=opC ms8 2) (st1:=(((mSO t l pts out m k x e).put (some 36) (.cst (.map (some m)))).put (some 37) (.pt 11 0 1)).put (some 38) (.d (.int .i64) x.2.1)) (by kernel_rfl) (by kernel_rfl) (fun k=>by kernel_rfl) hr fun a w hr=>?_
 refine evOpX mcl.1 (o:=opC ms8 3) (st1:=mSO4 t l pts out m k x e) (by kernel_rfl) (by kernel_rfl) (fun k=>by kernel_rfl) hr fun a w hr=>?_
 refine handOp (o:=opC ms8 4) (by kernel_rfl) (by kernel_rfl) ?_
 refine updateX (TM:=77) (K:=3) (V:=23) (E:=3) (x:=.tmp 36) (k:=.tmp 38) (v:=.tmp 39) (key:=x.2.1) (id:=12) (ver:=0) (r:=e) (lk:=false) (by kernel_rfl) (by kernel_rfl) (by kernel_rfl) (by kernel_rfl) (by kernel_rfl) (by kernel_rfl) (by kernel_rfl) hn hr fun a w hr=>?_
 exact hQ a w (RelX.norm (P:=mProg) (m_n8 t l pts out m k x e _ (by kernel_rfl)) hr)
def OkM (t:List (El T_api_Ins)) (pts:List Int) (ms:MapD):Prop:=∀s r,getM ms s=some r→r=v_road_Ends t pts s
theorem okM_put {s:Int} (h:OkM t pts ms):OkM t pts (ms++[(s,v_road_Ends t pts s)]):=fun s' r hr=>by
 unfold getM at hr
 rw[List.find?_append] at hr
 cases hf:ms.find? (fun e=>e.1==s') with
 | some y=>
  rw[hf] at hr
  exact h s' r (by unfold getM;rw[hf];exact hr)
 | none=>
  rw[hf] at hr
  simp only[Option.none_or,List.find?_cons,List.find?_nil] at hr
  split at hr
  ·rename_i hs
   have hs:s=s':=by simpa using hs
   subst hs
   cases hr
   rfl
  ·cases hr
theorem ends_bin (hf:flowOK t=true) (hp:pts.length < 4611686018427387904) (x:El T_api_Pair):k_slices_BinarySearch___int_int_ (v_road_Ends t pts x.2.1) x.2.2=true∧(v_slices_BinarySearch___int_int_ (v_road_Ends t pts x.2.1) x.2.2).2=uB t pts x:=by
 have hl:=flowOK_len hf
 have h1:(v_road_Ends t pts x.2.1).length≤t.length:=listOf_le
 refine ⟨?_,?_⟩
 ·unfold k_slices_BinarySearch___int_int_
  rw[Bool.and_eq_true,decide_eq_true_eq,decide_eq_true_eq]
  exact ⟨listOf_strict,by omega⟩
 ·show (v_road_Ends t pts x.2.1).contains x.2.2=_
  unfold v_road_Ends uB
  exact listOf_contains
theorem inM_ok {n j:Nat} (h:j < n):inM (j:Int) n=true:=by
 unfold inM
 rw[Bool.and_eq_true,decide_eq_true_eq,decide_eq_true_eq]
 exact ⟨Int.natCast_nonneg j,Int.ofNat_lt.2 h⟩
theorem mw_L (hf:flowOK t=true) (hp:pts.length < 4611686018427387904) {j:Nat} (hj:j < l.length) {b:Bool} (hlim:(out.length+1)*24≤limit) (ho:OkM t pts ms) (hr:RelX (mapHid m ms) Mod F0 w0 ((mSA t l pts out m (j:Int)).put (some 19) (.d .bool b)) a w):
  (mlB msK).wp mProg (fun e a' w'=>(e=.normal∨e=.exit 1)∧∃ms',OkM t pts ms'∧RelX (mapHid m ms') Mod F0 w0 (mSA t l pts (out++if uB t pts l[j]=true then [l[j]] else []) m (j:Int)) a' w') a w:=by
 rw[msL_eq]
 refine wp_seq (pieceX mcl.1 mcl.2 (norm mProg mLB) (fun h=>norm_rel h) ((m_4 t l pts out m (j:Int) b).ok (inM_ok hj)) hr fun a w hr=>?_)
 rw[Int.toNat_natCast,getD_lt hj] at hr
 generalize l[j]=x at hr
 have kE:k_road_Ends t pts x.2.1=true:=by unfold k_road_Ends;rw[hf,decide_eq_true hp];rfl
 obtain ⟨q1,q2⟩:=ends_bin hf hp x
 have last:∀(ms':MapD),OkM t pts ms'→∀a w,RelX (mapHid m ms') Mod F0 w0 (mSD t l pts out m (j:Int) x (v_road_Ends t pts x.2.1)) a w→ms9.wp mProg (fun e a' w'=>(e=.normal∨e=.exit 1)∧∃ms',OkM t pts ms'∧RelX (mapHid m ms') Mod F0 w0 (mSA t l pts (out++if uB t pts x=true then [x] else []) m (j:Int)) a' w') a w:=by
  intro ms' ho' a w hr
  by_cases hu:uB t pts x=true
  ·refine pieceX mcl.1 mcl.2 (norm mProg mLA) (fun h=>norm_rel h) (st1:=mSA t l pts (out++[x]) m (j:Int)) (fun L k xx r=>by rw[m_9,q1,q2,hu,Nat.ble_eq_true_of_le hlim];rfl) hr fun a w hr=>?_
   rw[if_pos hu]
   exact ⟨.inl rfl,ms',ho',hr⟩
  ·have hu':uB t pts x=false:=by simpa using hu
   refine pieceX mcl.1 mcl.2 (norm mProg mLA) (fun h=>norm_rel h) (st1:=mSA t l pts out m (j:Int)) (fun L k xx r=>by rw[m_9,q1,q2,hu'];rfl) hr fun a w hr=>?_
   rw[if_neg hu,List.append_nil]
   exact ⟨.inl rfl,ms',ho',hr⟩
 refine wp_seq (mw_5 hr fun a w hr=>?_)
 refine wp_seq (wp_seq (pieceX mcl.1 mcl.2 (norm mProg mLC30) (fun h=>norm_rel h) (m_6 t l pts out m (j:Int) x _ _) hr fun a w hr=>?_))
 have ht:=hr.evb (x:=.tmp 30) (b:=! (getM ms x.2.1).isSome) (by kernel_rfl)
 cases hg:getM ms x.2.1 with
 | none=>
  rw[hg] at ht hr
  refine wp_cond_true ht ?_
  refine wp_seq (pieceX mcl.1 mcl.2 (norm mProg mLD) (fun h=>norm_rel h) ((m_7 t l pts out m (j:Int) x _ _).ok kE) hr fun a w hr=>?_)
  exact mw_8 hg hr fun a w hr=>last _ (okM_put ho) a w hr
 | some e=>
  rw[hg] at ht hr
  refine wp_cond_false ht (wp_skip ?_)
  have:=RelX.norm (P:=mProg) (m_n30 t l pts out m (j:Int) x _ _) hr
  have he:=ho _ _ hg
  subst he
  exact last _ ho a w this
end
def sg_cut_missing:Sig:=[(true,(.sl T_api_Ins)),(false,(.sl T_api_Pair)),(false,(.sl (.int .i64)))]
noncomputable def v_cut_missing (t:List (El T_api_Ins)) (l:List (El T_api_Pair)) (points:List Int):List (El T_api_Pair):=missL (uB t) points l
def k_cut_missing (t:List (El T_api_Ins)) (l:List (El T_api_Pair)) (points:List Int):Bool:=flowOK t&&(decide (points.length < 4611686018427387904)&&decide (l.length < 1000000000000))
def R_cut_missing:List (El T_api_Pair)→AV:=fun r=>.rw 70 T_api_Pair r
theorem take_miss {U:El T_api_Pair→Bool} {l:List (El T_api_Pair)} {j:Nat} (hj:j < l.length):(l.take (j+1)).filter U=(l.take j).filter U++if U l[j]=true then [l[j]] else []:=by
 rw[List.take_succ_eq_append_getElem hj,List.filter_append,List.filter_cons,List.filter_nil]
theorem callOK_cut_missing (t:List (El T_api_Ins)) (l:List (El T_api_Pair)) (pts:List Int) (hk:k_cut_missing t l pts=true):CallOK mProg 24 (toForms sg_cut_missing (t,l,pts,())) (R_cut_missing (v_cut_missing t l pts),tps (toForms sg_cut_missing (t,l,pts,()))):=by
 unfold k_cut_missing at hk
 rw[Bool.and_eq_true,Bool.and_eq_true,decide_eq_true_eq,decide_eq_true_eq] at hk
 obtain ⟨hf,hp,hN⟩:=hk
 refine callOK_of_wp (tb:=[]) (fn:=Go.Proofs.Tryz.f24) (c:=msB) (vs:=[.ag [.d (.sl T_api_Ins) t],.d (.sl T_api_Pair) l,.d (.sl (.int .i64)) pts]) (st:=⟨[],[]⟩) (by kernel_rfl) (by kernel_rfl) (by kernel_rfl) ?_
 intro _ Mod F0 w0 a w hr
 have hr:Rel Mod F0 w0 (mS0 t l pts) a w:=hr
 rw[msB_eq]
 refine wp_seq (piece mcl.1 mcl.2 (norm mProg ⟨[1,2,3],[]⟩) (fun h=>norm_rel h) (m_0 t l pts) hr fun a w hr=>?_)
 refine wp_seq (piece mcl.1 mcl.2 (norm mProg ⟨[1,2,3,7],[(8,118)]⟩) (fun h=>norm_rel h) (m_1 t l pts) hr fun a w hr=>?_)
 refine wp_seq (mw_2 hr fun m a w hr=>?_)
 refine wp_seq (wp_seq (pieceX mcl.1 mcl.2 (norm mProg mLA) (fun h=>norm_rel h) (m_3 t l pts m) hr fun a w hr=>?_))
 rw[msK_eq]
 refine forLoop (fun j a w=>∃ms,OkM t pts ms∧RelX (mapHid m ms) Mod F0 w0 (mSA t l pts ((l.take j).filter (uB t pts)) m (j:Int)) a w)
  (fun j a w=>∃ms,OkM t pts ms∧RelX (mapHid m ms) Mod F0 w0 ((mSA t l pts ((l.take j).filter (uB t pts)) m (j:Int)).put (some 19) (.d .bool (decide ((j:Int) < Int.ofNat (List.length l))))) a w)
  (fun j a w=>∃ms,OkM t pts ms∧RelX (mapHid m ms) Mod F0 w0 (mSA t l pts ((l.take (j+1)).filter (uB t pts)) m (j:Int)) a w)
  l.length (toGo 18 l.length) ?_ ?_ ?_ ?_ ?_ ⟨[],fun s r h=>(by cases h),hr⟩ ?_
 ·intro j a w hj ⟨ms,ho,hr⟩
  exact pieceX mcl.1 mcl.2 (fun s=>s) (fun h=>h) (m_R1 _ _ _ _ _ _) hr fun a' w' hr'=>⟨rfl,ms,ho,hr'⟩
 ·intro j a w hj ⟨ms,ho,hr⟩
  rw[hr.evb (x:=.tmp 19) (b:=decide ((j:Int) < Int.ofNat (List.length l))) (by kernel_rfl)]
  exact congrArg Value.bool (by rw[Bool.eq_iff_iff,decide_eq_true_eq,decide_eq_true_eq];exact Int.ofNat_lt)
 ·intro j a w hj ⟨ms,ho,hr⟩
  rw[take_miss hj]
  refine mw_L hf hp hj ?_ ho hr
  have h1:=List.length_filter_le (uB t pts) (l.take j)
  rw[List.length_take] at h1
  unfold limit
  omega
 ·intro j a w hj ⟨ms,ho,hr⟩
  have e:=m_R2 t l pts ((l.take (j+1)).filter (uB t pts)) m (j:Int)
  rw[wrap_succ (by omega)] at e
  exact pieceX mcl.1 mcl.2 (norm mProg mLA) (fun h=>norm_rel h) e hr fun a' w' hr'=>⟨rfl,ms,ho,hr'⟩
 ·intro j a w hj ⟨ms,ho,hr⟩
  unfold toGo
  rw[hr.ev (x:=.tmp 18) (k:=.i64) (n:=(j:Int)) (by kernel_rfl)]
  rfl
 ·intro a w ⟨ms,ho,hr⟩
  rw[List.take_length] at hr
  have hr:=hr.out
  refine wp_seq (piece mcl.1 mcl.2 (fun s=>s) (fun h=>h) (m_E t l pts (l.filter (uB t pts)) m _ _) hr fun a w hr=>?_)
  exact wp_ret ⟨.inr rfl,_,hr,by kernel_rfl⟩
noncomputable def e_cut_missing:Run:=entG sg_cut_missing R_cut_missing (fun a=>k_cut_missing a.1 a.2.1 a.2.2.1) (fun a=>v_cut_missing a.1 a.2.1 a.2.2.1)
theorem ok_cut_missing:EntOK mProg 24 e_cut_missing:=entG_hand (known_of (fn:=Go.Proofs.Tryz.f24) (c:=msB) (by kernel_rfl) (by kernel_rfl) (by kernel_rfl)) fun a h=>callOK_cut_missing a.1 a.2.1 a.2.2.1 h
end
end Go.Ev
end

section
open Go Go.Ev
namespace Go.Ev
def renComp:Go.Shelf.Ren:=⟨fun n=>if n=20 then 75 else n,
 fun n=>if n=22 then 23 else n,
 fun n=>n⟩
theorem renComp_lays:Go.Proofs.Lays2.n20 Go.Proofs.Tryz.prog renComp where
 mixed:=by kernel_rfl
 f20:=by kernel_rfl
 t0:=by kernel_rfl
 a0:=fun w=>by kernel_rfl
 z0:=fun w=>by kernel_rfl
 v0:=fun w=>by kernel_rfl
 t3:=by kernel_rfl
 a3:=fun w=>by kernel_rfl
 z3:=fun w=>by kernel_rfl
 v3:=fun w=>by kernel_rfl
 t4:=by kernel_rfl
 a4:=fun w=>by kernel_rfl
 z4:=fun w=>by kernel_rfl
 v4:=fun w=>by kernel_rfl
 t22:=by kernel_rfl
 a22:=fun w=>by kernel_rfl
 z22:=fun w=>by kernel_rfl
 v22:=fun w=>by kernel_rfl
 i3:=by kernel_rfl
theorem compOK:CompactOK Go.Proofs.Tryz.prog 75:=⟨fun blk off cap zs w h1 h2 h3=>Go.Proofs.Any.slices_Compact_int renComp_lays blk off cap zs w h1 h2 h3,fun a cap w=>Go.Proofs.Any.slices_Compact_int_empty renComp_lays a cap w⟩
noncomputable section
noncomputable def e_compactR:Run:=rowRun (entO [.row 3 (.int .i64)] (fun (r:List Int)=>(.rw 3 (.int .i64) r,[.top])) (fun _=>true) (fun a=>Go.Lib.compact a.1))
theorem ok_compactR:EntOK Go.Proofs.Tryz.prog 75 e_compactR:=rowRun_ok (entO_hand (noRun_ok (known_of (fn:=Go.Proofs.Tryz.f75) (c:=Go.Proofs.Tryz.f75.body.getD .skip) (by kernel_rfl) (by kernel_rfl) (by kernel_rfl))) fun a _=>compact_call compOK a.1)
noncomputable def sg_cut_rising:PSig:=[.row 3 (.int .i64)]
def v_cut_rising (l:List Int):List Int:=putsL [] l
noncomputable def K_cut_rising:List Int→Ans:=fun r=>(.rw 3 (.int .i64) r,[.top])
noncomputable def riB:Code:=Go.Proofs.Tryz.f40.body.getD .skip
noncomputable def ri1:Code:=fstC riB
noncomputable def ri2:Code:=fstC (sndC riB)
noncomputable def ri3:Code:=sndC (sndC riB)
noncomputable def riT:Tbl:=[(75,e_compactR)]
theorem riT_ok:∀p∈riT,EntOK Go.Proofs.Tryz.prog p.1 p.2:=tbl_cons ok_compactR tbl_nil
theorem riB_eq:riB=.seq ri1 (.seq (.region (ridC ri2) (ropsC ri2) false) ri3):=by kernel_rfl
noncomputable def riS (l:List Int):St:=⟨mkTm 7 [(0,.own 1 0 none)],[(1,0,.row 3 (.int .i64) l false)]⟩
theorem ri_1 (l:List Int) (L:Lt) (k:Kt) (x:Nat→Kt) (r:Kt):evC Go.Proofs.Tryz.prog (clOf riT) [] L ri1 0 (fun t=>k (norm Go.Proofs.Tryz.prog ⟨[0],[]⟩ t)) x r (riS l)=k (riS l):=by kernel_rfl
theorem ri_3 (l:List Int) (L:Lt):evC Go.Proofs.Tryz.prog (clOf riT) [] L ri3 0 (finA Go.Proofs.Tryz.prog [] Go.Proofs.Tryz.f40 [.rw 3 (.int .i64) l]) (fun _ _=>none) (finA Go.Proofs.Tryz.prog [] Go.Proofs.Tryz.f40 [.rw 3 (.int .i64) l]) (riS (sorted l))=some (.rw 3 (.int .i64) (risL l),[.top]):=by kernel_rfl
theorem risL_puts (l:List Int):risL l=putsL [] l:=strict_ext risL_strict (putsL_strict .nil) fun x=>by rw[risL_mem,putsL_mem];simp
def k_cut_rising (l:List Int):Bool:=decide (l.length < 4611686018427387904)
theorem callOK_cut_rising (l:List Int) (hk:k_cut_rising l=true):CallOK Go.Proofs.Tryz.prog 40 (toPs sg_cut_rising (l,())) (K_cut_rising (v_cut_rising l)):=by
 obtain ⟨hcl,hdet⟩:=clOf_ok riT_ok
 refine callOK_of_wp (tb:=[]) (fn:=Go.Proofs.Tryz.f40) (c:=riB) (vs:=[.own 1 0 none]) (st:=⟨[],[(1,0,.row 3 (.int .i64) l false)]⟩) (by kernel_rfl) (by kernel_rfl) (by kernel_rfl) ?_
 intro _ Mod F0 w0 a w hr
 have hr:Rel Mod F0 w0 (riS l) a w:=hr
 rw[riB_eq]
 refine wp_seq (piece hcl hdet (norm Go.Proofs.Tryz.prog ⟨[0],[]⟩) (fun h=>norm_rel h) (ri_1 l) hr fun a w hr=>?_)
 refine wp_seq (wp_region ?_)
 rw[show List.range (ropsC ri2).size=[0,1] from by kernel_rfl]
 refine evOp hcl (o:=opC ri2 0) (st1:=(riS l).put (some 3) (.own 1 0 none)) (by kernel_rfl) (by kernel_rfl) (fun k=>by kernel_rfl) hr fun a w hr=>?_
 refine handOp (o:=opC ri2 1) (by kernel_rfl) (by kernel_rfl) ?_
 refine sortStep (ts:=3) (id:=1) (ver:=0) (E:=3) (l:=l) (c:=(match (opC ri2 1).op with |.call c=>c | _=>default)) (fn:=Go.Proofs.Tryz.f74) (body:=Go.Proofs.Tryz.f74.body.getD .skip) (by kernel_rfl) (by kernel_rfl) (by kernel_rfl) (by kernel_rfl) (by kernel_rfl) (by kernel_rfl) (by kernel_rfl) (by kernel_rfl) sortOK (of_decide_eq_true hk) hr fun a w hr=>?_
 have hr:Rel Mod F0 w0 (riS (sorted l)) a w:=norm_rel (P:=Go.Proofs.Tryz.prog) (lab:=⟨[0],[]⟩) hr
 unfold K_cut_rising v_cut_rising
 rw[←risL_puts]
 exact endStep hcl hdet (ri_3 l) hr
noncomputable def e_cut_rising:Run:=rowRun (entO sg_cut_rising K_cut_rising (fun a=>k_cut_rising a.1) (fun a=>v_cut_rising a.1))
theorem ok_cut_rising:EntOK Go.Proofs.Tryz.prog 40 e_cut_rising:=rowRun_ok (entO_hand (noRun_ok (known_of (fn:=Go.Proofs.Tryz.f40) (c:=riB) (by kernel_rfl) (by kernel_rfl) (by kernel_rfl))) fun a h=>callOK_cut_rising a.1 h)
end
end Go.Ev
end

section
open Go Go.Ev
namespace Go.Ev
noncomputable section
def sg_cut_greedy:Sig:=[(true,(.sl T_api_Ins)),(false,(.sl T_api_Pair))]
noncomputable def t_cut_greedy:Tbl:=[(61,e_slices_Clone___int_int_),(24,e_cut_missing),(40,e_cut_rising)]
theorem tk_cut_greedy:∀p∈t_cut_greedy,EntOK Go.Proofs.Tryz.prog p.1 p.2:=tbl_cons ok_slices_Clone___int_int_ (tbl_cons ok_cut_missing (tbl_cons ok_cut_rising (tbl_nil)))
noncomputable def c_cut_greedy:Code:=Go.Proofs.Tryz.f41.body.getD .skip
def tb_cut_greedy:Tb:=[(3,⟨[1,2,5],[(6,46)]⟩),(9,⟨[1,2,5,6,7,16,17],[(10000000000000000000000000000000000000000000000000000000000008,1)]⟩)]
inductive J_cut_greedy where | l3 (points:List Int) (open_1:List (El T_api_Pair)) | l9 (left:List (El T_api_Pair)) (h:Int) (best:Int) (points:List Int) (open_1:List (El T_api_Pair))
def T_cut_greedy (t:List (El T_api_Ins)) (open_:List (El T_api_Pair)):J_cut_greedy→JT J_cut_greedy (List Int) |.l3 points open_1=>.br (decide ((Int.ofNat (List.length open_1)) > (0:Int))) (.jmp (.l9 open_1 (0:Int) (0:Int) points open_1)) (.br (k_cut_rising points) (.leaf (v_cut_rising points)) (.no)) |.l9 left h best points open_1=>.br (decide (h < (Int.ofNat (List.length t)))) (.br (k_slices_Clone___int_int_ points) (.br (Nat.ble (((List.length (v_slices_Clone___int_int_ points))+1)*8) limit) (.br (k_cut_missing t open_1 ((v_slices_Clone___int_int_ points)++[h])) (.br (decide ((Int.ofNat (List.length (v_cut_missing t open_1 ((v_slices_Clone___int_int_ points)++[h])))) < (Int.ofNat (List.length left)))) (.jmp (.l9 (v_cut_missing t open_1 ((v_slices_Clone___int_int_ points)++[h])) (IntKind.i64.wrap (h+(1:Int))) h points open_1)) (.jmp (.l9 left (IntKind.i64.wrap (h+(1:Int))) best points open_1))) (.no)) (.no)) (.no)) (.br (Nat.ble (((List.length points)+1)*8) limit) (.jmp (.l3 (points++[best]) left)) (.no))
def T0_cut_greedy (t:List (El T_api_Ins)) (open_:List (El T_api_Pair)):JT J_cut_greedy (List Int):=.jmp (.l3 [] open_)
def R_cut_greedy:List Int→AV:=fun (r:List Int)=>.rw 3 (.int .i64) r
def S_cut_greedy (t:List (El T_api_Ins)) (open_:List (El T_api_Pair)):J_cut_greedy→Nat×St |.l3 points open_1=>(3,⟨mkTm 43 [(1,.d (.sl T_api_Pair) open_1),(2,.pt 3 0 0),(5,.own 6 0 none)],[(3,0,.box 33 [.d (.sl T_api_Ins) t] none),(6,0,.row 3 (.int .i64) points false)]⟩) |.l9 left h best points open_1=>(9,⟨mkTm 43 [(1,.d (.sl T_api_Pair) open_1),(2,.pt 3 0 0),(5,.own 6 0 none),(6,.d (.int .i64) best),(7,.d (.sl T_api_Pair) left),(16,.d (.int .i64) (Int.ofNat (List.length t))),(17,.d (.int .i64) h)],[(3,0,.box 33 [.d (.sl T_api_Ins) t] none),(6,0,.row 3 (.int .i64) points false)]⟩)
theorem en_cut_greedy (t:List (El T_api_Ins)) (open_:List (El T_api_Pair)) (L:Lt):entryA Go.Proofs.Tryz.prog (clOf t_cut_greedy) tb_cut_greedy Go.Proofs.Tryz.f41 c_cut_greedy L (toForms sg_cut_greedy (t,open_,()))=(T0_cut_greedy t open_).run (fun v=>some (R_cut_greedy v,tps (toForms sg_cut_greedy (t,open_,())))) fun j=>L (S_cut_greedy t open_ j).1 (S_cut_greedy t open_ j).2:=by kernel_rfl
theorem lp_cut_greedy (t:List (El T_api_Ins)) (open_:List (El T_api_Pair)):∀(L:Lt) (j:J_cut_greedy),procOf (procsF Go.Proofs.Tryz.prog (clOf t_cut_greedy) tb_cut_greedy Go.Proofs.Tryz.f41 c_cut_greedy (toForms sg_cut_greedy (t,open_,()))) (S_cut_greedy t open_ j).1 L (S_cut_greedy t open_ j).2=(T_cut_greedy t open_ j).run (fun v=>some (R_cut_greedy v,tps (toForms sg_cut_greedy (t,open_,())))) fun j=>L (S_cut_greedy t open_ j).1 (S_cut_greedy t open_ j).2 | L,.l3 points open_1=>by kernel_rfl | L,.l9 left h best points open_1=>by kernel_rfl
end
end Go.Ev
end

section
open Go
namespace Go.Ev
def loadIn (n:Nat) (x:PairD):Bool:=decide ((0:Int)≤x.2.2∧(show Int from x.2.2) < (n:Int))
theorem cuts_load {t:List (El T_api_Ins)} {l:List PairD} (h:l.all (loadIn t.length)=true):Cuts (uB t) t.length l:=fun x hx=>by
 obtain ⟨h1,h2⟩:=of_decide_eq_true (List.all_eq_true.1 h x hx)
 refine ⟨Int.toNat x.2.2,toNat_ltN h1 h2,fun pts=>uB_load ?_⟩
 rw[List.mem_append,List.mem_singleton,Int.toNat_of_nonneg h1]
 exact .inr rfl
noncomputable def v_cut_greedy (t:List (El T_api_Ins)) (open_:List (El T_api_Pair)):List Int:=greedyV (uB t) t.length open_
def k_cut_greedy (t:List (El T_api_Ins)) (open_:List (El T_api_Pair)):Bool:=flowOK t&&(decide (open_.length < 1000000000)&&open_.all (loadIn t.length))
theorem g_cut_greedy (t:List (El T_api_Ins)) (open_:List (El T_api_Pair)) (hk:k_cut_greedy t open_=true):Goes (T_cut_greedy t open_) (T0_cut_greedy t open_) (v_cut_greedy t open_):=by
 unfold k_cut_greedy at hk
 rw[Bool.and_eq_true,Bool.and_eq_true,decide_eq_true_eq] at hk
 obtain ⟨hf,hN,hall⟩:=hk
 have hlen:=flowOK_len hf
 have fin:∀(pts:List Int) (l:List PairD),l.length=0→pts.length≤1000000000→Goes (T_cut_greedy t open_) (.jmp (.l3 pts l)) (putsL [] pts):=by
  intro pts l h0 hp
  rw[goes_jmp,T_cut_greedy,goes_br,if_neg (by rw[h0];decide),goes_br,if_pos (show k_cut_rising pts=true from decide_eq_true (by omega))]
  exact .leaf
 have outer:∀f:Nat,∀(pts:List Int) (l:List PairD),l.length≤f→f+pts.length≤1000000000→Cuts (uB t) t.length l→Goes (T_cut_greedy t open_) (.jmp (.l3 pts l)) (putsL [] (greedyL (uB t) t.length f pts l)):=by
  intro f
  induction f with
  | zero=>
   intro pts l hl hb hc
   exact fin pts l (by omega) (by omega)
  | succ f ih=>
   intro pts l hl hb hc
   by_cases h0:l.length=0
   ·have:=fin pts l h0 (by omega)
    rw[greedyL,if_pos h0]
    exact this
   ·rw[greedyL,if_neg h0]
    obtain ⟨j,hj,e1,e2,e3⟩:=bestG_less (pts:=pts) hc (by omega)
    have inner:∀k,k≤t.length→∀acc:Int×List PairD,bestFrom (uB t) t.length pts l k acc=bestG (uB t) t.length pts l→
      Goes (T_cut_greedy t open_) (.jmp (.l9 acc.2 (k:Int) acc.1 pts l)) (putsL [] (greedyL (uB t) t.length f (pts++[(bestG (uB t) t.length pts l).1]) (bestG (uB t) t.length pts l).2)):=by
     refine down ?_ fun k hk ihk=>?_
     ·intro acc ha
      rw[bestFrom_end] at ha
      rw[goes_jmp,T_cut_greedy,goes_br,if_neg (by rw[lt_len_not (Nat.lt_irrefl _)];decide),goes_br,if_pos (Nat.ble_eq_true_of_le (by unfold limit;omega)),ha]
      exact ih _ _ (by omega) (by simp;omega) (cuts_sub hc fun x hx=>by rw[e2] at hx;exact (List.mem_filter.1 hx).1)
     ·intro acc ha
      rw[bestFrom_step hk] at ha
      have hcl:k_slices_Clone___int_int_ pts=true:=decide_eq_true (by omega)
      have hvc:v_slices_Clone___int_int_ pts=pts:=rfl
      have hkm:k_cut_missing t l (pts++[(k:Int)])=true:=by
       unfold k_cut_missing
       rw[hf,decide_eq_true (show (pts++[(k:Int)]).length < 4611686018427387904 by simp;omega),decide_eq_true (show l.length < 1000000000000 by omega)];rfl
      have hvm:v_cut_missing t l (pts++[(k:Int)])=l.filter (uB t (pts++[(k:Int)])):=rfl
      rw[goes_jmp,T_cut_greedy,hvc,hvm,wrap_succ (by omega),goes_br,if_pos (lt_len hk),goes_br,if_pos hcl,goes_br,if_pos (Nat.ble_eq_true_of_le (by unfold limit;omega)),goes_br,if_pos hkm,goes_br]
      unfold stepG at ha
      by_cases hc2:(l.filter (uB t (pts++[(k:Int)]))).length < acc.2.length
      ·rw[if_pos hc2] at ha
       rw[if_pos (len_lt2 hc2)]
       exact ihk _ ha
      ·rw[if_neg hc2] at ha
       rw[if_neg (by rw[len_nlt2 hc2];decide)]
       exact ihk _ ha
    rw[goes_jmp,T_cut_greedy,goes_br,if_pos (decide_eq_true (by simp only[Int.ofNat_eq_natCast];omega))]
    exact inner 0 (Nat.zero_le _) (0,l) rfl
 exact outer open_.length [] open_ (Nat.le_refl _) (by simp;omega) (cuts_load hall)
end Go.Ev
end

section
open Go Go.Ev
namespace Go.Ev
noncomputable section
noncomputable def e_cut_greedy:Run:=entG sg_cut_greedy R_cut_greedy (fun a=>k_cut_greedy a.1 a.2.1) (fun a=>v_cut_greedy a.1 a.2.1)
theorem ok_cut_greedy:EntOK Go.Proofs.Tryz.prog 41 e_cut_greedy:=entG_ok (tb:=tb_cut_greedy) (c:=c_cut_greedy) tk_cut_greedy (by kernel_rfl) (by kernel_rfl) (by kernel_rfl) (fun a=>by kernel_rfl) fun ⟨t,open_,_⟩ hk=>evF_goes (c:=c_cut_greedy) (K:=fun v=>(R_cut_greedy v,tps (toForms sg_cut_greedy (t,open_,())))) (S:=S_cut_greedy t open_) (by kernel_rfl) (en_cut_greedy t open_) (lp_cut_greedy t open_) (g_cut_greedy t open_ hk)
end
end Go.Ev
end

section
open Go Go.Ev
namespace Go.Ev
def renDel:Go.Shelf.Ren:=⟨fun n=>if n=23 then 60 else n,
 fun n=>if n=22 then 23 else n,
 fun n=>n⟩
theorem renDel_lays:Go.Proofs.Lays2.n23 Go.Proofs.Tryz.prog renDel where
 mixed:=by kernel_rfl
 f23:=by kernel_rfl
 t0:=by kernel_rfl
 a0:=fun w=>by kernel_rfl
 z0:=fun w=>by kernel_rfl
 v0:=fun w=>by kernel_rfl
 t3:=by kernel_rfl
 a3:=fun w=>by kernel_rfl
 z3:=fun w=>by kernel_rfl
 v3:=fun w=>by kernel_rfl
 t4:=by kernel_rfl
 a4:=fun w=>by kernel_rfl
 z4:=fun w=>by kernel_rfl
 v4:=fun w=>by kernel_rfl
 t22:=by kernel_rfl
 a22:=fun w=>by kernel_rfl
 z22:=fun w=>by kernel_rfl
 v22:=fun w=>by kernel_rfl
 i3:=by kernel_rfl
theorem delOK:DeleteOK Go.Proofs.Tryz.prog 60:=fun blk off cap i j zs w h1 h2 h3 h4 h5=>Go.Proofs.Any.slices_Delete_int renDel_lays blk off cap i j zs w h1 h2 h3 h4 h5
noncomputable section
def sg_slices_Delete___int_int_:PSig:=[.row 3 (.int .i64),.dat false (.int .i64),.dat false (.int .i64)]
def v_slices_Delete___int_int_ (l:List Int) (i j:Int):List Int:=l.take i.toNat++l.drop j.toNat
def k_slices_Delete___int_int_ (l:List Int) (i j:Int):Bool:=decide (0≤i∧i≤j∧j≤(l.length:Int)∧0 < l.length)
def K_slices_Delete___int_int_:List Int→Ans:=fun r=>(.rw 3 (.int .i64) r,[.top,.top,.top])
def e_slices_Delete___int_int_:Run:=rowRun (entO sg_slices_Delete___int_int_ K_slices_Delete___int_int_ (fun a=>k_slices_Delete___int_int_ a.1 a.2.1 a.2.2.1) (fun a=>v_slices_Delete___int_int_ a.1 a.2.1 a.2.2.1))
theorem ok_slices_Delete___int_int_:EntOK Go.Proofs.Tryz.prog 60 e_slices_Delete___int_int_:=rowRun_ok (entO_hand (noRun_ok (known_of (fn:=Go.Proofs.Tryz.f60) (c:=Go.Proofs.Tryz.f60.body.getD .skip) (by kernel_rfl) (by kernel_rfl) (by kernel_rfl))) fun a h=>by
 obtain ⟨h1,h2,h3,h4⟩:=of_decide_eq_true h
 exact delete_call delOK a.1 h1 h2 h3 (List.length_pos_iff.1 h4))
end
end Go.Ev
end

section
open Go Go.Ev
namespace Go.Ev
noncomputable section
def sg_cut_prune:Sig:=[(true,(.sl T_api_Ins)),(false,(.sl T_api_Pair)),(false,(.sl (.int .i64)))]
noncomputable def t_cut_prune:Tbl:=[(40,e_cut_rising),(61,e_slices_Clone___int_int_),(60,e_slices_Delete___int_int_),(24,e_cut_missing)]
theorem tk_cut_prune:∀p∈t_cut_prune,EntOK Go.Proofs.Tryz.prog p.1 p.2:=tbl_cons ok_cut_rising (tbl_cons ok_slices_Clone___int_int_ (tbl_cons ok_slices_Delete___int_int_ (tbl_cons ok_cut_missing (tbl_nil))))
noncomputable def c_cut_prune:Code:=Go.Proofs.Tryz.f31.body.getD .skip
def tb_cut_prune:Tb:=[(4,⟨[1,3,7,12,13,14],[(8,46)]⟩),(13,⟨[1,3,7,10],[]⟩)]
inductive J_cut_prune where | l4 (h:Int) (out:List Int) | l13 (out:List Int) (i:Int)
def T_cut_prune (t:List (El T_api_Ins)) (all:List (El T_api_Pair)) (points:List Int):J_cut_prune→JT J_cut_prune (List Int) |.l4 h out=>.br (decide (h < (Int.ofNat (List.length points)))) (.br ((decide ((0:Int)≤h))&&(decide (h < (Int.ofNat (List.length points))))) (.br (decide ((List.getD points (Int.toNat h) (dflt (.int .i64)))≥(0:Int))) (.br (decide ((List.getD points (Int.toNat h) (dflt (.int .i64))) < (Int.ofNat (List.length t)))) (.br (Nat.ble (((List.length out)+1)*8) limit) (.jmp (.l4 (IntKind.i64.wrap (h+(1:Int))) (out++[(List.getD points (Int.toNat h) (dflt (.int .i64)))]))) (.no)) (.jmp (.l4 (IntKind.i64.wrap (h+(1:Int))) out))) (.jmp (.l4 (IntKind.i64.wrap (h+(1:Int))) out))) (.no)) (.br (k_cut_rising out) (.jmp (.l13 (v_cut_rising out) (0:Int))) (.no)) |.l13 out i=>.br (decide (i < (Int.ofNat (List.length out)))) (.br (k_slices_Clone___int_int_ out) (.br (k_slices_Delete___int_int_ (v_slices_Clone___int_int_ out) i (IntKind.i64.wrap (i+(1:Int)))) (.br (k_cut_missing t all (v_slices_Delete___int_int_ (v_slices_Clone___int_int_ out) i (IntKind.i64.wrap (i+(1:Int))))) (.br ((Int.ofNat (List.length (v_cut_missing t all (v_slices_Delete___int_int_ (v_slices_Clone___int_int_ out) i (IntKind.i64.wrap (i+(1:Int)))))))==(0:Int)) (.jmp (.l13 (v_slices_Delete___int_int_ (v_slices_Clone___int_int_ out) i (IntKind.i64.wrap (i+(1:Int)))) i)) (.jmp (.l13 out (IntKind.i64.wrap (i+(1:Int)))))) (.no)) (.no)) (.no)) (.leaf out)
def T0_cut_prune (t:List (El T_api_Ins)) (all:List (El T_api_Pair)) (points:List Int):JT J_cut_prune (List Int):=.jmp (.l4 (0:Int) [])
def R_cut_prune:List Int→AV:=fun (r:List Int)=>.rw 3 (.int .i64) r
def S_cut_prune (t:List (El T_api_Ins)) (all:List (El T_api_Pair)) (points:List Int):J_cut_prune→Nat×St |.l4 h out=>(4,⟨mkTm 54 [(1,.d (.sl T_api_Pair) all),(3,.pt 4 0 0),(7,.own 8 0 none),(12,.d (.sl (.int .i64)) points),(13,.d (.int .i64) (Int.ofNat (List.length points))),(14,.d (.int .i64) h)],[(4,0,.box 33 [.d (.sl T_api_Ins) t] none),(8,0,.row 3 (.int .i64) out false)]⟩) |.l13 out i=>(13,⟨mkTm 54 [(1,.d (.sl T_api_Pair) all),(3,.pt 4 0 0),(7,.own 8 0 none),(10,.d (.int .i64) i)],[(4,0,.box 33 [.d (.sl T_api_Ins) t] none),(8,0,.row 3 (.int .i64) out false)]⟩)
theorem en_cut_prune (t:List (El T_api_Ins)) (all:List (El T_api_Pair)) (points:List Int) (L:Lt):entryA Go.Proofs.Tryz.prog (clOf t_cut_prune) tb_cut_prune Go.Proofs.Tryz.f31 c_cut_prune L (toForms sg_cut_prune (t,all,points,()))=(T0_cut_prune t all points).run (fun v=>some (R_cut_prune v,tps (toForms sg_cut_prune (t,all,points,())))) fun j=>L (S_cut_prune t all points j).1 (S_cut_prune t all points j).2:=by kernel_rfl
theorem lp_cut_prune (t:List (El T_api_Ins)) (all:List (El T_api_Pair)) (points:List Int):∀(L:Lt) (j:J_cut_prune),procOf (procsF Go.Proofs.Tryz.prog (clOf t_cut_prune) tb_cut_prune Go.Proofs.Tryz.f31 c_cut_prune (toForms sg_cut_prune (t,all,points,()))) (S_cut_prune t all points j).1 L (S_cut_prune t all points j).2=(T_cut_prune t all points j).run (fun v=>some (R_cut_prune v,tps (toForms sg_cut_prune (t,all,points,())))) fun j=>L (S_cut_prune t all points j).1 (S_cut_prune t all points j).2 | L,.l4 h out=>by kernel_rfl | L,.l13 out i=>by kernel_rfl
end
end Go.Ev
end

section
open Go
namespace Go.Ev
noncomputable def v_cut_prune (t:List (El T_api_Ins)) (all:List (El T_api_Pair)) (points:List Int):List Int:=pruneV (uB t) t.length all points
def k_cut_prune (t:List (El T_api_Ins)) (all:List (El T_api_Pair)) (points:List Int):Bool:=flowOK t&&(decide (points.length < 1000000000000)&&decide (all.length < 1000000000000))
theorem puts_len {l:List Int} :(putsL [] l).length≤l.length:=by rw[←risL_eq];exact risL_len
theorem g_cut_prune (t:List (El T_api_Ins)) (all:List (El T_api_Pair)) (points:List Int) (hk:k_cut_prune t all points=true):Goes (T_cut_prune t all points) (T0_cut_prune t all points) (v_cut_prune t all points):=by
 unfold k_cut_prune at hk
 rw[Bool.and_eq_true,Bool.and_eq_true,decide_eq_true_eq,decide_eq_true_eq] at hk
 obtain ⟨hf,hp,hN⟩:=hk
 have second:∀rest done:List Int,(done++rest).length < 1000000000000→Goes (T_cut_prune t all points) (.jmp (.l13 (done++rest) (done.length:Int))) (pruneL (uB t) all done rest):=by
  intro rest
  induction rest with
  | nil=>
   intro done hl
   rw[goes_jmp,T_cut_prune,List.append_nil,goes_br,if_neg (by rw[lt_len_not (Nat.lt_irrefl _)];decide)]
   exact .leaf
  | cons x r ih=>
   intro done hl
   have hlt:done.length < (done++x :: r).length:=by simp
   rw[goes_jmp,T_cut_prune,wrap_succ (by omega)]
   have hcl:k_slices_Clone___int_int_ (done++x :: r)=true:=decide_eq_true (by omega)
   have hvc:v_slices_Clone___int_int_ (done++x :: r)=done++x :: r:=rfl
   rw[hvc]
   have hkd:k_slices_Delete___int_int_ (done++x :: r) (done.length:Int) ((done.length+1:Nat):Int)=true:=decide_eq_true ⟨by omega,by omega,by omega,by omega⟩
   have hvd:v_slices_Delete___int_int_ (done++x :: r) (done.length:Int) ((done.length+1:Nat):Int)=done++r:=by
    unfold v_slices_Delete___int_int_
    rw[Int.toNat_natCast,Int.toNat_natCast,List.take_left' rfl,List.drop_append]
    simp
   rw[hvd]
   have hlr:(done++r).length < 1000000000000:=by simp at hl ⊢;omega
   have hkm:k_cut_missing t all (done++r)=true:=by
    unfold k_cut_missing
    rw[hf,decide_eq_true (show (done++r).length < 4611686018427387904 by omega),decide_eq_true hN];rfl
   have hvm:v_cut_missing t all (done++r)=all.filter (uB t (done++r)):=rfl
   rw[goes_br,if_pos (lt_len hlt),goes_br,if_pos hcl,goes_br,if_pos hkd,goes_br,if_pos hkm,hvm,goes_br,pruneL]
   by_cases hz:(all.filter (uB t (done++r))).length=0
   ·rw[if_pos (by rw[hz];rfl),if_pos hz]
    exact ih done hlr
   ·rw[if_neg (by simp only[beq_iff_eq,Int.ofNat_eq_natCast];omega),if_neg hz]
    have:=ih (done++[x]) (by rw[List.append_assoc];exact hl)
    rw[List.append_assoc,List.length_append] at this
    exact this
 have first:∀k,k≤points.length→∀out:List Int,out.length≤k→Goes (T_cut_prune t all points) (.jmp (.l4 (k:Int) out)) (pruneL (uB t) all [] (putsL [] (out++(points.drop k).filter (inR t.length)))):=by
  refine down ?_ fun k hk ih=>?_
  ·intro out ho
   rw[goes_jmp,T_cut_prune,goes_br,if_neg (by rw[lt_len_not (Nat.lt_irrefl _)];decide),List.drop_length,goes_br,if_pos (show k_cut_rising out=true from decide_eq_true (by omega))]
   simp only[List.filter_nil,List.append_nil]
   have h1:(putsL [] out).length≤out.length:=puts_len
   exact second (putsL [] out) [] (by simp;omega)
  ·intro out ho
   have b1:Nat.ble ((out.length+1)*8) limit=true:=Nat.ble_eq_true_of_le (by unfold limit;omega)
   rw[goes_jmp,T_cut_prune,drop_cons hk,List.filter_cons]
   simp only[goes_br,lt_len hk,nng,Bool.and_self,if_true,Int.toNat_natCast,getD_lt hk,b1,wrap_succ (k:=k) (by omega)]
   have e2:decide (points[k] < Int.ofNat t.length)=decide (points[k] < (t.length:Int)):=rfl
   have e1:inR t.length points[k]=(decide (points[k]≥0)&&decide (points[k] < (t.length:Int))):=rfl
   rw[e1,e2]
   cases c1:decide (points[k]≥0) with
   | true=>
    cases c2:decide (points[k] < (t.length:Int)) with
    | true=>
     have:=ih (out++[points[k]]) (by simp;omega)
     rw[List.append_assoc] at this
     exact this
    | false=>exact ih out (by omega)
   | false=>exact ih out (by omega)
 have:=first 0 (Nat.zero_le _) [] (Nat.zero_le _)
 rw[List.nil_append,List.drop_zero] at this
 exact this
end Go.Ev
end

section
open Go Go.Ev
namespace Go.Ev
noncomputable section
noncomputable def e_cut_prune:Run:=entG sg_cut_prune R_cut_prune (fun a=>k_cut_prune a.1 a.2.1 a.2.2.1) (fun a=>v_cut_prune a.1 a.2.1 a.2.2.1)
theorem ok_cut_prune:EntOK Go.Proofs.Tryz.prog 31 e_cut_prune:=entG_ok (tb:=tb_cut_prune) (c:=c_cut_prune) tk_cut_prune (by kernel_rfl) (by kernel_rfl) (by kernel_rfl) (fun a=>by kernel_rfl) fun ⟨t,all,points,_⟩ hk=>evF_goes (c:=c_cut_prune) (K:=fun v=>(R_cut_prune v,tps (toForms sg_cut_prune (t,all,points,())))) (S:=S_cut_prune t all points) (by kernel_rfl) (en_cut_prune t all points) (lp_cut_prune t all points) (g_cut_prune t all points hk)
end
end Go.Ev
end

section
open Go Go.Ev
namespace Go.Ev
noncomputable section
def sg_cut_points:Sig:=[(true,T_api_Prog),(false,(.int .i64)),(false,(.sl T_api_Pair)),(false,(.sl T_api_Pair))]
noncomputable def t_cut_points:Tbl:=[(25,e_cut_of),(41,e_cut_greedy),(31,e_cut_prune)]
theorem tk_cut_points:∀p∈t_cut_points,EntOK Go.Proofs.Tryz.prog p.1 p.2:=tbl_cons ok_cut_of (tbl_cons ok_cut_greedy (tbl_cons ok_cut_prune (tbl_nil)))
noncomputable def c_cut_points:Code:=Go.Proofs.Tryz.f42.body.getD .skip
def tb_cut_points:Tb:=[(5,⟨[1,3,9,10,11,12,29,30,31],[(12,46),(13,46)]⟩),(13,⟨[9,10,15,57,58,59],[]⟩)]
inductive J_cut_points where | l5 (x:List (El T_api_Ins)) (h:Int) (after:List Int) (ahead:List Int) | l13 (x:List (El T_api_Ins)) (best:List Int) (h:List (List Int)) (h1:Int)
def T_cut_points (p:El T_api_Prog) (t:Int) (pairs:List (El T_api_Pair)) (open_:List (El T_api_Pair)):J_cut_points→JT J_cut_points (List Int) |.l5 x h after ahead=>.br (decide (h < (Int.ofNat (List.length (v_cut_of open_ t))))) (.br ((decide ((0:Int)≤h))&&(decide (h < (Int.ofNat (List.length (v_cut_of open_ t)))))) (.br (Nat.ble (((List.length after)+1)*8) limit) (.br (Nat.ble (((List.length ahead)+1)*8) limit) (.jmp (.l5 x (IntKind.i64.wrap (h+(1:Int))) (after++[(IntKind.i64.wrap ((List.getD (v_cut_of open_ t) (Int.toNat h) (dflt T_api_Pair)).2.1+(1:Int)))]) (ahead++[(List.getD (v_cut_of open_ t) (Int.toNat h) (dflt T_api_Pair)).2.2]))) (.no)) (.no)) (.no)) (.br (k_cut_of open_ t) (.br (k_cut_greedy x (v_cut_of open_ t)) (.br (k_cut_prune x (v_cut_of pairs t) (v_cut_greedy x (v_cut_of open_ t))) (.jmp (.l13 x (v_cut_prune x (v_cut_of pairs t) (v_cut_greedy x (v_cut_of open_ t))) [after,ahead] (0:Int))) (.no)) (.no)) (.no)) |.l13 x best h h1=>.br (decide (h1 < (2:Int))) (.br ((decide ((0:Int)≤h1))&&(decide (h1 < (Int.ofNat (List.length h))))) (.br (k_cut_prune x (v_cut_of pairs t) (List.getD h (Int.toNat h1) (dflt (.sl (.int .i64))))) (.br (decide ((Int.ofNat (List.length (v_cut_prune x (v_cut_of pairs t) (List.getD h (Int.toNat h1) (dflt (.sl (.int .i64))))))) < (Int.ofNat (List.length best)))) (.jmp (.l13 x (v_cut_prune x (v_cut_of pairs t) (List.getD h (Int.toNat h1) (dflt (.sl (.int .i64))))) h (IntKind.i64.wrap (h1+(1:Int))))) (.jmp (.l13 x best h (IntKind.i64.wrap (h1+(1:Int)))))) (.no)) (.no)) (.leaf best)
def T0_cut_points (p:El T_api_Prog) (t:Int) (pairs:List (El T_api_Pair)) (open_:List (El T_api_Pair)):JT J_cut_points (List Int):=.br ((decide ((0:Int)≤t))&&(decide (t < (Int.ofNat (List.length p.2))))) (.br (k_cut_of pairs t) (.br (k_cut_of open_ t) (.jmp (.l5 (List.getD p.2 (Int.toNat t) (dflt (.sl T_api_Ins))) (0:Int) [] [])) (.no)) (.no)) (.no)
def R_cut_points:List Int→AV:=fun (r:List Int)=>.rw 3 (.int .i64) r
def S_cut_points (p:El T_api_Prog) (t:Int) (pairs:List (El T_api_Pair)) (open_:List (El T_api_Pair)):J_cut_points→Nat×St |.l5 x h after ahead=>(5,⟨mkTm 75 [(1,.d (.int .i64) t),(3,.d (.sl T_api_Pair) open_),(9,.pt 10 0 0),(10,.own 11 0 none),(11,.own 12 0 none),(12,.own 13 0 none),(29,.own 30 0 none),(30,.d (.int .i64) (Int.ofNat (List.length (v_cut_of open_ t)))),(31,.d (.int .i64) h)],[(10,0,.box 33 [.d (.sl T_api_Ins) x] none),(11,0,.row 70 T_api_Pair (v_cut_of pairs t) false),(12,0,.row 3 (.int .i64) after false),(13,0,.row 3 (.int .i64) ahead false),(30,0,.row 70 T_api_Pair (v_cut_of open_ t) false)]⟩) |.l13 x best h h1=>(13,⟨mkTm 75 [(9,.pt 10 0 0),(10,.own 11 0 none),(15,.own 16 0 none),(57,.own 58 0 none),(58,.d (.int .i64) (2:Int)),(59,.d (.int .i64) h1)],[(10,0,.box 33 [.d (.sl T_api_Ins) x] none),(11,0,.row 70 T_api_Pair (v_cut_of pairs t) false),(16,0,.row 3 (.int .i64) best false),(58,0,.row 23 (.sl (.int .i64)) h false)]⟩)
theorem en_cut_points (p:El T_api_Prog) (t:Int) (pairs:List (El T_api_Pair)) (open_:List (El T_api_Pair)) (L:Lt):entryA Go.Proofs.Tryz.prog (clOf t_cut_points) tb_cut_points Go.Proofs.Tryz.f42 c_cut_points L (toForms sg_cut_points (p,t,pairs,open_,()))=(T0_cut_points p t pairs open_).run (fun v=>some (R_cut_points v,tps (toForms sg_cut_points (p,t,pairs,open_,())))) fun j=>L (S_cut_points p t pairs open_ j).1 (S_cut_points p t pairs open_ j).2:=by kernel_rfl
theorem lp_cut_points (p:El T_api_Prog) (t:Int) (pairs:List (El T_api_Pair)) (open_:List (El T_api_Pair)):∀(L:Lt) (j:J_cut_points),procOf (procsF Go.Proofs.Tryz.prog (clOf t_cut_points) tb_cut_points Go.Proofs.Tryz.f42 c_cut_points (toForms sg_cut_points (p,t,pairs,open_,()))) (S_cut_points p t pairs open_ j).1 L (S_cut_points p t pairs open_ j).2=(T_cut_points p t pairs open_ j).run (fun v=>some (R_cut_points v,tps (toForms sg_cut_points (p,t,pairs,open_,())))) fun j=>L (S_cut_points p t pairs open_ j).1 (S_cut_points p t pairs open_ j).2 | L,.l5 x h after ahead=>by kernel_rfl | L,.l13 x best h h1=>by kernel_rfl
end
end Go.Ev
end

section
open Go
namespace Go.Ev
def storeIn (x:PairD):Bool:=decide ((0:Int)≤x.2.1∧(show Int from x.2.1) < 1099511627776)
noncomputable def v_cut_points (p:El T_api_Prog) (t:Int) (pairs:List (El T_api_Pair)) (open_:List (El T_api_Pair)):List Int:=pointsV (uB (thrT p t)) (thrT p t).length (pairs.filter (ofB t)) (open_.filter (ofB t))
def k_cut_points (p:El T_api_Prog) (t:Int) (pairs:List (El T_api_Pair)) (open_:List (El T_api_Pair)):Bool:=
 (decide ((0:Int)≤t)&&decide (t < Int.ofNat p.2.length))&&(flowOK (thrT p t)&&(decide (pairs.length < 1000000000)&&(decide (open_.length < 1000000000)&&(open_.filter (ofB t)).all fun x=>loadIn (thrT p t).length x&&storeIn x)))
theorem wrap_store {x:PairD} (h:storeIn x=true):IntKind.i64.wrap ((show Int from x.2.1)+1)=(show Int from x.2.1)+1:=by
 obtain ⟨h1,h2⟩:=of_decide_eq_true h
 have h1:(0:Int)≤(show Int from x.2.1):=h1
 generalize (show Int from x.2.1)=y at*
 exact wrap_i64 (by omega) (by omega)
theorem g_cut_points (p:El T_api_Prog) (t:Int) (pairs:List (El T_api_Pair)) (open_:List (El T_api_Pair)) (hk:k_cut_points p t pairs open_=true):Goes (T_cut_points p t pairs open_) (T0_cut_points p t pairs open_) (v_cut_points p t pairs open_):=by
 unfold k_cut_points at hk
 rw[Bool.and_eq_true] at hk
 obtain ⟨hin,hk⟩:=hk
 rw[Bool.and_eq_true,Bool.and_eq_true,Bool.and_eq_true] at hk
 obtain ⟨hf,hP,hO,hall⟩:=hk
 have hP:=of_decide_eq_true hP
 have hO:=of_decide_eq_true hO
 have hall:=List.all_eq_true.1 hall
 have ho1:((open_.filter (ofB t)).all (loadIn (thrT p t).length))=true:=List.all_eq_true.2 fun x hx=>by
  have:=hall x hx
  rw[Bool.and_eq_true] at this
  exact this.1
 have hs:∀x∈open_.filter (ofB t),storeIn x=true:=fun x hx=>by
  have:=hall x hx
  rw[Bool.and_eq_true] at this
  exact this.2
 have hol:(open_.filter (ofB t)).length≤open_.length:=List.length_filter_le _ _
 have hpl:(pairs.filter (ofB t)).length≤pairs.length:=List.length_filter_le _ _
 have kof1:k_cut_of pairs t=true:=decide_eq_true (by omega)
 have kof2:k_cut_of open_ t=true:=decide_eq_true (by omega)
 have vof1:v_cut_of pairs t=pairs.filter (ofB t):=rfl
 have vof2:v_cut_of open_ t=open_.filter (ofB t):=rfl
 have kg:k_cut_greedy (thrT p t) (open_.filter (ofB t))=true:=by
  unfold k_cut_greedy
  rw[hf,decide_eq_true (show (open_.filter (ofB t)).length < 1000000000 by omega),ho1];rfl
 have kp:∀pts:List Int,pts.length < 1000000000000→k_cut_prune (thrT p t) (pairs.filter (ofB t)) pts=true:=fun pts h=>by
  unfold k_cut_prune
  rw[hf,decide_eq_true h,decide_eq_true (show (pairs.filter (ofB t)).length < 1000000000000 by omega)];rfl
 have hgl:∀(f:Nat) (pts:List Int) (l:List PairD),(greedyL (uB (thrT p t)) (thrT p t).length f pts l).length≤f+pts.length:=by
  intro f
  induction f with
  | zero=>intro pts l;rw[greedyL];omega
  | succ f ih=>
   intro pts l
   rw[greedyL]
   split
   ·omega
   ·have:=ih (pts++[(bestG (uB (thrT p t)) (thrT p t).length pts l).1]) (bestG (uB (thrT p t)) (thrT p t).length pts l).2
    rw[List.length_append,List.length_singleton] at this
    omega
 have hgv:(v_cut_greedy (thrT p t) (open_.filter (ofB t))).length < 1000000000000:=by
  have h1:(v_cut_greedy (thrT p t) (open_.filter (ofB t))).length≤(greedyL (uB (thrT p t)) (thrT p t).length (open_.filter (ofB t)).length [] (open_.filter (ofB t))).length:=puts_len
  have h2:=hgl (open_.filter (ofB t)).length [] (open_.filter (ofB t))
  simp only[List.length_nil,Nat.add_zero] at h2
  omega
 have hx:List.getD p.2 (Int.toNat t) (dflt (.sl T_api_Ins))=thrT p t:=rfl
 have second:∀after ahead:List Int,after.length < 1000000000000→ahead.length < 1000000000000→∀b0:List Int,
   Goes (T_cut_points p t pairs open_) (.jmp (.l13 (thrT p t) b0 [after,ahead] (0:Int))) (shorter (shorter b0 (v_cut_prune (thrT p t) (pairs.filter (ofB t)) after)) (v_cut_prune (thrT p t) (pairs.filter (ofB t)) ahead)):=by
  intro after ahead h1 h2 b0
  have last:∀b:List Int,Goes (T_cut_points p t pairs open_) (.jmp (.l13 (thrT p t) b [after,ahead] (2:Int))) b:=fun b=>by
   rw[goes_jmp,T_cut_points,goes_br,if_neg (by decide)]
   exact .leaf
  have mid:∀b:List Int,Goes (T_cut_points p t pairs open_) (.jmp (.l13 (thrT p t) b [after,ahead] (1:Int))) (shorter b (v_cut_prune (thrT p t) (pairs.filter (ofB t)) ahead)):=fun b=>by
   rw[goes_jmp,T_cut_points,vof1,goes_br,if_pos (by decide),goes_br,if_pos (by rfl),goes_br]
   have e:List.getD [after,ahead] (Int.toNat (1:Int)) (dflt (.sl (.int .i64)))=ahead:=rfl
   have w:IntKind.i64.wrap ((1:Int)+1)=2:=by decide
   rw[e,w,if_pos (kp _ h2),goes_br]
   unfold shorter
   by_cases c:(v_cut_prune (thrT p t) (pairs.filter (ofB t)) ahead).length < b.length
   ·rw[if_pos (len_lt2 c),if_pos c];exact last _
   ·rw[if_neg (by rw[len_nlt2 c];decide),if_neg c];exact last _
  rw[goes_jmp,T_cut_points,vof1,goes_br,if_pos (by decide),goes_br,if_pos (by rfl),goes_br]
  have e:List.getD [after,ahead] (Int.toNat (0:Int)) (dflt (.sl (.int .i64)))=after:=rfl
  have w:IntKind.i64.wrap ((0:Int)+1)=1:=by decide
  rw[e,w,if_pos (kp _ h1),goes_br]
  have s1:shorter b0 (v_cut_prune (thrT p t) (pairs.filter (ofB t)) after)=if (v_cut_prune (thrT p t) (pairs.filter (ofB t)) after).length < b0.length then v_cut_prune (thrT p t) (pairs.filter (ofB t)) after else b0:=rfl
  rw[s1]
  by_cases c:(v_cut_prune (thrT p t) (pairs.filter (ofB t)) after).length < b0.length
  ·rw[if_pos (len_lt2 c),if_pos c];exact mid _
  ·rw[if_neg (by rw[len_nlt2 c];decide),if_neg c];exact mid _
 obtain ⟨O,hOe⟩:∃O,open_.filter (ofB t)=O:=⟨_,rfl⟩
 have first:∀k,k≤O.length→Goes (T_cut_points p t pairs open_) (.jmp (.l5 (thrT p t) (k:Int) ((O.take k).map fun x=>(show Int from x.2.1)+1) ((O.take k).map fun x=>x.2.2))) (v_cut_points p t pairs open_):=by
  rw[hOe] at hol hs vof2 kg hgv
  refine down ?_ fun k hk ih=>?_
  ·rw[goes_jmp,T_cut_points,vof1,vof2,goes_br,if_neg (by rw[lt_len_not (Nat.lt_irrefl _)];decide),goes_br,if_pos kof2,goes_br,if_pos kg,goes_br,if_pos (kp _ hgv),List.take_length]
   have:=second (O.map fun x=>(show Int from x.2.1)+1) (O.map fun x=>x.2.2) (by rw[List.length_map];omega) (by rw[List.length_map];omega) (v_cut_prune (thrT p t) (pairs.filter (ofB t)) (v_cut_greedy (thrT p t) O))
   unfold v_cut_points
   rw[hOe]
   exact this
  ·have b1:Nat.ble ((((O.take k).map fun x=>(show Int from x.2.1)+1).length+1)*8) limit=true:=Nat.ble_eq_true_of_le (by rw[List.length_map,List.length_take];unfold limit;omega)
   have b2:Nat.ble ((((O.take k).map fun x=>(show Int from x.2.2)).length+1)*8) limit=true:=Nat.ble_eq_true_of_le (by rw[List.length_map,List.length_take];unfold limit;omega)
   have hw:=wrap_store (hs _ (List.getElem_mem hk))
   rw[List.take_succ_eq_append_getElem hk,List.map_append,List.map_append] at ih
   rw[goes_jmp,T_cut_points,vof2,goes_br,if_pos (lt_len hk),goes_br,if_pos (by rw[nng,lt_len hk];rfl),goes_br,if_pos b1,goes_br,if_pos b2,Int.toNat_natCast,getD_lt hk,wrap_succ (by omega)]
   have hw':IntKind.i64.wrap (O[k].2.1+(1:Int))=(show Int from O[k].2.1)+1:=hw
   rw[hw']
   exact ih
 unfold T0_cut_points
 rw[goes_br,if_pos hin,goes_br,if_pos kof1,goes_br,if_pos kof2,hx]
 exact first 0 (Nat.zero_le _)
end Go.Ev
end

section
open Go Go.Ev
namespace Go.Ev
noncomputable section
noncomputable def e_cut_points:Run:=entG sg_cut_points R_cut_points (fun a=>k_cut_points a.1 a.2.1 a.2.2.1 a.2.2.2.1) (fun a=>v_cut_points a.1 a.2.1 a.2.2.1 a.2.2.2.1)
theorem ok_cut_points:EntOK Go.Proofs.Tryz.prog 42 e_cut_points:=entG_ok (tb:=tb_cut_points) (c:=c_cut_points) tk_cut_points (by kernel_rfl) (by kernel_rfl) (by kernel_rfl) (fun a=>by kernel_rfl) fun ⟨p,t,pairs,open_,_⟩ hk=>evF_goes (c:=c_cut_points) (K:=fun v=>(R_cut_points v,tps (toForms sg_cut_points (p,t,pairs,open_,())))) (S:=S_cut_points p t pairs open_) (by kernel_rfl) (en_cut_points p t pairs open_) (lp_cut_points p t pairs open_) (g_cut_points p t pairs open_ hk)
end
end Go.Ev
end

section
open Go Go.Ev
namespace Go.Ev
noncomputable section
def sg_cut_Points:Sig:=[(true,T_api_Prog),(false,(.int .i64))]
noncomputable def t_cut_Points:Tbl:=[(23,e_cut_right),(26,e_delay_Pairs),(39,e_delay_Open),(42,e_cut_points)]
theorem tk_cut_Points:∀p∈t_cut_Points,EntOK Go.Proofs.Tryz.prog p.1 p.2:=tbl_cons ok_cut_right (tbl_cons ok_delay_Pairs (tbl_cons ok_delay_Open (tbl_cons ok_cut_points (tbl_nil))))
noncomputable def c_cut_Points:Code:=Go.Proofs.Tryz.f19.body.getD .skip
def tb_cut_Points:Tb:=[(hintK,⟨[],[(1,46)]⟩)]
def T_cut_Points (p:El T_api_Prog) (t:Int):Empty→JT Empty (List Int):=fun j=>nomatch j
def T0_cut_Points (p:El T_api_Prog) (t:Int):JT Empty (List Int):=.br (k_cut_right p t) (.br (! (v_cut_right p t)) (.leaf []) (.br (k_delay_Pairs p) (.br (k_delay_Open p) (.br (k_cut_points p t (v_delay_Pairs p) (v_delay_Open p)) (.leaf (v_cut_points p t (v_delay_Pairs p) (v_delay_Open p))) (.no)) (.no)) (.no))) (.no)
def v_cut_Points (p:El T_api_Prog) (t:Int):List Int:=bif (k_cut_right p t) then bif (! (v_cut_right p t)) then [] else bif (k_delay_Pairs p) then bif (k_delay_Open p) then bif (k_cut_points p t (v_delay_Pairs p) (v_delay_Open p)) then (v_cut_points p t (v_delay_Pairs p) (v_delay_Open p)) else [] else [] else [] else []
def k_cut_Points (p:El T_api_Prog) (t:Int):Bool:=bif (k_cut_right p t) then bif (! (v_cut_right p t)) then true else bif (k_delay_Pairs p) then bif (k_delay_Open p) then bif (k_cut_points p t (v_delay_Pairs p) (v_delay_Open p)) then true else false else false else false else false
theorem g_cut_Points (p:El T_api_Prog) (t:Int) (hk:k_cut_Points p t=true):Goes (T_cut_Points p t) (T0_cut_Points p t) (v_cut_Points p t):=Goes.brk hk (fun hk=>Goes.brk hk (fun hk=>Goes.leaf) (fun hk=>Goes.brk hk (fun hk=>Goes.brk hk (fun hk=>Goes.brk hk (fun hk=>Goes.leaf) (fun hk=>Goes.nok hk)) (fun hk=>Goes.nok hk)) (fun hk=>Goes.nok hk))) (fun hk=>Goes.nok hk)
def R_cut_Points:List Int→AV:=fun (r:List Int)=>.rw 3 (.int .i64) r
def S_cut_Points (p:El T_api_Prog) (t:Int):Empty→Nat×St:=fun j=>nomatch j
theorem en_cut_Points (p:El T_api_Prog) (t:Int) (L:Lt):entryA Go.Proofs.Tryz.prog (clOf t_cut_Points) tb_cut_Points Go.Proofs.Tryz.f19 c_cut_Points L (toForms sg_cut_Points (p,t,()))=(T0_cut_Points p t).run (fun v=>some (R_cut_Points v,tps (toForms sg_cut_Points (p,t,())))) fun j=>L (S_cut_Points p t j).1 (S_cut_Points p t j).2:=by kernel_rfl
theorem lp_cut_Points (p:El T_api_Prog) (t:Int):∀(L:Lt) (j:Empty),procOf (procsF Go.Proofs.Tryz.prog (clOf t_cut_Points) tb_cut_Points Go.Proofs.Tryz.f19 c_cut_Points (toForms sg_cut_Points (p,t,()))) (S_cut_Points p t j).1 L (S_cut_Points p t j).2=(T_cut_Points p t j).run (fun v=>some (R_cut_Points v,tps (toForms sg_cut_Points (p,t,())))) fun j=>L (S_cut_Points p t j).1 (S_cut_Points p t j).2:=fun L j=>nomatch j
noncomputable def e_cut_Points:Run:=entG sg_cut_Points R_cut_Points (fun a=>k_cut_Points a.1 a.2.1) (fun a=>v_cut_Points a.1 a.2.1)
theorem ok_cut_Points:EntOK Go.Proofs.Tryz.prog 19 e_cut_Points:=entG_ok (tb:=tb_cut_Points) (c:=c_cut_Points) tk_cut_Points (by kernel_rfl) (by kernel_rfl) (by kernel_rfl) (fun a=>by kernel_rfl) fun ⟨p,t,_⟩ hk=>evF_goes (c:=c_cut_Points) (K:=fun v=>(R_cut_Points v,tps (toForms sg_cut_Points (p,t,())))) (S:=S_cut_Points p t) (by kernel_rfl) (en_cut_Points p t) (lp_cut_Points p t) (g_cut_Points p t hk)
end
end Go.Ev
end

section
open Go Go.Ev
namespace Go.Ev
noncomputable section
noncomputable def e_book_SameInts:Run:=entG sg_book_SameInts R_book_SameInts (fun a=>k_book_SameInts a.1 a.2.1) (fun a=>v_book_SameInts a.1 a.2.1)
theorem ok_book_SameInts:EntOK Go.Proofs.Tryz.prog 10 e_book_SameInts:=entG_ok (tb:=tb_book_SameInts) (c:=c_book_SameInts) tk_book_SameInts (by kernel_rfl) (by kernel_rfl) (by kernel_rfl) (fun a=>by kernel_rfl) fun ⟨a,b,_⟩ hk=>evF_goes (c:=c_book_SameInts) (K:=fun v=>(R_book_SameInts v,tps (toForms sg_book_SameInts (a,b,())))) (S:=S_book_SameInts a b) (by kernel_rfl) (en_book_SameInts a b) (lp_book_SameInts a b) (g_book_SameInts a b hk)
end
end Go.Ev
end

section
open Go Go.Ev
namespace Go.Ev
noncomputable section
def sg_cut_Covers:Sig:=[(true,T_api_Prog),(false,(.int .i64)),(false,(.sl (.int .i64)))]
noncomputable def t_cut_Covers:Tbl:=[(23,e_cut_right),(26,e_delay_Pairs),(25,e_cut_of),(24,e_cut_missing)]
theorem tk_cut_Covers:∀p∈t_cut_Covers,EntOK Go.Proofs.Tryz.prog p.1 p.2:=tbl_cons ok_cut_right (tbl_cons ok_delay_Pairs (tbl_cons ok_cut_of (tbl_cons ok_cut_missing (tbl_nil))))
noncomputable def c_cut_Covers:Code:=Go.Proofs.Tryz.f8.body.getD .skip
def tb_cut_Covers:Tb:=[]
def T_cut_Covers (p:El T_api_Prog) (t:Int) (points:List Int):Empty→JT Empty (Bool):=fun j=>nomatch j
def T0_cut_Covers (p:El T_api_Prog) (t:Int) (points:List Int):JT Empty (Bool):=.br (k_cut_right p t) (.br (v_cut_right p t) (.br ((decide ((0:Int)≤t))&&(decide (t < (Int.ofNat (List.length p.2))))) (.br (k_delay_Pairs p) (.br (k_cut_of (v_delay_Pairs p) t) (.br (k_cut_missing (List.getD p.2 (Int.toNat t) (dflt (.sl T_api_Ins))) (v_cut_of (v_delay_Pairs p) t) points) (.leaf ((Int.ofNat (List.length (v_cut_missing (List.getD p.2 (Int.toNat t) (dflt (.sl T_api_Ins))) (v_cut_of (v_delay_Pairs p) t) points)))==(0:Int))) (.no)) (.no)) (.no)) (.no)) (.leaf false)) (.no)
def v_cut_Covers (p:El T_api_Prog) (t:Int) (points:List Int):Bool:=bif (k_cut_right p t) then bif (v_cut_right p t) then bif ((decide ((0:Int)≤t))&&(decide (t < (Int.ofNat (List.length p.2))))) then bif (k_delay_Pairs p) then bif (k_cut_of (v_delay_Pairs p) t) then bif (k_cut_missing (List.getD p.2 (Int.toNat t) (dflt (.sl T_api_Ins))) (v_cut_of (v_delay_Pairs p) t) points) then ((Int.ofNat (List.length (v_cut_missing (List.getD p.2 (Int.toNat t) (dflt (.sl T_api_Ins))) (v_cut_of (v_delay_Pairs p) t) points)))==(0:Int)) else false else false else false else false else false else false
def k_cut_Covers (p:El T_api_Prog) (t:Int) (points:List Int):Bool:=bif (k_cut_right p t) then bif (v_cut_right p t) then bif ((decide ((0:Int)≤t))&&(decide (t < (Int.ofNat (List.length p.2))))) then bif (k_delay_Pairs p) then bif (k_cut_of (v_delay_Pairs p) t) then bif (k_cut_missing (List.getD p.2 (Int.toNat t) (dflt (.sl T_api_Ins))) (v_cut_of (v_delay_Pairs p) t) points) then true else false else false else false else false else true else false
theorem g_cut_Covers (p:El T_api_Prog) (t:Int) (points:List Int) (hk:k_cut_Covers p t points=true):Goes (T_cut_Covers p t points) (T0_cut_Covers p t points) (v_cut_Covers p t points):=Goes.brk hk (fun hk=>Goes.brk hk (fun hk=>Goes.brk hk (fun hk=>Goes.brk hk (fun hk=>Goes.brk hk (fun hk=>Goes.brk hk (fun hk=>Goes.leaf) (fun hk=>Goes.nok hk)) (fun hk=>Goes.nok hk)) (fun hk=>Goes.nok hk)) (fun hk=>Goes.nok hk)) (fun hk=>Goes.leaf)) (fun hk=>Goes.nok hk)
def R_cut_Covers:Bool→AV:=fun (r:Bool)=>.d .bool r
def S_cut_Covers (p:El T_api_Prog) (t:Int) (points:List Int):Empty→Nat×St:=fun j=>nomatch j
theorem en_cut_Covers (p:El T_api_Prog) (t:Int) (points:List Int) (L:Lt):entryA Go.Proofs.Tryz.prog (clOf t_cut_Covers) tb_cut_Covers Go.Proofs.Tryz.f8 c_cut_Covers L (toForms sg_cut_Covers (p,t,points,()))=(T0_cut_Covers p t points).run (fun v=>some (R_cut_Covers v,tps (toForms sg_cut_Covers (p,t,points,())))) fun j=>L (S_cut_Covers p t points j).1 (S_cut_Covers p t points j).2:=by kernel_rfl
theorem lp_cut_Covers (p:El T_api_Prog) (t:Int) (points:List Int):∀(L:Lt) (j:Empty),procOf (procsF Go.Proofs.Tryz.prog (clOf t_cut_Covers) tb_cut_Covers Go.Proofs.Tryz.f8 c_cut_Covers (toForms sg_cut_Covers (p,t,points,()))) (S_cut_Covers p t points j).1 L (S_cut_Covers p t points j).2=(T_cut_Covers p t points j).run (fun v=>some (R_cut_Covers v,tps (toForms sg_cut_Covers (p,t,points,())))) fun j=>L (S_cut_Covers p t points j).1 (S_cut_Covers p t points j).2:=fun L j=>nomatch j
noncomputable def e_cut_Covers:Run:=entG sg_cut_Covers R_cut_Covers (fun a=>k_cut_Covers a.1 a.2.1 a.2.2.1) (fun a=>v_cut_Covers a.1 a.2.1 a.2.2.1)
theorem ok_cut_Covers:EntOK Go.Proofs.Tryz.prog 8 e_cut_Covers:=entG_ok (tb:=tb_cut_Covers) (c:=c_cut_Covers) tk_cut_Covers (by kernel_rfl) (by kernel_rfl) (by kernel_rfl) (fun a=>by kernel_rfl) fun ⟨p,t,points,_⟩ hk=>evF_goes (c:=c_cut_Covers) (K:=fun v=>(R_cut_Covers v,tps (toForms sg_cut_Covers (p,t,points,())))) (S:=S_cut_Covers p t points) (by kernel_rfl) (en_cut_Covers p t points) (lp_cut_Covers p t points) (g_cut_Covers p t points hk)
end
end Go.Ev
end

section
open Go Go.Ev
namespace Go.Ev
noncomputable section
def sg_cut_After:Sig:=[(true,T_api_Prog),(false,(.int .i64))]
noncomputable def t_cut_After:Tbl:=[(23,e_cut_right),(39,e_delay_Open),(25,e_cut_of),(40,e_cut_rising)]
theorem tk_cut_After:∀p∈t_cut_After,EntOK Go.Proofs.Tryz.prog p.1 p.2:=tbl_cons ok_cut_right (tbl_cons ok_delay_Open (tbl_cons ok_cut_of (tbl_cons ok_cut_rising (tbl_nil))))
noncomputable def c_cut_After:Code:=Go.Proofs.Tryz.f16.body.getD .skip
def tb_cut_After:Tb:=[(7,⟨[5,15,16,17],[(6,46)]⟩),(hintK,⟨[],[(1,46)]⟩)]
inductive J_cut_After where | l7 (h:Int) (out:List Int)
def T_cut_After (p:El T_api_Prog) (t:Int):J_cut_After→JT J_cut_After (List Int) |.l7 h out=>.br (decide (h < (Int.ofNat (List.length (v_cut_of (v_delay_Open p) t))))) (.br ((decide ((0:Int)≤h))&&(decide (h < (Int.ofNat (List.length (v_cut_of (v_delay_Open p) t)))))) (.br (Nat.ble (((List.length out)+1)*8) limit) (.jmp (.l7 (IntKind.i64.wrap (h+(1:Int))) (out++[(IntKind.i64.wrap ((List.getD (v_cut_of (v_delay_Open p) t) (Int.toNat h) (dflt T_api_Pair)).2.1+(1:Int)))]))) (.no)) (.no)) (.br (k_cut_rising out) (.leaf (v_cut_rising out)) (.no))
def T0_cut_After (p:El T_api_Prog) (t:Int):JT J_cut_After (List Int):=.br (k_cut_right p t) (.br (! (v_cut_right p t)) (.leaf []) (.br (k_delay_Open p) (.br (k_cut_of (v_delay_Open p) t) (.jmp (.l7 (0:Int) [])) (.no)) (.no))) (.no)
def R_cut_After:List Int→AV:=fun (r:List Int)=>.rw 3 (.int .i64) r
def S_cut_After (p:El T_api_Prog) (t:Int):J_cut_After→Nat×St |.l7 h out=>(7,⟨mkTm 30 [(5,.own 6 0 none),(15,.own 16 0 none),(16,.d (.int .i64) (Int.ofNat (List.length (v_cut_of (v_delay_Open p) t)))),(17,.d (.int .i64) h)],[(6,0,.row 3 (.int .i64) out false),(16,0,.row 70 T_api_Pair (v_cut_of (v_delay_Open p) t) false)]⟩)
theorem en_cut_After (p:El T_api_Prog) (t:Int) (L:Lt):entryA Go.Proofs.Tryz.prog (clOf t_cut_After) tb_cut_After Go.Proofs.Tryz.f16 c_cut_After L (toForms sg_cut_After (p,t,()))=(T0_cut_After p t).run (fun v=>some (R_cut_After v,tps (toForms sg_cut_After (p,t,())))) fun j=>L (S_cut_After p t j).1 (S_cut_After p t j).2:=by kernel_rfl
theorem lp_cut_After (p:El T_api_Prog) (t:Int):∀(L:Lt) (j:J_cut_After),procOf (procsF Go.Proofs.Tryz.prog (clOf t_cut_After) tb_cut_After Go.Proofs.Tryz.f16 c_cut_After (toForms sg_cut_After (p,t,()))) (S_cut_After p t j).1 L (S_cut_After p t j).2=(T_cut_After p t j).run (fun v=>some (R_cut_After v,tps (toForms sg_cut_After (p,t,())))) fun j=>L (S_cut_After p t j).1 (S_cut_After p t j).2 | L,.l7 h out=>by kernel_rfl
end
end Go.Ev
end

section
open Go
namespace Go.Ev
noncomputable def allT (p:El T_api_Prog) (t:Int):List PairD:=(v_delay_Pairs p).filter (ofB t)
noncomputable def opT (p:El T_api_Prog) (t:Int):List PairD:=(v_delay_Open p).filter (ofB t)
structure PairIn (p:El T_api_Prog) (x:PairD):Prop where
 th0:0≤(show Int from x.1)
 th1:(show Int from x.1) < (p.2.length:Int)
 flow:flowOK (thrT p x.1)=true
 st0:0≤(show Int from x.2.1)
 st1:(show Int from x.2.1) < ((thrT p x.1).length:Int)
 ld0:0≤(show Int from x.2.2)
 ld1:(show Int from x.2.2) < ((thrT p x.1).length:Int)
structure CutF (p:El T_api_Prog):Prop where
 small:smallAll p=true
 kp:k_delay_Pairs p=true
 ko:k_delay_Open p=true
 eq:v_ref3_Delays p=v_delay_Pairs p
 opq:v_ref3_Open p=v_delay_Open p
 kd:k_ref3_Delays p=true
 kro:k_ref3_Open p=true
 lp:(v_delay_Pairs p).length≤400000000
 lo:(v_delay_Open p).length≤400000000
 pin:∀x∈v_delay_Pairs p,PairIn p x
 osub:∀x∈v_delay_Open p,x∈v_delay_Pairs p∧openB p x=true
 oin:∀x∈v_delay_Pairs p,openB p x=true→x∈v_delay_Open p
 right:∀t,k_cut_right p t=true∧v_cut_right p t=rightT p t
 flow:∀t,rightT p t=true→flowOK (thrT p t)=true∧(decide ((0:Int)≤t)&&decide (t < Int.ofNat p.2.length))=true∧checkC p=0
 thr:p.2.length≤100
theorem right_eq' {p:El T_api_Prog} (h:smallProg p=true) (t:Int):k_cut_right p t=true∧v_cut_right p t=rightT p t:=by
 have hk:k_valid_Check p=true:=h
 have hv:v_valid_Check p=checkC p:=rfl
 unfold k_cut_right v_cut_right rightT
 rw[hk,hv]
 by_cases h0:(0:Int)≤t
 ·rw[decide_eq_true (show t≥0 from h0)]
  by_cases h1:t < (p.2.length:Int)
  ·rw[decide_eq_true (show t < Int.ofNat p.2.length from h1),decide_eq_true h1]
   refine ⟨rfl,?_⟩
   show (checkC p==0)=(true&&(true&&decide (checkC p=0)))
   rw[Bool.true_and,Bool.true_and,Bool.eq_iff_iff,beq_iff_eq,decide_eq_true_eq]
  ·rw[decide_eq_false (show ¬t < Int.ofNat p.2.length from h1),decide_eq_false h1]
   exact ⟨rfl,rfl⟩
 ·rw[decide_eq_false (show ¬t≥0 from h0)]
  exact ⟨rfl,rfl⟩
theorem cut_facts {p:El T_api_Prog} (h:cutOK p=true):CutF p:=by
 unfold cutOK at h
 rw[Bool.and_eq_true,Bool.and_eq_true,decide_eq_true_eq,decide_eq_true_eq] at h
 obtain ⟨hs,hN,hT⟩:=h
 obtain ⟨a1,a2,a3,_,a5,a6,a7,_⟩:=delays_all hs hN hT
 have hA:=smallA hs
 have hl:=dels_len p
 have hNN:(ofC p).length*(ofC p).length≤20000*20000:=Nat.mul_le_mul hN hN
 have hlp:(v_delay_Pairs p).length≤400000000:=by rw[←a3];omega
 have hlo:(v_delay_Open p).length≤(v_delay_Pairs p).length:=by unfold v_delay_Open;exact List.length_filter_le _ _
 refine ⟨hs,a1,a5,a3,a7,a2,a6,hlp,by omega,fun x hx=>?_,fun x hx=>?_,fun x hx ho=>?_,fun t=>right_eq' hA.prog t,fun t ht=>?_,hT⟩
 ·rw[←a3] at hx
  obtain ⟨s,r,s1,r1,_,hd,rfl⟩:=dels_mem hx
  obtain ⟨t0,t1,f1,i0,i1⟩:=acc_facts hs s1
  obtain ⟨_,_,f2,j0,j1⟩:=acc_facts hs r1
  unfold delB at hd
  simp only[Bool.and_eq_true,beq_iff_eq] at hd
  have hth:=hd.1.1
  have e:thrOf p (ofC p) r=thrOf p (ofC p) s:=by unfold thrOf;rw[hth]
  rw[e] at j1
  exact ⟨t0,t1,f1,i0,i1,j0,j1⟩
 ·unfold v_delay_Open at hx
  exact List.mem_filter.1 hx
 ·unfold v_delay_Open
  exact List.mem_filter.2 ⟨hx,ho⟩
 ·unfold rightT at ht
  rw[Bool.and_eq_true,Bool.and_eq_true,decide_eq_true_eq,decide_eq_true_eq,decide_eq_true_eq] at ht
  obtain ⟨h0,h1,h2⟩:=ht
  refine ⟨?_,?_,h2⟩
  ·obtain ⟨n,rfl⟩:=Int.eq_ofNat_of_zero_le h0
   have hn:n < p.2.length:=by omega
   unfold thrT
   rw[Int.toNat_natCast,getD_lt hn]
   exact flow_small (hA.thr _ (List.getElem_mem hn))
  ·rw[decide_eq_true h0,decide_eq_true (show t < Int.ofNat p.2.length from h1)];rfl
theorem opT_in {p:El T_api_Prog} (hF:CutF p) {t:Int} {x:PairD} (hx:x∈opT p t):PairIn p x∧(show Int from x.1)=t:=by
 obtain ⟨h1,h2⟩:=List.mem_filter.1 hx
 exact ⟨hF.pin x (hF.osub x h1).1,by unfold ofB at h2;simpa using h2⟩
theorem store_small {p:El T_api_Prog} {x:PairD} (h:PairIn p x):0≤(show Int from x.2.1)∧(show Int from x.2.1) < 1099511627776:=by
 have h1:=h.st1
 have h2:=flowOK_len h.flow
 refine ⟨h.st0,?_⟩
 generalize (show Int from x.2.1)=y at*
 omega
theorem opT_len {p:El T_api_Prog} (hF:CutF p) (t:Int):(opT p t).length≤400000000:=Nat.le_trans (List.length_filter_le _ _) hF.lo
theorem allT_len {p:El T_api_Prog} (hF:CutF p) (t:Int):(allT p t).length≤400000000:=Nat.le_trans (List.length_filter_le _ _) hF.lp
end Go.Ev
end

section
open Go
namespace Go.Ev
noncomputable def v_cut_After (p:El T_api_Prog) (t:Int):List Int:=if rightT p t=true then putsL [] ((opT p t).map fun x=>(show Int from x.2.1)+1) else []
def k_cut_After (p:El T_api_Prog) (t:Int):Bool:=cutOK p
theorem g_cut_After (p:El T_api_Prog) (t:Int) (hk:k_cut_After p t=true):Goes (T_cut_After p t) (T0_cut_After p t) (v_cut_After p t):=by
 have hF:=cut_facts hk
 obtain ⟨r1,r2⟩:=hF.right t
 unfold T0_cut_After v_cut_After
 rw[goes_br,if_pos r1,r2,goes_br]
 by_cases hr:¬rightT p t=true
 ·rw[if_pos (by simpa using hr),if_neg hr]
  exact .leaf
 have hr:=Decidable.not_not.1 hr
 rw[if_neg (by rw[hr];decide),if_pos hr,goes_br,if_pos hF.ko,goes_br,if_pos (show k_cut_of (v_delay_Open p) t=true from decide_eq_true (by have:=hF.lo;omega))]
 have hv:v_cut_of (v_delay_Open p) t=opT p t:=rfl
 have hN:=opT_len hF t
 have hs:∀x∈opT p t,0≤(show Int from x.2.1)∧(show Int from x.2.1) < 1099511627776:=fun x hx=>store_small (opT_in hF hx).1
 obtain ⟨O,hO⟩:∃O,opT p t=O:=⟨_,rfl⟩
 rw[hO] at hN hs hv ⊢
 have loop:∀k,k≤O.length→Goes (T_cut_After p t) (.jmp (.l7 (k:Int) ((O.take k).map fun x=>(show Int from x.2.1)+1))) (putsL [] (O.map fun x=>(show Int from x.2.1)+1)):=by
  refine down ?_ fun k hk ih=>?_
  ·rw[goes_jmp,T_cut_After,hv,goes_br,if_neg (by rw[lt_len_not (Nat.lt_irrefl _)];decide),List.take_length,goes_br,if_pos (show k_cut_rising _=true from decide_eq_true (by rw[List.length_map];omega))]
   exact .leaf
  ·have b1:Nat.ble ((((O.take k).map fun x=>(show Int from x.2.1)+1).length+1)*8) limit=true:=Nat.ble_eq_true_of_le (by rw[List.length_map,List.length_take];unfold limit;omega)
   obtain ⟨s0,s1⟩:=hs _ (List.getElem_mem hk)
   have hw:IntKind.i64.wrap (O[k].2.1+(1:Int))=(show Int from O[k].2.1)+1:=by
    show IntKind.i64.wrap ((show Int from O[k].2.1)+(1:Int))=_
    generalize (show Int from O[k].2.1)=y at*
    exact wrap_i64 (by omega) (by omega)
   rw[List.take_succ_eq_append_getElem hk,List.map_append] at ih
   rw[goes_jmp,T_cut_After,hv,goes_br,if_pos (lt_len hk),goes_br,if_pos (by rw[nng,lt_len hk];rfl),goes_br,if_pos b1,Int.toNat_natCast,getD_lt hk,wrap_succ (by omega),hw]
   exact ih
 exact loop 0 (Nat.zero_le _)
end Go.Ev
end

section
open Go Go.Ev
namespace Go.Ev
noncomputable section
noncomputable def e_cut_After:Run:=entG sg_cut_After R_cut_After (fun a=>k_cut_After a.1 a.2.1) (fun a=>v_cut_After a.1 a.2.1)
theorem ok_cut_After:EntOK Go.Proofs.Tryz.prog 16 e_cut_After:=entG_ok (tb:=tb_cut_After) (c:=c_cut_After) tk_cut_After (by kernel_rfl) (by kernel_rfl) (by kernel_rfl) (fun a=>by kernel_rfl) fun ⟨p,t,_⟩ hk=>evF_goes (c:=c_cut_After) (K:=fun v=>(R_cut_After v,tps (toForms sg_cut_After (p,t,())))) (S:=S_cut_After p t) (by kernel_rfl) (en_cut_After p t) (lp_cut_After p t) (g_cut_After p t hk)
end
end Go.Ev
end

section
open Go Go.Ev
namespace Go.Ev
noncomputable section
def sg_cut_All:Sig:=[(true,T_api_Prog)]
noncomputable def t_cut_All:Tbl:=[(43,e_valid_Check),(26,e_delay_Pairs),(39,e_delay_Open),(42,e_cut_points)]
theorem tk_cut_All:∀p∈t_cut_All,EntOK Go.Proofs.Tryz.prog p.1 p.2:=tbl_cons ok_valid_Check (tbl_cons ok_delay_Pairs (tbl_cons ok_delay_Open (tbl_cons ok_cut_points (tbl_nil))))
noncomputable def c_cut_All:Code:=Go.Proofs.Tryz.f20.body.getD .skip
def tb_cut_All:Tb:=[(8,⟨[1,3,4,5,20,21],[]⟩),(hintK,⟨[],[(1,86)]⟩)]
inductive J_cut_All where | l8 (h:Int) (out:List (List Int))
def T_cut_All (p:El T_api_Prog):J_cut_All→JT J_cut_All (List (List Int)) |.l8 h out=>.br (decide (h < (Int.ofNat (List.length p.2)))) (.br (k_cut_points p h (v_delay_Pairs p) (v_delay_Open p)) (.br ((decide ((0:Int)≤h))&&(decide (h < (Int.ofNat (List.length out))))) (.jmp (.l8 (IntKind.i64.wrap (h+(1:Int))) (List.set out (Int.toNat h) (v_cut_points p h (v_delay_Pairs p) (v_delay_Open p))))) (.no)) (.no)) (.leaf out)
def T0_cut_All (p:El T_api_Prog):JT J_cut_All (List (List Int)):=.br (k_valid_Check p) (.br ((v_valid_Check p) !=(0:Int)) (.leaf []) (.br (k_delay_Pairs p) (.br (k_delay_Open p) (.br ((((Int.ofNat (List.length p.2))==(Int.ofNat (List.length p.2)))&&(decide ((0:Int)≤(Int.ofNat (List.length p.2)))))&&(decide (((Int.ofNat (List.length p.2))*(24:Int))≤(limit:Int)))) (.jmp (.l8 (0:Int) (List.replicate (List.length p.2) []))) (.no)) (.no)) (.no))) (.no)
def R_cut_All:List (List Int)→AV:=fun (r:List (List Int))=>.rw 23 (.sl (.int .i64)) r
def S_cut_All (p:El T_api_Prog):J_cut_All→Nat×St |.l8 h out=>(8,⟨mkTm 34 [(1,.pt 2 0 0),(3,.own 4 0 none),(4,.own 5 0 none),(5,.own 6 0 none),(20,.d (.int .i64) (Int.ofNat (List.length p.2))),(21,.d (.int .i64) h)],[(2,0,.box 27 [.d (.sl T_api_Sym) p.1,.d (.sl (.sl T_api_Ins)) p.2] none),(4,0,.row 70 T_api_Pair (v_delay_Pairs p) false),(5,0,.row 70 T_api_Pair (v_delay_Open p) false),(6,0,.row 23 (.sl (.int .i64)) out false)]⟩)
theorem en_cut_All (p:El T_api_Prog) (L:Lt):entryA Go.Proofs.Tryz.prog (clOf t_cut_All) tb_cut_All Go.Proofs.Tryz.f20 c_cut_All L (toForms sg_cut_All (p,()))=(T0_cut_All p).run (fun v=>some (R_cut_All v,tps (toForms sg_cut_All (p,())))) fun j=>L (S_cut_All p j).1 (S_cut_All p j).2:=by kernel_rfl
theorem lp_cut_All (p:El T_api_Prog):∀(L:Lt) (j:J_cut_All),procOf (procsF Go.Proofs.Tryz.prog (clOf t_cut_All) tb_cut_All Go.Proofs.Tryz.f20 c_cut_All (toForms sg_cut_All (p,()))) (S_cut_All p j).1 L (S_cut_All p j).2=(T_cut_All p j).run (fun v=>some (R_cut_All v,tps (toForms sg_cut_All (p,())))) fun j=>L (S_cut_All p j).1 (S_cut_All p j).2 | L,.l8 h out=>by kernel_rfl
end
end Go.Ev
end

section
open Go
namespace Go.Ev
noncomputable def v_cut_All (p:El T_api_Prog):List (List Int):=if checkC p=0 then (List.range p.2.length).map fun t:Nat=>v_cut_points p (t:Int) (v_delay_Pairs p) (v_delay_Open p) else []
def k_cut_All (p:El T_api_Prog):Bool:=cutOK p
theorem k_points_all {p:El T_api_Prog} (hF:CutF p) {t:Int} (hr:rightT p t=true):k_cut_points p t (v_delay_Pairs p) (v_delay_Open p)=true:=by
 obtain ⟨f1,f2,_⟩:=hF.flow t hr
 have h1:=hF.lp
 have h2:=hF.lo
 unfold k_cut_points
 rw[f2,f1,decide_eq_true (show (v_delay_Pairs p).length < 1000000000 by omega),decide_eq_true (show (v_delay_Open p).length < 1000000000 by omega),Bool.true_and,Bool.true_and,Bool.true_and,Bool.true_and]
 refine List.all_eq_true.2 fun x hx=>?_
 obtain ⟨hp,ht⟩:=opT_in hF hx
 have s:=store_small hp
 have l0:=hp.ld0
 have l1:=hp.ld1
 have e:thrT p (show Int from x.1)=thrT p t:=by rw[ht]
 rw[show thrT p x.1=thrT p t from e] at l1
 unfold loadIn storeIn
 rw[Bool.and_eq_true,decide_eq_true_eq,decide_eq_true_eq]
 exact ⟨⟨l0,l1⟩,s⟩
theorem g_cut_All (p:El T_api_Prog) (hk:k_cut_All p=true):Goes (T_cut_All p) (T0_cut_All p) (v_cut_All p):=by
 have hF:=cut_facts hk
 have hA:=smallA hF.small
 have hT:=hF.thr
 have hkc:k_valid_Check p=true:=hA.prog
 have hvc:v_valid_Check p=checkC p:=rfl
 have hmk:((((Int.ofNat (List.length p.2))==(Int.ofNat (List.length p.2)))&&(decide ((0:Int)≤(Int.ofNat (List.length p.2)))))&&(decide (((Int.ofNat (List.length p.2))*(24:Int))≤(limit:Int))))=true:=by
  rw[beq_self_eq_true,decide_eq_true (show (0:Int)≤Int.ofNat (List.length p.2) from Int.natCast_nonneg _),Bool.true_and,Bool.true_and]
  refine decide_eq_true ?_
  show ((List.length p.2:Nat):Int)*24≤((35184372088832:Nat):Int)
  omega
 unfold T0_cut_All v_cut_All
 rw[goes_br,if_pos hkc,hvc,goes_br]
 by_cases hc:checkC p=0
 ·rw[if_neg (by rw[hc];decide),if_pos hc,goes_br,if_pos hF.kp,goes_br,if_pos hF.ko,goes_br,if_pos hmk]
  have hr:∀k,k < p.2.length→rightT p (k:Int)=true:=fun k hk=>by
   unfold rightT
   rw[decide_eq_true (Int.natCast_nonneg k),decide_eq_true (show (k:Int) < (p.2.length:Int) by omega),decide_eq_true hc];rfl
  obtain ⟨V,hV⟩:∃V:Nat→List Int,V=fun t:Nat=>v_cut_points p (t:Int) (v_delay_Pairs p) (v_delay_Open p):=⟨_,rfl⟩
  have loop:∀k,k≤p.2.length→Goes (T_cut_All p) (.jmp (.l8 (k:Int) ((List.range p.2.length).map fun t=>if t < k then V t else []))) ((List.range p.2.length).map V):=by
   refine down ?_ fun k hk ih=>?_
   ·rw[goes_jmp,T_cut_All,goes_br,if_neg (by rw[lt_len_not (Nat.lt_irrefl _)];decide)]
    have:((List.range p.2.length).map fun t=>if t < p.2.length then V t else [])=(List.range p.2.length).map V:=List.map_congr_left fun t ht=>by rw[if_pos (List.mem_range.1 ht)]
    rw[this]
    exact .leaf
   ·have hlen:((List.range p.2.length).map fun t=>if t < k then V t else []).length=p.2.length:=by simp
    rw[goes_jmp,T_cut_All,goes_br,if_pos (lt_len hk),goes_br,if_pos (k_points_all hF (hr k hk)),goes_br,if_pos (by rw[nng,hlen,lt_len hk];rfl),Int.toNat_natCast,wrap_succ (by omega)]
    have e:((List.range p.2.length).map fun t=>if t < k then V t else []).set k (v_cut_points p (k:Int) (v_delay_Pairs p) (v_delay_Open p))=(List.range p.2.length).map fun t=>if t < k+1 then V t else []:=by
     apply List.ext_getElem
     ·simp
     ·intro i h1 h2
      rw[List.getElem_set]
      simp only[List.getElem_map,List.getElem_range]
      by_cases e:k=i
      ·subst e
       rw[if_pos rfl,if_pos (by omega),hV]
      ·rw[if_neg e]
       by_cases e2:i < k
       ·rw[if_pos e2,if_pos (by omega)]
       ·rw[if_neg e2,if_neg (by omega)]
    rw[e]
    exact ih
  have:=loop 0 (Nat.zero_le _)
  have e0:((List.range p.2.length).map fun t=>if t < 0 then V t else ([]:List Int))=List.replicate p.2.length []:=by
   rw[show (fun t=>if t < 0 then V t else ([]:List Int))=fun _=>[] from funext fun t=>if_neg (Nat.not_lt_zero t),List.map_const',List.length_range]
  rw[e0] at this
  rw[hV] at this
  exact this
 ·rw[if_pos (by simpa using hc),if_neg hc]
  exact .leaf
end Go.Ev
end

section
open Go Go.Ev
namespace Go.Ev
noncomputable section
noncomputable def e_cut_All:Run:=entG sg_cut_All R_cut_All (fun a=>k_cut_All a.1) (fun a=>v_cut_All a.1)
theorem ok_cut_All:EntOK Go.Proofs.Tryz.prog 20 e_cut_All:=entG_ok (tb:=tb_cut_All) (c:=c_cut_All) tk_cut_All (by kernel_rfl) (by kernel_rfl) (by kernel_rfl) (fun a=>by kernel_rfl) fun ⟨p,_⟩ hk=>evF_goes (c:=c_cut_All) (K:=fun v=>(R_cut_All v,tps (toForms sg_cut_All (p,())))) (S:=S_cut_All p) (by kernel_rfl) (en_cut_All p) (lp_cut_All p) (g_cut_All p hk)
end
end Go.Ev
end

section
open Go Go.Ev
namespace Go.Ev
noncomputable section
def sg_law25_alive:Sig:=[]
noncomputable def t_law25_alive:Tbl:=[(35,e_law25_both),(19,e_cut_Points),(10,e_book_SameInts),(8,e_cut_Covers),(16,e_cut_After),(20,e_cut_All)]
theorem tk_law25_alive:∀p∈t_law25_alive,EntOK Go.Proofs.Tryz.prog p.1 p.2:=tbl_cons ok_law25_both (tbl_cons ok_cut_Points (tbl_cons ok_book_SameInts (tbl_cons ok_cut_Covers (tbl_cons ok_cut_After (tbl_cons ok_cut_All (tbl_nil))))))
noncomputable def c_law25_alive:Code:=Go.Proofs.Tryz.f13.body.getD .skip
def tb_law25_alive:Tb:=[]
def T_law25_alive:Empty→JT Empty (Bool):=fun j=>nomatch j
def T0_law25_alive:JT Empty (Bool):=.br (k_cut_Points v_law25_both (0:Int)) (.br (k_book_SameInts (v_cut_Points v_law25_both (0:Int)) [(1:Int)]) (.br (v_book_SameInts (v_cut_Points v_law25_both (0:Int)) [(1:Int)]) (.br (k_cut_Covers v_law25_both (0:Int) [(1:Int)]) (.br (v_cut_Covers v_law25_both (0:Int) [(1:Int)]) (.br (k_cut_Covers v_law25_both (0:Int) []) (.br (! (v_cut_Covers v_law25_both (0:Int) [])) (.br (k_cut_After v_law25_both (1:Int)) (.br (k_book_SameInts (v_cut_After v_law25_both (1:Int)) [(1:Int)]) (.br (v_book_SameInts (v_cut_After v_law25_both (1:Int)) [(1:Int)]) (.br (k_cut_All v_law25_both) (.br ((Int.ofNat (List.length (v_cut_All v_law25_both)))==(2:Int)) (.br (k_cut_Covers v_law25_both (2:Int) []) (.leaf (! (v_cut_Covers v_law25_both (2:Int) []))) (.no)) (.leaf false)) (.no)) (.leaf false)) (.no)) (.no)) (.leaf false)) (.no)) (.leaf false)) (.no)) (.leaf false)) (.no)) (.no)
def v_law25_alive:Bool:=bif (k_cut_Points v_law25_both (0:Int)) then bif (k_book_SameInts (v_cut_Points v_law25_both (0:Int)) [(1:Int)]) then bif (v_book_SameInts (v_cut_Points v_law25_both (0:Int)) [(1:Int)]) then bif (k_cut_Covers v_law25_both (0:Int) [(1:Int)]) then bif (v_cut_Covers v_law25_both (0:Int) [(1:Int)]) then bif (k_cut_Covers v_law25_both (0:Int) []) then bif (! (v_cut_Covers v_law25_both (0:Int) [])) then bif (k_cut_After v_law25_both (1:Int)) then bif (k_book_SameInts (v_cut_After v_law25_both (1:Int)) [(1:Int)]) then bif (v_book_SameInts (v_cut_After v_law25_both (1:Int)) [(1:Int)]) then bif (k_cut_All v_law25_both) then bif ((Int.ofNat (List.length (v_cut_All v_law25_both)))==(2:Int)) then bif (k_cut_Covers v_law25_both (2:Int) []) then (! (v_cut_Covers v_law25_both (2:Int) [])) else false else false else false else false else false else false else false else false else false else false else false else false else false
def k_law25_alive:Bool:=bif (k_cut_Points v_law25_both (0:Int)) then bif (k_book_SameInts (v_cut_Points v_law25_both (0:Int)) [(1:Int)]) then bif (v_book_SameInts (v_cut_Points v_law25_both (0:Int)) [(1:Int)]) then bif (k_cut_Covers v_law25_both (0:Int) [(1:Int)]) then bif (v_cut_Covers v_law25_both (0:Int) [(1:Int)]) then bif (k_cut_Covers v_law25_both (0:Int) []) then bif (! (v_cut_Covers v_law25_both (0:Int) [])) then bif (k_cut_After v_law25_both (1:Int)) then bif (k_book_SameInts (v_cut_After v_law25_both (1:Int)) [(1:Int)]) then bif (v_book_SameInts (v_cut_After v_law25_both (1:Int)) [(1:Int)]) then bif (k_cut_All v_law25_both) then bif ((Int.ofNat (List.length (v_cut_All v_law25_both)))==(2:Int)) then bif (k_cut_Covers v_law25_both (2:Int) []) then true else false else true else false else true else false else false else true else false else true else false else true else false else false
theorem g_law25_alive (hk:k_law25_alive=true):Goes (T_law25_alive) (T0_law25_alive) (v_law25_alive):=Goes.brk hk (fun hk=>Goes.brk hk (fun hk=>Goes.brk hk (fun hk=>Goes.brk hk (fun hk=>Goes.brk hk (fun hk=>Goes.brk hk (fun hk=>Goes.brk hk (fun hk=>Goes.brk hk (fun hk=>Goes.brk hk (fun hk=>Goes.brk hk (fun hk=>Goes.brk hk (fun hk=>Goes.brk hk (fun hk=>Goes.brk hk (fun hk=>Goes.leaf) (fun hk=>Goes.nok hk)) (fun hk=>Goes.leaf)) (fun hk=>Goes.nok hk)) (fun hk=>Goes.leaf)) (fun hk=>Goes.nok hk)) (fun hk=>Goes.nok hk)) (fun hk=>Goes.leaf)) (fun hk=>Goes.nok hk)) (fun hk=>Goes.leaf)) (fun hk=>Goes.nok hk)) (fun hk=>Goes.leaf)) (fun hk=>Goes.nok hk)) (fun hk=>Goes.nok hk)
def R_law25_alive:Bool→AV:=fun (r:Bool)=>.d .bool r
def S_law25_alive:Empty→Nat×St:=fun j=>nomatch j
theorem en_law25_alive (L:Lt):entryA Go.Proofs.Tryz.prog (clOf t_law25_alive) tb_law25_alive Go.Proofs.Tryz.f13 c_law25_alive L (toForms sg_law25_alive (()))=(T0_law25_alive).run (fun v=>some (R_law25_alive v,tps (toForms sg_law25_alive (())))) fun j=>L (S_law25_alive j).1 (S_law25_alive j).2:=by kernel_rfl
theorem lp_law25_alive:∀(L:Lt) (j:Empty),procOf (procsF Go.Proofs.Tryz.prog (clOf t_law25_alive) tb_law25_alive Go.Proofs.Tryz.f13 c_law25_alive (toForms sg_law25_alive (()))) (S_law25_alive j).1 L (S_law25_alive j).2=(T_law25_alive j).run (fun v=>some (R_law25_alive v,tps (toForms sg_law25_alive (())))) fun j=>L (S_law25_alive j).1 (S_law25_alive j).2:=fun L j=>nomatch j
noncomputable def e_law25_alive:Run:=entG sg_law25_alive R_law25_alive (fun a=>k_law25_alive) (fun a=>v_law25_alive)
theorem ok_law25_alive:EntOK Go.Proofs.Tryz.prog 13 e_law25_alive:=entG_ok (tb:=tb_law25_alive) (c:=c_law25_alive) tk_law25_alive (by kernel_rfl) (by kernel_rfl) (by kernel_rfl) (fun a=>by kernel_rfl) fun _ hk=>evF_goes (c:=c_law25_alive) (K:=fun v=>(R_law25_alive v,tps (toForms sg_law25_alive (())))) (S:=S_law25_alive) (by kernel_rfl) (en_law25_alive) (lp_law25_alive) (g_law25_alive hk)
end
end Go.Ev
end

section
open Go Go.Ev
namespace Go.Ev
noncomputable section
def sg_book_Ints:Sig:=[(false,(.sl (.int .i64))),(false,(.int .i64))]
noncomputable def t_book_Ints:Tbl:=[]
theorem tk_book_Ints:∀p∈t_book_Ints,EntOK Go.Proofs.Tryz.prog p.1 p.2:=tbl_nil
noncomputable def c_book_Ints:Code:=Go.Proofs.Tryz.f6.body.getD .skip
def tb_book_Ints:Tb:=[]
def T_book_Ints (l:List Int) (most:Int):Empty→JT Empty (List Int):=fun j=>nomatch j
def T0_book_Ints (l:List Int) (most:Int):JT Empty (List Int):=.br ((((decide ((0:Int)≤(minI (Int.ofNat (List.length l)) most)))&&(decide ((minI (Int.ofNat (List.length l)) most)≤(Int.ofNat (List.length l)))))&&true)&&(decide ((0:Int)≤(minI (Int.ofNat (List.length l)) most)))) (.br (Nat.ble ((List.length (List.take (Int.toNat (minI (Int.ofNat (List.length l)) most)) l))*8) limit) (.leaf (List.take (Int.toNat (minI (Int.ofNat (List.length l)) most)) l)) (.no)) (.no)
def v_book_Ints (l:List Int) (most:Int):List Int:=bif ((((decide ((0:Int)≤(minI (Int.ofNat (List.length l)) most)))&&(decide ((minI (Int.ofNat (List.length l)) most)≤(Int.ofNat (List.length l)))))&&true)&&(decide ((0:Int)≤(minI (Int.ofNat (List.length l)) most)))) then bif (Nat.ble ((List.length (List.take (Int.toNat (minI (Int.ofNat (List.length l)) most)) l))*8) limit) then (List.take (Int.toNat (minI (Int.ofNat (List.length l)) most)) l) else [] else []
def k_book_Ints (l:List Int) (most:Int):Bool:=bif ((((decide ((0:Int)≤(minI (Int.ofNat (List.length l)) most)))&&(decide ((minI (Int.ofNat (List.length l)) most)≤(Int.ofNat (List.length l)))))&&true)&&(decide ((0:Int)≤(minI (Int.ofNat (List.length l)) most)))) then bif (Nat.ble ((List.length (List.take (Int.toNat (minI (Int.ofNat (List.length l)) most)) l))*8) limit) then true else false else false
theorem g_book_Ints (l:List Int) (most:Int) (hk:k_book_Ints l most=true):Goes (T_book_Ints l most) (T0_book_Ints l most) (v_book_Ints l most):=Goes.brk hk (fun hk=>Goes.brk hk (fun hk=>Goes.leaf) (fun hk=>Goes.nok hk)) (fun hk=>Goes.nok hk)
def R_book_Ints:List Int→AV:=fun (r:List Int)=>.rw 3 (.int .i64) r
def S_book_Ints (l:List Int) (most:Int):Empty→Nat×St:=fun j=>nomatch j
theorem en_book_Ints (l:List Int) (most:Int) (L:Lt):entryA Go.Proofs.Tryz.prog (clOf t_book_Ints) tb_book_Ints Go.Proofs.Tryz.f6 c_book_Ints L (toForms sg_book_Ints (l,most,()))=(T0_book_Ints l most).run (fun v=>some (R_book_Ints v,tps (toForms sg_book_Ints (l,most,())))) fun j=>L (S_book_Ints l most j).1 (S_book_Ints l most j).2:=by kernel_rfl
theorem lp_book_Ints (l:List Int) (most:Int):∀(L:Lt) (j:Empty),procOf (procsF Go.Proofs.Tryz.prog (clOf t_book_Ints) tb_book_Ints Go.Proofs.Tryz.f6 c_book_Ints (toForms sg_book_Ints (l,most,()))) (S_book_Ints l most j).1 L (S_book_Ints l most j).2=(T_book_Ints l most j).run (fun v=>some (R_book_Ints v,tps (toForms sg_book_Ints (l,most,())))) fun j=>L (S_book_Ints l most j).1 (S_book_Ints l most j).2:=fun L j=>nomatch j
noncomputable def e_book_Ints:Run:=entG sg_book_Ints R_book_Ints (fun a=>k_book_Ints a.1 a.2.1) (fun a=>v_book_Ints a.1 a.2.1)
theorem ok_book_Ints:EntOK Go.Proofs.Tryz.prog 6 e_book_Ints:=entG_ok (tb:=tb_book_Ints) (c:=c_book_Ints) tk_book_Ints (by kernel_rfl) (by kernel_rfl) (by kernel_rfl) (fun a=>by kernel_rfl) fun ⟨l,most,_⟩ hk=>evF_goes (c:=c_book_Ints) (K:=fun v=>(R_book_Ints v,tps (toForms sg_book_Ints (l,most,())))) (S:=S_book_Ints l most) (by kernel_rfl) (en_book_Ints l most) (lp_book_Ints l most) (g_book_Ints l most hk)
end
end Go.Ev
end

section
open Go Go.Ev
namespace Go.Ev
noncomputable section
def sg_cut_Ahead:Sig:=[(true,T_api_Prog),(false,(.int .i64))]
noncomputable def t_cut_Ahead:Tbl:=[(23,e_cut_right),(39,e_delay_Open),(25,e_cut_of),(40,e_cut_rising)]
theorem tk_cut_Ahead:∀p∈t_cut_Ahead,EntOK Go.Proofs.Tryz.prog p.1 p.2:=tbl_cons ok_cut_right (tbl_cons ok_delay_Open (tbl_cons ok_cut_of (tbl_cons ok_cut_rising (tbl_nil))))
noncomputable def c_cut_Ahead:Code:=Go.Proofs.Tryz.f17.body.getD .skip
def tb_cut_Ahead:Tb:=[(7,⟨[5,15,16,17],[(6,46)]⟩),(hintK,⟨[],[(1,46)]⟩)]
inductive J_cut_Ahead where | l7 (h:Int) (out:List Int)
def T_cut_Ahead (p:El T_api_Prog) (t:Int):J_cut_Ahead→JT J_cut_Ahead (List Int) |.l7 h out=>.br (decide (h < (Int.ofNat (List.length (v_cut_of (v_delay_Open p) t))))) (.br ((decide ((0:Int)≤h))&&(decide (h < (Int.ofNat (List.length (v_cut_of (v_delay_Open p) t)))))) (.br (Nat.ble (((List.length out)+1)*8) limit) (.jmp (.l7 (IntKind.i64.wrap (h+(1:Int))) (out++[(List.getD (v_cut_of (v_delay_Open p) t) (Int.toNat h) (dflt T_api_Pair)).2.2]))) (.no)) (.no)) (.br (k_cut_rising out) (.leaf (v_cut_rising out)) (.no))
def T0_cut_Ahead (p:El T_api_Prog) (t:Int):JT J_cut_Ahead (List Int):=.br (k_cut_right p t) (.br (! (v_cut_right p t)) (.leaf []) (.br (k_delay_Open p) (.br (k_cut_of (v_delay_Open p) t) (.jmp (.l7 (0:Int) [])) (.no)) (.no))) (.no)
def R_cut_Ahead:List Int→AV:=fun (r:List Int)=>.rw 3 (.int .i64) r
def S_cut_Ahead (p:El T_api_Prog) (t:Int):J_cut_Ahead→Nat×St |.l7 h out=>(7,⟨mkTm 29 [(5,.own 6 0 none),(15,.own 16 0 none),(16,.d (.int .i64) (Int.ofNat (List.length (v_cut_of (v_delay_Open p) t)))),(17,.d (.int .i64) h)],[(6,0,.row 3 (.int .i64) out false),(16,0,.row 70 T_api_Pair (v_cut_of (v_delay_Open p) t) false)]⟩)
theorem en_cut_Ahead (p:El T_api_Prog) (t:Int) (L:Lt):entryA Go.Proofs.Tryz.prog (clOf t_cut_Ahead) tb_cut_Ahead Go.Proofs.Tryz.f17 c_cut_Ahead L (toForms sg_cut_Ahead (p,t,()))=(T0_cut_Ahead p t).run (fun v=>some (R_cut_Ahead v,tps (toForms sg_cut_Ahead (p,t,())))) fun j=>L (S_cut_Ahead p t j).1 (S_cut_Ahead p t j).2:=by kernel_rfl
theorem lp_cut_Ahead (p:El T_api_Prog) (t:Int):∀(L:Lt) (j:J_cut_Ahead),procOf (procsF Go.Proofs.Tryz.prog (clOf t_cut_Ahead) tb_cut_Ahead Go.Proofs.Tryz.f17 c_cut_Ahead (toForms sg_cut_Ahead (p,t,()))) (S_cut_Ahead p t j).1 L (S_cut_Ahead p t j).2=(T_cut_Ahead p t j).run (fun v=>some (R_cut_Ahead v,tps (toForms sg_cut_Ahead (p,t,())))) fun j=>L (S_cut_Ahead p t j).1 (S_cut_Ahead p t j).2 | L,.l7 h out=>by kernel_rfl
end
end Go.Ev
end

section
open Go
namespace Go.Ev
noncomputable def v_cut_Ahead (p:El T_api_Prog) (t:Int):List Int:=if rightT p t=true then putsL [] ((opT p t).map fun x=>x.2.2) else []
def k_cut_Ahead (p:El T_api_Prog) (t:Int):Bool:=cutOK p
theorem g_cut_Ahead (p:El T_api_Prog) (t:Int) (hk:k_cut_Ahead p t=true):Goes (T_cut_Ahead p t) (T0_cut_Ahead p t) (v_cut_Ahead p t):=by
 have hF:=cut_facts hk
 obtain ⟨r1,r2⟩:=hF.right t
 unfold T0_cut_Ahead v_cut_Ahead
 rw[goes_br,if_pos r1,r2,goes_br]
 by_cases hr:¬rightT p t=true
 ·rw[if_pos (by simpa using hr),if_neg hr]
  exact .leaf
 have hr:=Decidable.not_not.1 hr
 rw[if_neg (by rw[hr];decide),if_pos hr,goes_br,if_pos hF.ko,goes_br,if_pos (show k_cut_of (v_delay_Open p) t=true from decide_eq_true (by have:=hF.lo;omega))]
 have hv:v_cut_of (v_delay_Open p) t=opT p t:=rfl
 have hN:=opT_len hF t
 obtain ⟨O,hO⟩:∃O,opT p t=O:=⟨_,rfl⟩
 rw[hO] at hN hv ⊢
 have loop:∀k,k≤O.length→Goes (T_cut_Ahead p t) (.jmp (.l7 (k:Int) ((O.take k).map fun x=>x.2.2))) (putsL [] (O.map fun x=>x.2.2)):=by
  refine down ?_ fun k hk ih=>?_
  ·rw[goes_jmp,T_cut_Ahead,hv,goes_br,if_neg (by rw[lt_len_not (Nat.lt_irrefl _)];decide),List.take_length,goes_br,if_pos (show k_cut_rising _=true from decide_eq_true (by rw[List.length_map];omega))]
   exact .leaf
  ·have b1:Nat.ble ((((O.take k).map fun x=>x.2.2).length+1)*8) limit=true:=Nat.ble_eq_true_of_le (by rw[List.length_map,List.length_take];unfold limit;omega)
   rw[List.take_succ_eq_append_getElem hk,List.map_append] at ih
   rw[goes_jmp,T_cut_Ahead,hv,goes_br,if_pos (lt_len hk),goes_br,if_pos (by rw[nng,lt_len hk];rfl),goes_br,if_pos b1,Int.toNat_natCast,getD_lt hk,wrap_succ (by omega)]
   exact ih
 exact loop 0 (Nat.zero_le _)
end Go.Ev
end

section
open Go Go.Ev
namespace Go.Ev
noncomputable section
noncomputable def e_cut_Ahead:Run:=entG sg_cut_Ahead R_cut_Ahead (fun a=>k_cut_Ahead a.1 a.2.1) (fun a=>v_cut_Ahead a.1 a.2.1)
theorem ok_cut_Ahead:EntOK Go.Proofs.Tryz.prog 17 e_cut_Ahead:=entG_ok (tb:=tb_cut_Ahead) (c:=c_cut_Ahead) tk_cut_Ahead (by kernel_rfl) (by kernel_rfl) (by kernel_rfl) (fun a=>by kernel_rfl) fun ⟨p,t,_⟩ hk=>evF_goes (c:=c_cut_Ahead) (K:=fun v=>(R_cut_Ahead v,tps (toForms sg_cut_Ahead (p,t,())))) (S:=S_cut_Ahead p t) (by kernel_rfl) (en_cut_Ahead p t) (lp_cut_Ahead p t) (g_cut_Ahead p t hk)
end
end Go.Ev
end

section
open Go Go.Ev
namespace Go.Ev
noncomputable section
def sg_cut_Greedy:Sig:=[(true,T_api_Prog),(false,(.int .i64))]
noncomputable def t_cut_Greedy:Tbl:=[(23,e_cut_right),(39,e_delay_Open),(25,e_cut_of),(41,e_cut_greedy)]
theorem tk_cut_Greedy:∀p∈t_cut_Greedy,EntOK Go.Proofs.Tryz.prog p.1 p.2:=tbl_cons ok_cut_right (tbl_cons ok_delay_Open (tbl_cons ok_cut_of (tbl_cons ok_cut_greedy (tbl_nil))))
noncomputable def c_cut_Greedy:Code:=Go.Proofs.Tryz.f18.body.getD .skip
def tb_cut_Greedy:Tb:=[(hintK,⟨[],[(1,46)]⟩)]
def T_cut_Greedy (p:El T_api_Prog) (t:Int):Empty→JT Empty (List Int):=fun j=>nomatch j
def T0_cut_Greedy (p:El T_api_Prog) (t:Int):JT Empty (List Int):=.br (k_cut_right p t) (.br (! (v_cut_right p t)) (.leaf []) (.br ((decide ((0:Int)≤t))&&(decide (t < (Int.ofNat (List.length p.2))))) (.br (k_delay_Open p) (.br (k_cut_of (v_delay_Open p) t) (.br (k_cut_greedy (List.getD p.2 (Int.toNat t) (dflt (.sl T_api_Ins))) (v_cut_of (v_delay_Open p) t)) (.leaf (v_cut_greedy (List.getD p.2 (Int.toNat t) (dflt (.sl T_api_Ins))) (v_cut_of (v_delay_Open p) t))) (.no)) (.no)) (.no)) (.no))) (.no)
def v_cut_Greedy (p:El T_api_Prog) (t:Int):List Int:=bif (k_cut_right p t) then bif (! (v_cut_right p t)) then [] else bif ((decide ((0:Int)≤t))&&(decide (t < (Int.ofNat (List.length p.2))))) then bif (k_delay_Open p) then bif (k_cut_of (v_delay_Open p) t) then bif (k_cut_greedy (List.getD p.2 (Int.toNat t) (dflt (.sl T_api_Ins))) (v_cut_of (v_delay_Open p) t)) then (v_cut_greedy (List.getD p.2 (Int.toNat t) (dflt (.sl T_api_Ins))) (v_cut_of (v_delay_Open p) t)) else [] else [] else [] else [] else []
def k_cut_Greedy (p:El T_api_Prog) (t:Int):Bool:=bif (k_cut_right p t) then bif (! (v_cut_right p t)) then true else bif ((decide ((0:Int)≤t))&&(decide (t < (Int.ofNat (List.length p.2))))) then bif (k_delay_Open p) then bif (k_cut_of (v_delay_Open p) t) then bif (k_cut_greedy (List.getD p.2 (Int.toNat t) (dflt (.sl T_api_Ins))) (v_cut_of (v_delay_Open p) t)) then true else false else false else false else false else false
theorem g_cut_Greedy (p:El T_api_Prog) (t:Int) (hk:k_cut_Greedy p t=true):Goes (T_cut_Greedy p t) (T0_cut_Greedy p t) (v_cut_Greedy p t):=Goes.brk hk (fun hk=>Goes.brk hk (fun hk=>Goes.leaf) (fun hk=>Goes.brk hk (fun hk=>Goes.brk hk (fun hk=>Goes.brk hk (fun hk=>Goes.brk hk (fun hk=>Goes.leaf) (fun hk=>Goes.nok hk)) (fun hk=>Goes.nok hk)) (fun hk=>Goes.nok hk)) (fun hk=>Goes.nok hk))) (fun hk=>Goes.nok hk)
def R_cut_Greedy:List Int→AV:=fun (r:List Int)=>.rw 3 (.int .i64) r
def S_cut_Greedy (p:El T_api_Prog) (t:Int):Empty→Nat×St:=fun j=>nomatch j
theorem en_cut_Greedy (p:El T_api_Prog) (t:Int) (L:Lt):entryA Go.Proofs.Tryz.prog (clOf t_cut_Greedy) tb_cut_Greedy Go.Proofs.Tryz.f18 c_cut_Greedy L (toForms sg_cut_Greedy (p,t,()))=(T0_cut_Greedy p t).run (fun v=>some (R_cut_Greedy v,tps (toForms sg_cut_Greedy (p,t,())))) fun j=>L (S_cut_Greedy p t j).1 (S_cut_Greedy p t j).2:=by kernel_rfl
theorem lp_cut_Greedy (p:El T_api_Prog) (t:Int):∀(L:Lt) (j:Empty),procOf (procsF Go.Proofs.Tryz.prog (clOf t_cut_Greedy) tb_cut_Greedy Go.Proofs.Tryz.f18 c_cut_Greedy (toForms sg_cut_Greedy (p,t,()))) (S_cut_Greedy p t j).1 L (S_cut_Greedy p t j).2=(T_cut_Greedy p t j).run (fun v=>some (R_cut_Greedy v,tps (toForms sg_cut_Greedy (p,t,())))) fun j=>L (S_cut_Greedy p t j).1 (S_cut_Greedy p t j).2:=fun L j=>nomatch j
noncomputable def e_cut_Greedy:Run:=entG sg_cut_Greedy R_cut_Greedy (fun a=>k_cut_Greedy a.1 a.2.1) (fun a=>v_cut_Greedy a.1 a.2.1)
theorem ok_cut_Greedy:EntOK Go.Proofs.Tryz.prog 18 e_cut_Greedy:=entG_ok (tb:=tb_cut_Greedy) (c:=c_cut_Greedy) tk_cut_Greedy (by kernel_rfl) (by kernel_rfl) (by kernel_rfl) (fun a=>by kernel_rfl) fun ⟨p,t,_⟩ hk=>evF_goes (c:=c_cut_Greedy) (K:=fun v=>(R_cut_Greedy v,tps (toForms sg_cut_Greedy (p,t,())))) (S:=S_cut_Greedy p t) (by kernel_rfl) (en_cut_Greedy p t) (lp_cut_Greedy p t) (g_cut_Greedy p t hk)
end
end Go.Ev
end

section
open Go Go.Ev
namespace Go.Ev
noncomputable section
def sg_cut_Prune:Sig:=[(true,T_api_Prog),(false,(.int .i64)),(false,(.sl (.int .i64)))]
noncomputable def t_cut_Prune:Tbl:=[(23,e_cut_right),(26,e_delay_Pairs),(25,e_cut_of),(31,e_cut_prune)]
theorem tk_cut_Prune:∀p∈t_cut_Prune,EntOK Go.Proofs.Tryz.prog p.1 p.2:=tbl_cons ok_cut_right (tbl_cons ok_delay_Pairs (tbl_cons ok_cut_of (tbl_cons ok_cut_prune (tbl_nil))))
noncomputable def c_cut_Prune:Code:=Go.Proofs.Tryz.f11.body.getD .skip
def tb_cut_Prune:Tb:=[(hintK,⟨[],[(1,46)]⟩)]
def T_cut_Prune (p:El T_api_Prog) (t:Int) (points:List Int):Empty→JT Empty (List Int):=fun j=>nomatch j
def T0_cut_Prune (p:El T_api_Prog) (t:Int) (points:List Int):JT Empty (List Int):=.br (k_cut_right p t) (.br (! (v_cut_right p t)) (.leaf []) (.br ((decide ((0:Int)≤t))&&(decide (t < (Int.ofNat (List.length p.2))))) (.br (k_delay_Pairs p) (.br (k_cut_of (v_delay_Pairs p) t) (.br (k_cut_prune (List.getD p.2 (Int.toNat t) (dflt (.sl T_api_Ins))) (v_cut_of (v_delay_Pairs p) t) points) (.leaf (v_cut_prune (List.getD p.2 (Int.toNat t) (dflt (.sl T_api_Ins))) (v_cut_of (v_delay_Pairs p) t) points)) (.no)) (.no)) (.no)) (.no))) (.no)
def v_cut_Prune (p:El T_api_Prog) (t:Int) (points:List Int):List Int:=bif (k_cut_right p t) then bif (! (v_cut_right p t)) then [] else bif ((decide ((0:Int)≤t))&&(decide (t < (Int.ofNat (List.length p.2))))) then bif (k_delay_Pairs p) then bif (k_cut_of (v_delay_Pairs p) t) then bif (k_cut_prune (List.getD p.2 (Int.toNat t) (dflt (.sl T_api_Ins))) (v_cut_of (v_delay_Pairs p) t) points) then (v_cut_prune (List.getD p.2 (Int.toNat t) (dflt (.sl T_api_Ins))) (v_cut_of (v_delay_Pairs p) t) points) else [] else [] else [] else [] else []
def k_cut_Prune (p:El T_api_Prog) (t:Int) (points:List Int):Bool:=bif (k_cut_right p t) then bif (! (v_cut_right p t)) then true else bif ((decide ((0:Int)≤t))&&(decide (t < (Int.ofNat (List.length p.2))))) then bif (k_delay_Pairs p) then bif (k_cut_of (v_delay_Pairs p) t) then bif (k_cut_prune (List.getD p.2 (Int.toNat t) (dflt (.sl T_api_Ins))) (v_cut_of (v_delay_Pairs p) t) points) then true else false else false else false else false else false
theorem g_cut_Prune (p:El T_api_Prog) (t:Int) (points:List Int) (hk:k_cut_Prune p t points=true):Goes (T_cut_Prune p t points) (T0_cut_Prune p t points) (v_cut_Prune p t points):=Goes.brk hk (fun hk=>Goes.brk hk (fun hk=>Goes.leaf) (fun hk=>Goes.brk hk (fun hk=>Goes.brk hk (fun hk=>Goes.brk hk (fun hk=>Goes.brk hk (fun hk=>Goes.leaf) (fun hk=>Goes.nok hk)) (fun hk=>Goes.nok hk)) (fun hk=>Goes.nok hk)) (fun hk=>Goes.nok hk))) (fun hk=>Goes.nok hk)
def R_cut_Prune:List Int→AV:=fun (r:List Int)=>.rw 3 (.int .i64) r
def S_cut_Prune (p:El T_api_Prog) (t:Int) (points:List Int):Empty→Nat×St:=fun j=>nomatch j
theorem en_cut_Prune (p:El T_api_Prog) (t:Int) (points:List Int) (L:Lt):entryA Go.Proofs.Tryz.prog (clOf t_cut_Prune) tb_cut_Prune Go.Proofs.Tryz.f11 c_cut_Prune L (toForms sg_cut_Prune (p,t,points,()))=(T0_cut_Prune p t points).run (fun v=>some (R_cut_Prune v,tps (toForms sg_cut_Prune (p,t,points,())))) fun j=>L (S_cut_Prune p t points j).1 (S_cut_Prune p t points j).2:=by kernel_rfl
theorem lp_cut_Prune (p:El T_api_Prog) (t:Int) (points:List Int):∀(L:Lt) (j:Empty),procOf (procsF Go.Proofs.Tryz.prog (clOf t_cut_Prune) tb_cut_Prune Go.Proofs.Tryz.f11 c_cut_Prune (toForms sg_cut_Prune (p,t,points,()))) (S_cut_Prune p t points j).1 L (S_cut_Prune p t points j).2=(T_cut_Prune p t points j).run (fun v=>some (R_cut_Prune v,tps (toForms sg_cut_Prune (p,t,points,())))) fun j=>L (S_cut_Prune p t points j).1 (S_cut_Prune p t points j).2:=fun L j=>nomatch j
noncomputable def e_cut_Prune:Run:=entG sg_cut_Prune R_cut_Prune (fun a=>k_cut_Prune a.1 a.2.1 a.2.2.1) (fun a=>v_cut_Prune a.1 a.2.1 a.2.2.1)
theorem ok_cut_Prune:EntOK Go.Proofs.Tryz.prog 11 e_cut_Prune:=entG_ok (tb:=tb_cut_Prune) (c:=c_cut_Prune) tk_cut_Prune (by kernel_rfl) (by kernel_rfl) (by kernel_rfl) (fun a=>by kernel_rfl) fun ⟨p,t,points,_⟩ hk=>evF_goes (c:=c_cut_Prune) (K:=fun v=>(R_cut_Prune v,tps (toForms sg_cut_Prune (p,t,points,())))) (S:=S_cut_Prune p t points) (by kernel_rfl) (en_cut_Prune p t points) (lp_cut_Prune p t points) (g_cut_Prune p t points hk)
end
end Go.Ev
end

section
open Go Go.Ev
namespace Go.Ev
noncomputable section
def sg_law25_CutRaw:Sig:=[(true,T_api_Prog),(false,(.int .i64)),(false,(.sl (.int .i64)))]
noncomputable def t_law25_CutRaw:Tbl:=[(14,e_book_Great),(15,e_ref1_Check),(13,e_law25_alive),(6,e_book_Ints),(8,e_cut_Covers),(16,e_cut_After),(17,e_cut_Ahead),(18,e_cut_Greedy),(11,e_cut_Prune),(19,e_cut_Points),(20,e_cut_All)]
theorem tk_law25_CutRaw:∀p∈t_law25_CutRaw,EntOK Go.Proofs.Tryz.prog p.1 p.2:=tbl_cons ok_book_Great (tbl_cons ok_ref1_Check (tbl_cons ok_law25_alive (tbl_cons ok_book_Ints (tbl_cons ok_cut_Covers (tbl_cons ok_cut_After (tbl_cons ok_cut_Ahead (tbl_cons ok_cut_Greedy (tbl_cons ok_cut_Prune (tbl_cons ok_cut_Points (tbl_cons ok_cut_All (tbl_nil)))))))))))
noncomputable def c_law25_CutRaw:Code:=Go.Proofs.Tryz.f4.body.getD .skip
def tb_law25_CutRaw:Tb:=[(2,⟨[1,2,3,24,65,69],[]⟩)]
inductive J_law25_CutRaw where
 | l2 (h:Bool)
def T_law25_CutRaw (p:El T_api_Prog) (t:Int) (points:List Int):J_law25_CutRaw→JT J_law25_CutRaw (Bool)
 |.l2 h=>
  .br h
   (.br k_law25_alive
    (.leaf v_law25_alive)
   (.no))
  (.br (k_book_Ints points (12:Int))
   (.br (k_cut_Covers p t (v_book_Ints points (12:Int)))
    (.br (! (v_cut_Covers p t (v_book_Ints points (12:Int))))
     (.br (k_cut_After p t)
      (.br (k_cut_Ahead p t)
       (.br (k_cut_Greedy p t)
        (.br (k_cut_Prune p t (v_book_Ints points (12:Int)))
         (.br (k_cut_Points p t)
          (.br ((IntKind.i64.wrap ((IntKind.i64.wrap ((IntKind.i64.wrap ((IntKind.i64.wrap ((Int.ofNat (List.length (v_cut_After p t)))+(Int.ofNat (List.length (v_cut_Ahead p t)))))+(Int.ofNat (List.length (v_cut_Greedy p t)))))+(Int.ofNat (List.length (v_cut_Prune p t (v_book_Ints points (12:Int)))))))+(Int.ofNat (List.length (v_cut_Points p t)))))==(0:Int))
           (.br (k_ref1_Check p)
            (.br ((v_ref1_Check p)==(0:Int))
             (.br k_law25_alive
              (.leaf v_law25_alive)
             (.no))
            (.br (k_cut_All p)
             (.br ((Int.ofNat (List.length (v_cut_All p)))==(0:Int))
              (.br k_law25_alive
               (.leaf v_law25_alive)
              (.no))
             (.leaf false))
            (.no)))
           (.no))
          (.leaf false))
         (.no))
        (.no))
       (.no))
      (.no))
     (.no))
    (.leaf false))
   (.no))
  (.no))
def T0_law25_CutRaw (p:El T_api_Prog) (t:Int) (points:List Int):JT J_law25_CutRaw (Bool):=
 .br (v_book_Great p)
  (.jmp (.l2 true))
 (.br (k_ref1_Check p)
  (.br ((v_ref1_Check p)==(0:Int))
   (.br (decide (t≥(0:Int)))
    (.jmp (.l2 (decide (t < (Int.ofNat (List.length p.2))))))
   (.jmp (.l2 false)))
  (.jmp (.l2 false)))
 (.no))
def v_law25_CutRaw_l2 (p:El T_api_Prog) (t:Int) (points:List Int) (h:Bool):Bool:=
 bif h then
  bif k_law25_alive then
   v_law25_alive
  else false
 else bif (k_book_Ints points (12:Int)) then
  bif (k_cut_Covers p t (v_book_Ints points (12:Int))) then
   bif (! (v_cut_Covers p t (v_book_Ints points (12:Int)))) then
    bif (k_cut_After p t) then
     bif (k_cut_Ahead p t) then
      bif (k_cut_Greedy p t) then
       bif (k_cut_Prune p t (v_book_Ints points (12:Int))) then
        bif (k_cut_Points p t) then
         bif ((IntKind.i64.wrap ((IntKind.i64.wrap ((IntKind.i64.wrap ((IntKind.i64.wrap ((Int.ofNat (List.length (v_cut_After p t)))+(Int.ofNat (List.length (v_cut_Ahead p t)))))+(Int.ofNat (List.length (v_cut_Greedy p t)))))+(Int.ofNat (List.length (v_cut_Prune p t (v_book_Ints points (12:Int)))))))+(Int.ofNat (List.length (v_cut_Points p t)))))==(0:Int)) then
          bif (k_ref1_Check p) then
           bif ((v_ref1_Check p)==(0:Int)) then
            bif k_law25_alive then
             v_law25_alive
            else false
           else bif (k_cut_All p) then
            bif ((Int.ofNat (List.length (v_cut_All p)))==(0:Int)) then
             bif k_law25_alive then
              v_law25_alive
             else false
            else false
           else false
          else false
         else false
        else false
       else false
      else false
     else false
    else false
   else false
  else false
 else false
def k_law25_CutRaw_l2 (p:El T_api_Prog) (t:Int) (points:List Int) (h:Bool):Bool:=
 bif h then
  bif k_law25_alive then
   true
  else false
 else bif (k_book_Ints points (12:Int)) then
  bif (k_cut_Covers p t (v_book_Ints points (12:Int))) then
   bif (! (v_cut_Covers p t (v_book_Ints points (12:Int)))) then
    bif (k_cut_After p t) then
     bif (k_cut_Ahead p t) then
      bif (k_cut_Greedy p t) then
       bif (k_cut_Prune p t (v_book_Ints points (12:Int))) then
        bif (k_cut_Points p t) then
         bif ((IntKind.i64.wrap ((IntKind.i64.wrap ((IntKind.i64.wrap ((IntKind.i64.wrap ((Int.ofNat (List.length (v_cut_After p t)))+(Int.ofNat (List.length (v_cut_Ahead p t)))))+(Int.ofNat (List.length (v_cut_Greedy p t)))))+(Int.ofNat (List.length (v_cut_Prune p t (v_book_Ints points (12:Int)))))))+(Int.ofNat (List.length (v_cut_Points p t)))))==(0:Int)) then
          bif (k_ref1_Check p) then
           bif ((v_ref1_Check p)==(0:Int)) then
            bif k_law25_alive then
             true
            else false
           else bif (k_cut_All p) then
            bif ((Int.ofNat (List.length (v_cut_All p)))==(0:Int)) then
             bif k_law25_alive then
              true
             else false
            else true
           else false
          else false
         else true
        else false
       else false
      else false
     else false
    else false
   else true
  else false
 else false
theorem g_law25_CutRaw_l2 (p:El T_api_Prog) (t:Int) (points:List Int) (h:Bool) (hk:k_law25_CutRaw_l2 p t points h=true):Goes (T_law25_CutRaw p t points) (.jmp (.l2 h)) (v_law25_CutRaw_l2 p t points h):=
 Goes.jmp (Goes.brk hk (fun hk=>
  Goes.brk hk (fun hk=>
   Goes.leaf) (fun hk=>
   Goes.nok hk)) (fun hk=>
  Goes.brk hk (fun hk=>
   Goes.brk hk (fun hk=>
    Goes.brk hk (fun hk=>
     Goes.brk hk (fun hk=>
      Goes.brk hk (fun hk=>
       Goes.brk hk (fun hk=>
        Goes.brk hk (fun hk=>
         Goes.brk hk (fun hk=>
          Goes.brk hk (fun hk=>
           Goes.brk hk (fun hk=>
            Goes.brk hk (fun hk=>
             Goes.brk hk (fun hk=>
              Goes.leaf) (fun hk=>
              Goes.nok hk)) (fun hk=>
             Goes.brk hk (fun hk=>
              Goes.brk hk (fun hk=>
               Goes.brk hk (fun hk=>
                Goes.leaf) (fun hk=>
                Goes.nok hk)) (fun hk=>
               Goes.leaf)) (fun hk=>
              Goes.nok hk))) (fun hk=>
            Goes.nok hk)) (fun hk=>
           Goes.leaf)) (fun hk=>
          Goes.nok hk)) (fun hk=>
         Goes.nok hk)) (fun hk=>
        Goes.nok hk)) (fun hk=>
       Goes.nok hk)) (fun hk=>
      Goes.nok hk)) (fun hk=>
     Goes.leaf)) (fun hk=>
    Goes.nok hk)) (fun hk=>
   Goes.nok hk)))
def v_law25_CutRaw (p:El T_api_Prog) (t:Int) (points:List Int):Bool:=
 bif (v_book_Great p) then
  v_law25_CutRaw_l2 p t points true
 else bif (k_ref1_Check p) then
  bif ((v_ref1_Check p)==(0:Int)) then
   bif (decide (t≥(0:Int))) then
    v_law25_CutRaw_l2 p t points (decide (t < (Int.ofNat (List.length p.2))))
   else v_law25_CutRaw_l2 p t points false
  else v_law25_CutRaw_l2 p t points false
 else false
def k_law25_CutRaw (p:El T_api_Prog) (t:Int) (points:List Int):Bool:=
 bif (v_book_Great p) then
  k_law25_CutRaw_l2 p t points true
 else bif (k_ref1_Check p) then
  bif ((v_ref1_Check p)==(0:Int)) then
   bif (decide (t≥(0:Int))) then
    k_law25_CutRaw_l2 p t points (decide (t < (Int.ofNat (List.length p.2))))
   else k_law25_CutRaw_l2 p t points false
  else k_law25_CutRaw_l2 p t points false
 else false
theorem g_law25_CutRaw (p:El T_api_Prog) (t:Int) (points:List Int) (hk:k_law25_CutRaw p t points=true):Goes (T_law25_CutRaw p t points) (T0_law25_CutRaw p t points) (v_law25_CutRaw p t points):=
 Goes.brk hk (fun hk=>
  g_law25_CutRaw_l2 p t points true hk) (fun hk=>
  Goes.brk hk (fun hk=>
   Goes.brk hk (fun hk=>
    Goes.brk hk (fun hk=>
     g_law25_CutRaw_l2 p t points (decide (t < (Int.ofNat (List.length p.2)))) hk) (fun hk=>
     g_law25_CutRaw_l2 p t points false hk)) (fun hk=>
    g_law25_CutRaw_l2 p t points false hk)) (fun hk=>
   Goes.nok hk))
def R_law25_CutRaw:Bool→AV:=fun (r:Bool)=>.d .bool r
def S_law25_CutRaw (p:El T_api_Prog) (t:Int) (points:List Int):J_law25_CutRaw→Nat×St
 |.l2 h=>(2,⟨mkTm 75 [(1,.d (.int .i64) t),(2,.d (.sl (.int .i64)) points),(3,.pt 4 0 0),(24,.d .bool h)],[(4,0,.box 27 [.d (.sl T_api_Sym) p.1,.d (.sl (.sl T_api_Ins)) p.2] none)]⟩)
theorem en_law25_CutRaw (p:El T_api_Prog) (t:Int) (points:List Int) (L:Lt):entryA Go.Proofs.Tryz.prog (clOf t_law25_CutRaw) tb_law25_CutRaw Go.Proofs.Tryz.f4 c_law25_CutRaw L (toForms sg_law25_CutRaw (p,t,points,()))=(T0_law25_CutRaw p t points).run (fun v=>some (R_law25_CutRaw v,tps (toForms sg_law25_CutRaw (p,t,points,())))) fun j=>L (S_law25_CutRaw p t points j).1 (S_law25_CutRaw p t points j).2:=by kernel_rfl
theorem lp_law25_CutRaw (p:El T_api_Prog) (t:Int) (points:List Int):∀(L:Lt) (j:J_law25_CutRaw),procOf (procsF Go.Proofs.Tryz.prog (clOf t_law25_CutRaw) tb_law25_CutRaw Go.Proofs.Tryz.f4 c_law25_CutRaw (toForms sg_law25_CutRaw (p,t,points,()))) (S_law25_CutRaw p t points j).1 L (S_law25_CutRaw p t points j).2=(T_law25_CutRaw p t points j).run (fun v=>some (R_law25_CutRaw v,tps (toForms sg_law25_CutRaw (p,t,points,())))) fun j=>L (S_law25_CutRaw p t points j).1 (S_law25_CutRaw p t points j).2
 | L,.l2 h=>by kernel_rfl
theorem co_law25_CutRaw (p:El T_api_Prog) (t:Int) (points:List Int) (hk:k_law25_CutRaw p t points=true):CallOK Go.Proofs.Tryz.prog 4 (toForms sg_law25_CutRaw (p,t,points,())) (R_law25_CutRaw (v_law25_CutRaw p t points),tps (toForms sg_law25_CutRaw (p,t,points,()))):=by
 obtain ⟨h1,h2⟩:=clOf_ok tk_law25_CutRaw
 obtain ⟨n,hn⟩:=evF_goes (c:=c_law25_CutRaw) (K:=fun v=>(R_law25_CutRaw v,tps (toForms sg_law25_CutRaw (p,t,points,())))) (S:=S_law25_CutRaw p t points) (by kernel_rfl) (en_law25_CutRaw p t points) (lp_law25_CutRaw p t points) (g_law25_CutRaw p t points hk)
 exact evF_sound (f:=4) (c:=c_law25_CutRaw) h1 h2 (by kernel_rfl) (by kernel_rfl) (by kernel_rfl) hn
end
end Go.Ev
end

section
open Go
namespace Go.Ev
theorem len0 {α:Type} (l:List α):((Int.ofNat l.length)==(0:Int))=decide (l.length=0):=by
 rw[Bool.eq_iff_iff,beq_iff_eq,decide_eq_true_eq]
 simp
section
variable {p:El T_api_Prog} (hF:CutF p) (t:Int)
include hF
theorem k_of_all:k_cut_of (v_delay_Pairs p) t=true∧k_cut_of (v_delay_Open p) t=true:=⟨decide_eq_true (by have:=hF.lp;omega),decide_eq_true (by have:=hF.lo;omega)⟩
theorem k_miss {pts:List Int} (hp:pts.length < 1000000000) (hr:rightT p t=true):k_cut_missing (thrT p t) (allT p t) pts=true∧k_cut_prune (thrT p t) (allT p t) pts=true:=by
 obtain ⟨f1,f2,_⟩:=hF.flow t hr
 have hl:=allT_len hF t
 unfold k_cut_missing k_cut_prune
 rw[f1,decide_eq_true (show pts.length < 4611686018427387904 by omega),decide_eq_true (show pts.length < 1000000000000 by omega),decide_eq_true (show (allT p t).length < 1000000000000 by omega)]
 exact ⟨rfl,rfl⟩
theorem covers_val {pts:List Int} (hp:pts.length < 1000000000):k_cut_Covers p t pts=true∧v_cut_Covers p t pts=(rightT p t&&decide (((allT p t).filter (uB (thrT p t) pts)).length=0)):=by
 obtain ⟨r1,r2⟩:=hF.right t
 unfold k_cut_Covers v_cut_Covers
 rw[r1,r2]
 cases hr:rightT p t with
 | false=>exact ⟨rfl,rfl⟩
 | true=>
  obtain ⟨f1,f2,_⟩:=hF.flow t hr
  have h1:=(k_miss hF t hp hr).1
  have h2:k_cut_missing (List.getD p.2 (Int.toNat t) (dflt (.sl T_api_Ins))) (v_cut_of (v_delay_Pairs p) t) pts=true:=h1
  have hv:v_cut_missing (List.getD p.2 (Int.toNat t) (dflt (.sl T_api_Ins))) (v_cut_of (v_delay_Pairs p) t) pts=(allT p t).filter (uB (thrT p t) pts):=rfl
  rw[f2,hF.kp,(k_of_all hF t).1,h2,hv,len0]
  exact ⟨rfl,rfl⟩
theorem prune_val {pts:List Int} (hp:pts.length < 1000000000):k_cut_Prune p t pts=true∧v_cut_Prune p t pts=if rightT p t=true then pruneV (uB (thrT p t)) (thrT p t).length (allT p t) pts else []:=by
 obtain ⟨r1,r2⟩:=hF.right t
 unfold k_cut_Prune v_cut_Prune
 rw[r1,r2]
 cases hr:rightT p t with
 | false=>exact ⟨rfl,rfl⟩
 | true=>
  obtain ⟨f1,f2,_⟩:=hF.flow t hr
  have h2:k_cut_prune (List.getD p.2 (Int.toNat t) (dflt (.sl T_api_Ins))) (v_cut_of (v_delay_Pairs p) t) pts=true:=(k_miss hF t hp hr).2
  have hv:v_cut_prune (List.getD p.2 (Int.toNat t) (dflt (.sl T_api_Ins))) (v_cut_of (v_delay_Pairs p) t) pts=pruneV (uB (thrT p t)) (thrT p t).length (allT p t) pts:=rfl
  rw[f2,hF.kp,(k_of_all hF t).1,h2,hv]
  generalize pruneV (uB (thrT p t)) (thrT p t).length (allT p t) pts=X
  exact ⟨rfl,rfl⟩
theorem points_val:k_cut_Points p t=true∧v_cut_Points p t=if rightT p t=true then pointsV (uB (thrT p t)) (thrT p t).length (allT p t) (opT p t) else []:=by
 obtain ⟨r1,r2⟩:=hF.right t
 unfold k_cut_Points v_cut_Points
 rw[r1,r2]
 cases hr:rightT p t with
 | false=>exact ⟨rfl,rfl⟩
 | true=>
  have hv:v_cut_points p t (v_delay_Pairs p) (v_delay_Open p)=pointsV (uB (thrT p t)) (thrT p t).length (allT p t) (opT p t):=rfl
  rw[hF.kp,hF.ko,k_points_all hF hr,hv]
  generalize pointsV (uB (thrT p t)) (thrT p t).length (allT p t) (opT p t)=X
  exact ⟨rfl,rfl⟩
theorem greedy_val:k_cut_Greedy p t=true∧v_cut_Greedy p t=if rightT p t=true then greedyV (uB (thrT p t)) (thrT p t).length (opT p t) else []:=by
 obtain ⟨r1,r2⟩:=hF.right t
 unfold k_cut_Greedy v_cut_Greedy
 rw[r1,r2]
 cases hr:rightT p t with
 | false=>exact ⟨rfl,rfl⟩
 | true=>
  obtain ⟨f1,f2,_⟩:=hF.flow t hr
  have hl:=opT_len hF t
  have ha:(opT p t).all (loadIn (thrT p t).length)=true:=List.all_eq_true.2 fun x hx=>by
   obtain ⟨hp,ht⟩:=opT_in hF hx
   have l0:=hp.ld0
   have l1:=hp.ld1
   have e:thrT p (show Int from x.1)=thrT p t:=by rw[ht]
   rw[show thrT p x.1=thrT p t from e] at l1
   exact decide_eq_true ⟨l0,l1⟩
  have h2:k_cut_greedy (List.getD p.2 (Int.toNat t) (dflt (.sl T_api_Ins))) (v_cut_of (v_delay_Open p) t)=true:=by
   show k_cut_greedy (thrT p t) (opT p t)=true
   unfold k_cut_greedy
   rw[f1,ha,decide_eq_true (show (opT p t).length < 1000000000 by omega)];rfl
  have hv:v_cut_greedy (List.getD p.2 (Int.toNat t) (dflt (.sl T_api_Ins))) (v_cut_of (v_delay_Open p) t)=greedyV (uB (thrT p t)) (thrT p t).length (opT p t):=rfl
  rw[f2,hF.ko,(k_of_all hF t).2,h2,hv]
  generalize greedyV (uB (thrT p t)) (thrT p t).length (opT p t)=X
  exact ⟨rfl,rfl⟩
end
end Go.Ev
end

section
namespace Go.Ev
open Go
theorem total_leX {l:List (List (El T_api_Ins))} {n:Nat} (h:∀t∈l,List.length t≤n):total l≤n*l.length:=by
 unfold total
 induction l with
 | nil=>simp
 | cons t l ih=>
  rw[List.map_cons,List.sum_cons,List.length_cons,Nat.mul_add,Nat.mul_one]
  have h1:=h t (List.mem_cons_self ..)
  have h2:=ih fun x hx=>h x (List.mem_cons_of_mem _ hx)
  omega
theorem ofC_le {p:El T_api_Prog} :(ofC p).length≤2*total p.2:=by
 have:=accP_len 0 p.2
 unfold ofC
 split
 ·exact this
 ·simp
end Go.Ev
end

section
namespace Go.Ev
open Go
theorem great_ins {i:El T_api_Ins} (h:v_book_GreatIns i=false):i.2.2.2.2.2.2.length≤6∧smallText i.2.2.2.2.2.1=true∧∀l∈i.2.2.2.2.2.2,smallText l=true:=by
 unfold v_book_GreatIns at h
 simp only[Bool.or_eq_false_iff,decide_eq_false_iff_not,List.any_eq_false,decide_eq_true_eq] at h
 exact ⟨by omega,smallText_of (by omega),fun l hl=>smallText_of (by have:=h.2.2 l hl;omega)⟩
theorem great_thread {t:List (El T_api_Ins)} (h:v_book_GreatThread t=false):smallThread t=true:=by
 unfold v_book_GreatThread at h
 simp only[Bool.or_eq_false_iff,decide_eq_false_iff_not,List.any_eq_false,Bool.not_eq_true] at h
 have hl:=labels_le (t:=t) (n:=6) fun i hi=>(great_ins (h.2 i hi)).1
 unfold smallThread
 simp only[Bool.and_eq_true,decide_eq_true_eq,List.all_eq_true]
 exact ⟨by omega,by omega,fun i hi=>⟨(great_ins (h.2 i hi)).2.1,(great_ins (h.2 i hi)).2.2⟩⟩
end Go.Ev
end

section
namespace Go.Ev
open Go
theorem great_prog {p:El T_api_Prog} (h:v_book_Great p=false):smallProg p=true:=by
 unfold v_book_Great at h
 simp only[Bool.or_eq_false_iff,decide_eq_false_iff_not,List.any_eq_false,Bool.not_eq_true] at h
 unfold smallProg
 simp only[Bool.and_eq_true,List.all_eq_true]
 refine ⟨fun s hs=>smallText_of ?_,fun t ht=>great_thread (h.2.2.2 t ht)⟩
 have:=(h.2.2.1 s hs)
 omega
end Go.Ev
end

section
namespace Go.Ev
open Go
theorem great_few {p:El T_api_Prog} (h:v_book_Great p=false):smallAll p=true∧(ofC p).length≤1584:=by
 have hp:=great_prog h
 unfold v_book_Great at h
 simp only[Bool.or_eq_false_iff,decide_eq_false_iff_not,List.any_eq_false,Bool.not_eq_true] at h
 have ht:=total_leX (l:=p.2) (n:=12) fun t hm=>by
  have:=h.2.2.2 t hm
  unfold v_book_GreatThread at this
  simp only[Bool.or_eq_false_iff,decide_eq_false_iff_not] at this
  omega
 have ho:= @ofC_le p
 have h2:=h.2.1
 refine ⟨?_,by omega⟩
 unfold smallAll
 simp only[Bool.and_eq_true,decide_eq_true_eq]
 exact ⟨hp,by omega,by omega⟩
end Go.Ev
end

section
namespace Go.Ev
open Go
theorem ints12 (l:List Int):k_book_Ints l 12=true∧(v_book_Ints l 12).length≤12:=by
 obtain ⟨m,hm,h1,h2⟩:∃m:Nat,minI (Int.ofNat l.length) 12=(m:Int)∧m≤l.length∧m≤12:=by
  unfold minI
  by_cases h:(12:Int) < Int.ofNat l.length
  ·rw[if_pos h]
   simp only[Int.ofNat_eq_natCast] at h
   exact ⟨12,rfl,by omega,Nat.le_refl _⟩
  ·rw[if_neg h]
   simp only[Int.ofNat_eq_natCast] at h
   exact ⟨l.length,rfl,Nat.le_refl _,by omega⟩
 unfold k_book_Ints v_book_Ints
 rw[hm,Int.toNat_natCast,decide_eq_true (Int.natCast_nonneg m),decide_eq_true (show (m:Int)≤Int.ofNat l.length from by simp only[Int.ofNat_eq_natCast];omega),
  Nat.ble_eq_true_of_le (show (l.take m).length*8≤limit from by rw[List.length_take];unfold limit;omega)]
 refine ⟨rfl,?_⟩
 show (l.take m).length≤12
 rw[List.length_take];omega
theorem cut_great {p:El T_api_Prog} (h:v_book_Great p=false):cutOK p=true:=by
 obtain ⟨h1,h2⟩:=great_few h
 unfold v_book_Great at h
 simp only[Bool.or_eq_false_iff,decide_eq_false_iff_not,List.any_eq_false,Bool.not_eq_true] at h
 have h3:=h.2.1
 unfold cutOK
 rw[h1,decide_eq_true (show (ofC p).length≤20000 by omega),decide_eq_true (show p.2.length≤100 by omega)]
 rfl
end Go.Ev
end

section
open Go
namespace Go.Ev
def bothPairs:List PairD:=[((0:Int),((0:Int),(1:Int))),((1:Int),((0:Int),(1:Int)))]
theorem alive25:k_law25_alive=true∧v_law25_alive=true:=by
 obtain ⟨p,hp⟩:∃p,v_law25_both=p:=⟨_,rfl⟩
 have hs:cutOK v_law25_both=true:=by decide+kernel
 have hF:=cut_facts hs
 have vp:v_delay_Pairs v_law25_both=bothPairs:=by
  rw[←hF.eq,delsX_eq]
  decide+kernel
 have op:∀x:El T_api_Pair,x∈v_ref3_Delays v_law25_both→openB v_law25_both x=(decide (0≤x.2.2∧x.2.2 < ((List.getD v_law25_both.2 (Int.toNat x.1) (dflt (.sl T_api_Ins))).length:Int))&&endsX (List.getD v_law25_both.2 (Int.toNat x.1) (dflt (.sl T_api_Ins))) [] x.2.1 x.2.2.toNat):=fun x hx=>by
  obtain ⟨s,r,h1,h2,_,_,rfl⟩:=dels_mem hx
  obtain ⟨_,_,hf,_⟩:=acc_facts hF.small h1
  have hf':flowOK (List.getD v_law25_both.2 (Int.toNat (delPair (ofC v_law25_both) s r).1) (dflt (.sl T_api_Ins)))=true:=hf
  obtain ⟨_,_,_,f4⟩:=free_eqO hf' (points:=[]) (by decide) (delPair (ofC v_law25_both) s r).2.1 (delPair (ofC v_law25_both) s r).2.2
  unfold openB
  rw[f4,endsX_eq]
 have vo:v_delay_Open v_law25_both=bothPairs:=by
  unfold v_delay_Open
  rw[hF.eq,vp] at op
  rw[vp,List.filter_congr op]
  decide+kernel
 have r0:rightT v_law25_both 0=true:=by decide+kernel
 have r1:rightT v_law25_both 1=true:=by decide+kernel
 have r2:rightT v_law25_both 2=false:=by decide+kernel
 have c0:checkC v_law25_both=0:=by decide+kernel
 have a0:allT v_law25_both 0=[((0:Int),((0:Int),(1:Int)))]:=by unfold allT;rw[vp];decide+kernel
 have o0:opT v_law25_both 0=[((0:Int),((0:Int),(1:Int)))]:=by unfold opT;rw[vo];decide+kernel
 have o1:opT v_law25_both 1=[((1:Int),((0:Int),(1:Int)))]:=by unfold opT;rw[vo];decide+kernel
 obtain ⟨kP,vP⟩:=points_val hF 0
 rw[if_pos r0,a0,o0,uB_eq] at vP
 have vP:v_cut_Points v_law25_both 0=[1]:=by rw[vP];decide+kernel
 obtain ⟨kC,vC⟩:=covers_val hF 0 (pts:=[1]) (by decide)
 rw[r0,a0,uB_eq] at vC
 have vC:v_cut_Covers v_law25_both 0 [1]=true:=by rw[vC];decide+kernel
 obtain ⟨kN,vN⟩:=covers_val hF 0 (pts:=[]) (by decide)
 rw[r0,a0,uB_eq] at vN
 have vN:v_cut_Covers v_law25_both 0 []=false:=by rw[vN];decide+kernel
 obtain ⟨kM,vM⟩:=covers_val hF 2 (pts:=[]) (by decide)
 rw[r2,Bool.false_and] at vM
 have kA:k_cut_After v_law25_both 1=true:=hs
 have vA:v_cut_After v_law25_both 1=[1]:=by
  unfold v_cut_After
  rw[if_pos r1,o1]
  decide+kernel
 have kL:k_cut_All v_law25_both=true:=hs
 have vL:(v_cut_All v_law25_both).length=2:=by
  unfold v_cut_All
  rw[if_pos c0,List.length_map,List.length_range]
  decide+kernel
 have e1:k_book_SameInts [1] [(1:Int)]=true:=by decide
 have e2:v_book_SameInts [1] [(1:Int)]=true:=by decide
 unfold k_law25_alive v_law25_alive
 simp only[kP,vP,kC,vC,kN,vN,kM,vM,kA,vA,kL,vL,e1,e2]
 exact ⟨by decide,by decide⟩
end Go.Ev
end

section
namespace Go.Ev
open Go
theorem cutRaw_true (p:El T_api_Prog) (t:Int) (points:List Int):k_law25_CutRaw p t points=true∧v_law25_CutRaw p t points=true:=by
 obtain ⟨ka,va⟩:=alive25
 have one:k_law25_CutRaw_l2 p t points true=true∧v_law25_CutRaw_l2 p t points true=true:=by
  unfold k_law25_CutRaw_l2 v_law25_CutRaw_l2
  rw[ka,va]
  exact ⟨rfl,rfl⟩
 unfold k_law25_CutRaw v_law25_CutRaw
 cases hg:v_book_Great p with
 | true=>exact one
 | false=>
  have hc:=cut_great hg
  have hF:=cut_facts hc
  have hA:=smallA hF.small
  obtain ⟨i1,i2⟩:=ints12 points
  have kc:k_ref1_Check p=true:=hA.prog
  have vc:v_ref1_Check p=checkC p:=rfl
  have two:rightT p t=false→k_law25_CutRaw_l2 p t points false=true∧v_law25_CutRaw_l2 p t points false=true:=fun hr=>by
   obtain ⟨k1,v1⟩:=covers_val hF t (pts:=v_book_Ints points 12) (by omega)
   obtain ⟨k2,v2⟩:=prune_val hF t (pts:=v_book_Ints points 12) (by omega)
   obtain ⟨k3,v3⟩:=points_val hF t
   obtain ⟨k4,v4⟩:=greedy_val hF t
   have k5:k_cut_After p t=true:=hc
   have k6:k_cut_Ahead p t=true:=hc
   have k7:k_cut_All p=true:=hc
   have v5:v_cut_After p t=[]:=by unfold v_cut_After;rw[hr];rfl
   have v6:v_cut_Ahead p t=[]:=by unfold v_cut_Ahead;rw[hr];rfl
   rw[hr] at v1 v2 v3 v4
   simp only[Bool.false_and,Bool.false_eq_true,if_false] at v1 v2 v3 v4
   unfold k_law25_CutRaw_l2 v_law25_CutRaw_l2
   rw[i1,k1,v1,k2,v2,k3,v3,k4,v4,k5,v5,k6,v6,kc,vc,ka,va,k7]
   have hz:((IntKind.i64.wrap ((IntKind.i64.wrap ((IntKind.i64.wrap ((IntKind.i64.wrap ((Int.ofNat (List.length ([]:List Int)))+(Int.ofNat (List.length ([]:List Int)))))+(Int.ofNat (List.length ([]:List Int)))))+(Int.ofNat (List.length ([]:List Int)))))+(Int.ofNat (List.length ([]:List Int)))))==(0:Int))=true:=by decide
   rw[hz]
   by_cases h0:checkC p=0
   ·rw[h0]
    exact ⟨rfl,rfl⟩
   ·have e1:(checkC p==0)=false:=by simpa using h0
    have e2:v_cut_All p=[]:=by unfold v_cut_All;rw[if_neg h0]
    rw[e1,e2]
    exact ⟨rfl,rfl⟩
  rw[kc,vc]
  by_cases h0:checkC p=0
  ·rw[show (checkC p==0)=true from by simpa using h0]
   by_cases h1:t≥0
   ·rw[decide_eq_true h1]
    by_cases h2:t < (p.2.length:Int)
    ·rw[decide_eq_true (show t < Int.ofNat p.2.length from h2)]
     exact one
    ·rw[decide_eq_false (show ¬t < Int.ofNat p.2.length from h2)]
     refine two ?_
     unfold rightT
     rw[decide_eq_false h2,Bool.false_and,Bool.and_false]
   ·rw[decide_eq_false h1]
    refine two ?_
    unfold rightT
    rw[decide_eq_false (show ¬(0:Int)≤t from h1),Bool.false_and]
  ·rw[show (checkC p==0)=false from by simpa using h0]
   refine two ?_
   unfold rightT
   rw[decide_eq_false h0,Bool.and_false,Bool.and_false]
theorem call_law25_CutRaw (a:Args sg_law25_CutRaw) (ha:smallArgs sg_law25_CutRaw a):CallOK Go.Proofs.Tryz.prog fid_law25_CutRaw (toForms sg_law25_CutRaw a) (.d .bool true,tps (toForms sg_law25_CutRaw a)):=by
 obtain ⟨p,t,points,_⟩:=a
 obtain ⟨hk,hv⟩:=cutRaw_true p t points
 have:=co_law25_CutRaw p t points hk
 rw[hv] at this
 exact this
end Go.Ev
end

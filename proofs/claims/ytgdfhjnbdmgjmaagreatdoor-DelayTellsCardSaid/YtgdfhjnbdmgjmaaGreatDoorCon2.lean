/- Part of the proof of: The delays of a program, and those that are open, are what the document says, of the programs that the book makes: for every input the law answers true. -/
import Derived.Test.YtgdfhjnbdmgjmaaGreatDoorCon1
set_option maxRecDepth 100000
set_option linter.unusedSectionVars false
set_option linter.unusedVariables false
set_option linter.unusedSimpArgs false
section
open Go Go.Ev
namespace Go.Ev
noncomputable section
def sg_ref1_InsRight:Sig:=[(true,T_api_Ins)]
noncomputable def t_ref1_InsRight:Tbl:=[(78,e_ref1_row),(79,e_ref1_Jumps),(68,e_ref1_Right)]
theorem tk_ref1_InsRight:∀p∈t_ref1_InsRight,EntOK Go.Proofs.Tryz.prog p.1 p.2:=tbl_cons ok_ref1_row (tbl_cons ok_ref1_Jumps (tbl_cons ok_ref1_Right (tbl_nil)))
noncomputable def c_ref1_InsRight:Code:=Go.Proofs.Tryz.f57.body.getD .skip
def tb_ref1_InsRight:Tb:=[(2,⟨[1,26,34,37,44,47],[]⟩),(5,⟨[1,49],[]⟩)]
inductive J_ref1_InsRight where | l2 (h:Bool) | l5 (h:Bool)
def T_ref1_InsRight (i:El T_api_Ins):J_ref1_InsRight→JT J_ref1_InsRight (Int) |.l2 h=>.br h (.leaf (4:Int)) (.br (i.1==(11:Int)) (.br (decide (i.2.2.1 < (1:Int))) (.jmp (.l5 true)) (.br (decide (i.2.2.1 > (10:Int))) (.jmp (.l5 true)) (.br (i.1 !=(11:Int)) (.jmp (.l5 (i.2.2.1 !=(0:Int)))) (.jmp (.l5 false))))) (.br (i.1 !=(11:Int)) (.jmp (.l5 (i.2.2.1 !=(0:Int)))) (.jmp (.l5 false)))) |.l5 h=>.br h (.leaf (4:Int)) (.br (v_ref1_Jumps i.1) (.br (k_ref1_Right i.2.2.2.2.2.1) (.br (! (v_ref1_Right i.2.2.2.2.2.1)) (.leaf (3:Int)) (.leaf (0:Int))) (.no)) (.leaf (0:Int)))
def T0_ref1_InsRight (i:El T_api_Ins):JT J_ref1_InsRight (Int):=.br (decide (i.1 < (1:Int))) (.jmp (.l2 true)) (.br (decide (i.1 > (14:Int))) (.jmp (.l2 true)) (.br (! (v_ref1_row i)) (.jmp (.l2 true)) (.br (! (v_ref1_Jumps i.1)) (.jmp (.l2 (! (eqB i.2.2.2.2.2.1 (bs []))))) (.jmp (.l2 false)))))
def v_ref1_InsRight_l5 (i:El T_api_Ins) (h:Bool):Int:=bif h then (4:Int) else bif (v_ref1_Jumps i.1) then bif (k_ref1_Right i.2.2.2.2.2.1) then bif (! (v_ref1_Right i.2.2.2.2.2.1)) then (3:Int) else (0:Int) else (0:Int) else (0:Int)
def k_ref1_InsRight_l5 (i:El T_api_Ins) (h:Bool):Bool:=bif h then true else bif (v_ref1_Jumps i.1) then bif (k_ref1_Right i.2.2.2.2.2.1) then bif (! (v_ref1_Right i.2.2.2.2.2.1)) then true else true else false else true
theorem g_ref1_InsRight_l5 (i:El T_api_Ins) (h:Bool) (hk:k_ref1_InsRight_l5 i h=true):Goes (T_ref1_InsRight i) (.jmp (.l5 h)) (v_ref1_InsRight_l5 i h):=Goes.jmp (Goes.brk hk (fun hk=>Goes.leaf) (fun hk=>Goes.brk hk (fun hk=>Goes.brk hk (fun hk=>Goes.brk hk (fun hk=>Goes.leaf) (fun hk=>Goes.leaf)) (fun hk=>Goes.nok hk)) (fun hk=>Goes.leaf)))
def v_ref1_InsRight_l2 (i:El T_api_Ins) (h:Bool):Int:=bif h then (4:Int) else bif (i.1==(11:Int)) then bif (decide (i.2.2.1 < (1:Int))) then v_ref1_InsRight_l5 i true else bif (decide (i.2.2.1 > (10:Int))) then v_ref1_InsRight_l5 i true else bif (i.1 !=(11:Int)) then v_ref1_InsRight_l5 i (i.2.2.1 !=(0:Int)) else v_ref1_InsRight_l5 i false else bif (i.1 !=(11:Int)) then v_ref1_InsRight_l5 i (i.2.2.1 !=(0:Int)) else v_ref1_InsRight_l5 i false
def k_ref1_InsRight_l2 (i:El T_api_Ins) (h:Bool):Bool:=bif h then true else bif (i.1==(11:Int)) then bif (decide (i.2.2.1 < (1:Int))) then k_ref1_InsRight_l5 i true else bif (decide (i.2.2.1 > (10:Int))) then k_ref1_InsRight_l5 i true else bif (i.1 !=(11:Int)) then k_ref1_InsRight_l5 i (i.2.2.1 !=(0:Int)) else k_ref1_InsRight_l5 i false else bif (i.1 !=(11:Int)) then k_ref1_InsRight_l5 i (i.2.2.1 !=(0:Int)) else k_ref1_InsRight_l5 i false
theorem g_ref1_InsRight_l2 (i:El T_api_Ins) (h:Bool) (hk:k_ref1_InsRight_l2 i h=true):Goes (T_ref1_InsRight i) (.jmp (.l2 h)) (v_ref1_InsRight_l2 i h):=Goes.jmp (Goes.brk hk (fun hk=>Goes.leaf) (fun hk=>Goes.brk hk (fun hk=>Goes.brk hk (fun hk=>g_ref1_InsRight_l5 i true hk) (fun hk=>Goes.brk hk (fun hk=>g_ref1_InsRight_l5 i true hk) (fun hk=>Goes.brk hk (fun hk=>g_ref1_InsRight_l5 i (i.2.2.1 !=(0:Int)) hk) (fun hk=>g_ref1_InsRight_l5 i false hk)))) (fun hk=>Goes.brk hk (fun hk=>g_ref1_InsRight_l5 i (i.2.2.1 !=(0:Int)) hk) (fun hk=>g_ref1_InsRight_l5 i false hk))))
def u_ref1_InsRight (i:El T_api_Ins):Int:=bif (decide (i.1 < (1:Int))) then v_ref1_InsRight_l2 i true else bif (decide (i.1 > (14:Int))) then v_ref1_InsRight_l2 i true else bif (! (v_ref1_row i)) then v_ref1_InsRight_l2 i true else bif (! (v_ref1_Jumps i.1)) then v_ref1_InsRight_l2 i (! (eqB i.2.2.2.2.2.1 (bs []))) else v_ref1_InsRight_l2 i false
def ku_ref1_InsRight (i:El T_api_Ins):Bool:=bif (decide (i.1 < (1:Int))) then k_ref1_InsRight_l2 i true else bif (decide (i.1 > (14:Int))) then k_ref1_InsRight_l2 i true else bif (! (v_ref1_row i)) then k_ref1_InsRight_l2 i true else bif (! (v_ref1_Jumps i.1)) then k_ref1_InsRight_l2 i (! (eqB i.2.2.2.2.2.1 (bs []))) else k_ref1_InsRight_l2 i false
theorem gu_ref1_InsRight (i:El T_api_Ins) (hk:ku_ref1_InsRight i=true):Goes (T_ref1_InsRight i) (T0_ref1_InsRight i) (u_ref1_InsRight i):=Goes.brk hk (fun hk=>g_ref1_InsRight_l2 i true hk) (fun hk=>Goes.brk hk (fun hk=>g_ref1_InsRight_l2 i true hk) (fun hk=>Goes.brk hk (fun hk=>g_ref1_InsRight_l2 i true hk) (fun hk=>Goes.brk hk (fun hk=>g_ref1_InsRight_l2 i (! (eqB i.2.2.2.2.2.1 (bs []))) hk) (fun hk=>g_ref1_InsRight_l2 i false hk))))
def R_ref1_InsRight:Int→AV:=fun (r:Int)=>.d (.int .i64) r
def S_ref1_InsRight (i:El T_api_Ins):J_ref1_InsRight→Nat×St |.l2 h=>(2,⟨mkTm 59 [(1,.pt 2 0 0),(26,.d .bool h)],[(2,0,.box 61 [.d (.int .i64) i.1,.d .bool i.2.1,.d (.int .i64) i.2.2.1,.d (.int .i64) i.2.2.2.1.1,.d (.int .i64) i.2.2.2.1.2.1,.d (.int .i64) i.2.2.2.1.2.2.1,.d (.int .i64) i.2.2.2.1.2.2.2,.d (.int .i64) i.2.2.2.2.1.1,.d (.int .i64) i.2.2.2.2.1.2.1,.d (.int .i64) i.2.2.2.2.1.2.2.1,.d (.int .i64) i.2.2.2.2.1.2.2.2,.d .str i.2.2.2.2.2.1,.d (.sl .str) i.2.2.2.2.2.2] none)]⟩) |.l5 h=>(5,⟨mkTm 59 [(1,.pt 2 0 0),(49,.d .bool h)],[(2,0,.box 61 [.d (.int .i64) i.1,.d .bool i.2.1,.d (.int .i64) i.2.2.1,.d (.int .i64) i.2.2.2.1.1,.d (.int .i64) i.2.2.2.1.2.1,.d (.int .i64) i.2.2.2.1.2.2.1,.d (.int .i64) i.2.2.2.1.2.2.2,.d (.int .i64) i.2.2.2.2.1.1,.d (.int .i64) i.2.2.2.2.1.2.1,.d (.int .i64) i.2.2.2.2.1.2.2.1,.d (.int .i64) i.2.2.2.2.1.2.2.2,.d .str i.2.2.2.2.2.1,.d (.sl .str) i.2.2.2.2.2.2] none)]⟩)
theorem en_ref1_InsRight (i:El T_api_Ins) (L:Lt):entryA Go.Proofs.Tryz.prog (clOf t_ref1_InsRight) tb_ref1_InsRight Go.Proofs.Tryz.f57 c_ref1_InsRight L (toForms sg_ref1_InsRight (i,()))=(T0_ref1_InsRight i).run (fun v=>some (R_ref1_InsRight v,tps (toForms sg_ref1_InsRight (i,())))) fun j=>L (S_ref1_InsRight i j).1 (S_ref1_InsRight i j).2:=by kernel_rfl
theorem lp_ref1_InsRight (i:El T_api_Ins):∀(L:Lt) (j:J_ref1_InsRight),procOf (procsF Go.Proofs.Tryz.prog (clOf t_ref1_InsRight) tb_ref1_InsRight Go.Proofs.Tryz.f57 c_ref1_InsRight (toForms sg_ref1_InsRight (i,()))) (S_ref1_InsRight i j).1 L (S_ref1_InsRight i j).2=(T_ref1_InsRight i j).run (fun v=>some (R_ref1_InsRight v,tps (toForms sg_ref1_InsRight (i,())))) fun j=>L (S_ref1_InsRight i j).1 (S_ref1_InsRight i j).2 | L,.l2 h=>by kernel_rfl | L,.l5 h=>by kernel_rfl
end
end Go.Ev
end

section
open Go
namespace Go.Ev
def refRB_l5 (op cond:Int) (row nm te:Bool) (h:Bool):Int:=
 bif h then
  (4:Int)
 else bif (bif (op==(10:Int)) then true else (op==(11:Int))) then
  bif true then
   bif (! nm) then
    (3:Int)
   else (0:Int)
  else (0:Int)
 else (0:Int)
def refRB_l2 (op cond:Int) (row nm te:Bool) (h:Bool):Int:=
 bif h then
  (4:Int)
 else bif (op==(11:Int)) then
  bif (decide (cond < (1:Int))) then
   refRB_l5 op cond row nm te true
  else bif (decide (cond > (10:Int))) then
   refRB_l5 op cond row nm te true
  else bif (op !=(11:Int)) then
   refRB_l5 op cond row nm te (cond !=(0:Int))
  else refRB_l5 op cond row nm te false
 else bif (op !=(11:Int)) then
  refRB_l5 op cond row nm te (cond !=(0:Int))
 else refRB_l5 op cond row nm te false
def refRB (op cond:Int) (row nm te:Bool):Int:=
 bif (decide (op < (1:Int))) then
  refRB_l2 op cond row nm te true
 else bif (decide (op > (14:Int))) then
  refRB_l2 op cond row nm te true
 else bif (! row) then
  refRB_l2 op cond row nm te true
 else bif (! (bif (op==(10:Int)) then true else (op==(11:Int)))) then
  refRB_l2 op cond row nm te (! te)
 else refRB_l2 op cond row nm te false
def insRB (op cond:Int) (row nm te:Bool):Int:=
 bif (op==(10:Int)) then
  bif (! (decide (1≤op)&&(decide (op≤14)&&(row&&condOK op cond)))) then
   (4:Int)
  else bif true then
   bif (! nm) then
    (3:Int)
   else (0:Int)
  else (0:Int)
 else bif (! (decide (1≤op)&&(decide (op≤14)&&(row&&condOK op cond)))) then
  (4:Int)
 else bif (! (op==(11:Int))) then
  bif (! te) then
   (4:Int)
  else bif (op==(11:Int)) then
   bif true then
    bif (! nm) then
     (3:Int)
    else (0:Int)
   else (0:Int)
  else (0:Int)
 else bif (op==(11:Int)) then
  bif true then
   bif (! nm) then
    (3:Int)
   else (0:Int)
  else (0:Int)
 else (0:Int)
theorem rightB (op cond:Int) (row nm te:Bool):refRB op cond row nm te=insRB op cond row nm te:=by
 unfold refRB refRB_l2 refRB_l5 insRB condOK
 have beqs:∀(k c:Int),(k==c)=decide (k=c):=fun k c=>by rw[Bool.eq_iff_iff];simp
 have bnes:∀(k c:Int),(k !=c)=!decide (k=c):=fun k c=>by rw[Bool.eq_iff_iff];simp
 simp only[beqs,bnes]
 by_cases h1:op < 1
 ·have e1:decide (op=10)=false:=by simp;omega
  have e2:decide (op=11)=false:=by simp;omega
  have e3:decide (1≤op)=false:=by simp;omega
  simp[h1,e1,e2,e3]
 by_cases h2:op > 14
 ·have e1:decide (op=10)=false:=by simp;omega
  have e2:decide (op=11)=false:=by simp;omega
  have e3:decide (op≤14)=false:=by simp;omega
  simp[h1,h2,e1,e2,e3]
 have e3:decide (1≤op)=true:=by simp;omega
 have e4:decide (op≤14)=true:=by simp;omega
 by_cases h10:op=10
 ·subst h10
  by_cases hc:cond=0 <;> cases row <;> cases nm <;> simp[hc]
 by_cases h11:op=11
 ·subst h11
  have f1:decide (1≤cond)=!decide (cond < 1):=by by_cases h:cond < 1 <;> simp[h] <;> omega
  have f2:decide (cond≤10)=!decide (cond > 10):=by by_cases h:cond > 10 <;> simp[h] <;> omega
  rw[f1,f2]
  by_cases hc:cond < 1 <;> by_cases hd:cond > 10 <;> cases row <;> cases nm <;> simp[hc,hd]
 by_cases hc:cond=0 <;> cases row <;> cases te <;> simp[h1,h2,h10,h11,e3,e4,hc]
def v_ref1_InsRight (i:El T_api_Ins):Int:=v_ins_Right i
def k_ref1_InsRight (i:El T_api_Ins):Bool:=smallText i.2.2.2.2.2.1
theorem g_ref1_InsRight (i:El T_api_Ins) (hk:k_ref1_InsRight i=true):Goes (T_ref1_InsRight i) (T0_ref1_InsRight i) (v_ref1_InsRight i):=by
 have h1:k_ref1_Right i.2.2.2.2.2.1=true:=hk
 have h2:k_names_Right i.2.2.2.2.2.1=true:=hk
 have hku:ku_ref1_InsRight i=true:=by
  unfold ku_ref1_InsRight k_ref1_InsRight_l2 k_ref1_InsRight_l5
  simp only[h1,cond_true,Bool.cond_self]
 have hr:u_ref1_InsRight i=refRB i.1 i.2.2.1 (v_ref1_row i) (nameRight i.2.2.2.2.2.1) (eqB i.2.2.2.2.2.1 (bs [])):=by
  unfold u_ref1_InsRight v_ref1_InsRight_l2 v_ref1_InsRight_l5
  simp only[h1]
  rfl
 have hp:u_ins_Right i=insRB i.1 i.2.2.1 (v_ref1_row i) (nameRight i.2.2.2.2.2.1) (eqB i.2.2.2.2.2.1 (bs [])):=by
  unfold u_ins_Right
  simp only[h2,fits_row]
  rfl
 have e:v_ref1_InsRight i=u_ref1_InsRight i:=by
  rw[hr,rightB,←hp]
  rfl
 rw[e]
 exact gu_ref1_InsRight i hku
end Go.Ev
end

section
open Go Go.Ev
namespace Go.Ev
noncomputable section
noncomputable def e_ref1_InsRight:Run:=entG sg_ref1_InsRight R_ref1_InsRight (fun a=>k_ref1_InsRight a.1) (fun a=>v_ref1_InsRight a.1)
theorem ok_ref1_InsRight:EntOK Go.Proofs.Tryz.prog 57 e_ref1_InsRight:=entG_ok (tb:=tb_ref1_InsRight) (c:=c_ref1_InsRight) tk_ref1_InsRight (by kernel_rfl) (by kernel_rfl) (by kernel_rfl) (fun a=>by kernel_rfl) fun ⟨i,_⟩ hk=>evF_goes (c:=c_ref1_InsRight) (K:=fun v=>(R_ref1_InsRight v,tps (toForms sg_ref1_InsRight (i,())))) (S:=S_ref1_InsRight i) (by kernel_rfl) (en_ref1_InsRight i) (lp_ref1_InsRight i) (g_ref1_InsRight i hk)
end
end Go.Ev
end

section
open Go Go.Ev
namespace Go.Ev
noncomputable section
def sg_ref1_operand:Sig:=[(true,T_api_Prog),(true,T_api_Opd)]
noncomputable def t_ref1_operand:Tbl:=[(58,e_ref1_Memory)]
theorem tk_ref1_operand:∀p∈t_ref1_operand,EntOK Go.Proofs.Tryz.prog p.1 p.2:=tbl_cons ok_ref1_Memory (tbl_nil)
noncomputable def c_ref1_operand:Code:=Go.Proofs.Tryz.f90.body.getD .skip
def tb_ref1_operand:Tb:=[]
def T_ref1_operand (p:El T_api_Prog) (o:El T_api_Opd):Empty→JT Empty (Int):=fun j=>nomatch j
def T0_ref1_operand (p:El T_api_Prog) (o:El T_api_Opd):JT Empty (Int):=.br (! (v_ref1_Memory o)) (.leaf (0:Int)) (.br (decide (o.2.2.1≥(Int.ofNat (List.length p.1)))) (.leaf (7:Int)) (.br (o.1==(3:Int)) (.br ((decide ((0:Int)≤o.2.2.1))&&(decide (o.2.2.1 < (Int.ofNat (List.length p.1))))) (.br (decide (o.2.2.2≥(List.getD p.1 (Int.toNat o.2.2.1) (dflt T_api_Sym)).2.1)) (.leaf (8:Int)) (.leaf (0:Int))) (.no)) (.leaf (0:Int))))
def v_ref1_operand (p:El T_api_Prog) (o:El T_api_Opd):Int:=bif (! (v_ref1_Memory o)) then (0:Int) else bif (decide (o.2.2.1≥(Int.ofNat (List.length p.1)))) then (7:Int) else bif (o.1==(3:Int)) then bif ((decide ((0:Int)≤o.2.2.1))&&(decide (o.2.2.1 < (Int.ofNat (List.length p.1))))) then bif (decide (o.2.2.2≥(List.getD p.1 (Int.toNat o.2.2.1) (dflt T_api_Sym)).2.1)) then (8:Int) else (0:Int) else (0:Int) else (0:Int)
def k_ref1_operand (p:El T_api_Prog) (o:El T_api_Opd):Bool:=bif (! (v_ref1_Memory o)) then true else bif (decide (o.2.2.1≥(Int.ofNat (List.length p.1)))) then true else bif (o.1==(3:Int)) then bif ((decide ((0:Int)≤o.2.2.1))&&(decide (o.2.2.1 < (Int.ofNat (List.length p.1))))) then bif (decide (o.2.2.2≥(List.getD p.1 (Int.toNat o.2.2.1) (dflt T_api_Sym)).2.1)) then true else true else false else true
theorem g_ref1_operand (p:El T_api_Prog) (o:El T_api_Opd) (hk:k_ref1_operand p o=true):Goes (T_ref1_operand p o) (T0_ref1_operand p o) (v_ref1_operand p o):=Goes.brk hk (fun hk=>Goes.leaf) (fun hk=>Goes.brk hk (fun hk=>Goes.leaf) (fun hk=>Goes.brk hk (fun hk=>Goes.brk hk (fun hk=>Goes.brk hk (fun hk=>Goes.leaf) (fun hk=>Goes.leaf)) (fun hk=>Goes.nok hk)) (fun hk=>Goes.leaf)))
def R_ref1_operand:Int→AV:=fun (r:Int)=>.d (.int .i64) r
def S_ref1_operand (p:El T_api_Prog) (o:El T_api_Opd):Empty→Nat×St:=fun j=>nomatch j
theorem en_ref1_operand (p:El T_api_Prog) (o:El T_api_Opd) (L:Lt):entryA Go.Proofs.Tryz.prog (clOf t_ref1_operand) tb_ref1_operand Go.Proofs.Tryz.f90 c_ref1_operand L (toForms sg_ref1_operand (p,o,()))=(T0_ref1_operand p o).run (fun v=>some (R_ref1_operand v,tps (toForms sg_ref1_operand (p,o,())))) fun j=>L (S_ref1_operand p o j).1 (S_ref1_operand p o j).2:=by kernel_rfl
theorem lp_ref1_operand (p:El T_api_Prog) (o:El T_api_Opd):∀(L:Lt) (j:Empty),procOf (procsF Go.Proofs.Tryz.prog (clOf t_ref1_operand) tb_ref1_operand Go.Proofs.Tryz.f90 c_ref1_operand (toForms sg_ref1_operand (p,o,()))) (S_ref1_operand p o j).1 L (S_ref1_operand p o j).2=(T_ref1_operand p o j).run (fun v=>some (R_ref1_operand v,tps (toForms sg_ref1_operand (p,o,())))) fun j=>L (S_ref1_operand p o j).1 (S_ref1_operand p o j).2:=fun L j=>nomatch j
noncomputable def e_ref1_operand:Run:=entG sg_ref1_operand R_ref1_operand (fun a=>k_ref1_operand a.1 a.2.1) (fun a=>v_ref1_operand a.1 a.2.1)
theorem ok_ref1_operand:EntOK Go.Proofs.Tryz.prog 90 e_ref1_operand:=entG_ok (tb:=tb_ref1_operand) (c:=c_ref1_operand) tk_ref1_operand (by kernel_rfl) (by kernel_rfl) (by kernel_rfl) (fun a=>by kernel_rfl) fun ⟨p,o,_⟩ hk=>evF_goes (c:=c_ref1_operand) (K:=fun v=>(R_ref1_operand v,tps (toForms sg_ref1_operand (p,o,())))) (S:=S_ref1_operand p o) (by kernel_rfl) (en_ref1_operand p o) (lp_ref1_operand p o) (g_ref1_operand p o hk)
end
end Go.Ev
end

section
open Go Go.Ev
namespace Go.Ev
noncomputable section
def sg_ref1_Find:Sig:=[(true,(.sl T_api_Ins)),(false,.str)]
noncomputable def t_ref1_Find:Tbl:=[(89,e_ref1_index)]
theorem tk_ref1_Find:∀p∈t_ref1_Find,EntOK Go.Proofs.Tryz.prog p.1 p.2:=tbl_cons ok_ref1_index (tbl_nil)
noncomputable def c_ref1_Find:Code:=Go.Proofs.Tryz.f91.body.getD .skip
def tb_ref1_Find:Tb:=[(3,⟨[1,2,5],[]⟩)]
inductive J_ref1_Find where | l3 (i:Int)
def T_ref1_Find (t:List (El T_api_Ins)) (label:ByteArray):J_ref1_Find→JT J_ref1_Find (Int) |.l3 i=>.br (decide (i < (Int.ofNat (List.length t)))) (.br ((decide ((0:Int)≤i))&&(decide (i < (Int.ofNat (List.length t))))) (.br (k_ref1_index (List.getD t (Int.toNat i) (dflt T_api_Ins)).2.2.2.2.2.2 label) (.br (decide ((v_ref1_index (List.getD t (Int.toNat i) (dflt T_api_Ins)).2.2.2.2.2.2 label)≥(0:Int))) (.leaf i) (.jmp (.l3 (IntKind.i64.wrap (i+(1:Int)))))) (.no)) (.no)) (.leaf (-1:Int))
def T0_ref1_Find (t:List (El T_api_Ins)) (label:ByteArray):JT J_ref1_Find (Int):=.jmp (.l3 (0:Int))
def R_ref1_Find:Int→AV:=fun (r:Int)=>.d (.int .i64) r
def S_ref1_Find (t:List (El T_api_Ins)) (label:ByteArray):J_ref1_Find→Nat×St |.l3 i=>(3,⟨mkTm 23 [(1,.d .str label),(2,.pt 3 0 0),(5,.d (.int .i64) i)],[(3,0,.box 48 [.d (.sl T_api_Ins) t] none)]⟩)
theorem en_ref1_Find (t:List (El T_api_Ins)) (label:ByteArray) (L:Lt):entryA Go.Proofs.Tryz.prog (clOf t_ref1_Find) tb_ref1_Find Go.Proofs.Tryz.f91 c_ref1_Find L (toForms sg_ref1_Find (t,label,()))=(T0_ref1_Find t label).run (fun v=>some (R_ref1_Find v,tps (toForms sg_ref1_Find (t,label,())))) fun j=>L (S_ref1_Find t label j).1 (S_ref1_Find t label j).2:=by kernel_rfl
theorem lp_ref1_Find (t:List (El T_api_Ins)) (label:ByteArray):∀(L:Lt) (j:J_ref1_Find),procOf (procsF Go.Proofs.Tryz.prog (clOf t_ref1_Find) tb_ref1_Find Go.Proofs.Tryz.f91 c_ref1_Find (toForms sg_ref1_Find (t,label,()))) (S_ref1_Find t label j).1 L (S_ref1_Find t label j).2=(T_ref1_Find t label j).run (fun v=>some (R_ref1_Find v,tps (toForms sg_ref1_Find (t,label,())))) fun j=>L (S_ref1_Find t label j).1 (S_ref1_Find t label j).2 | L,.l3 i=>by kernel_rfl
end
end Go.Ev
end

section
open Go
namespace Go.Ev
def v_ref1_Find (t:List (El T_api_Ins)) (label:ByteArray):Int:=findI label t 0
def k_ref1_Find (t:List (El T_api_Ins)) (label:ByteArray):Bool:=decide (t.length < 1099511627776)&&t.all fun i=>decide (i.2.2.2.2.2.2.length < 1099511627776)
theorem g_ref1_Find (t:List (El T_api_Ins)) (label:ByteArray) (hk:k_ref1_Find t label=true):Goes (T_ref1_Find t label) (T0_ref1_Find t label) (v_ref1_Find t label):=by
 unfold k_ref1_Find at hk
 simp only[Bool.and_eq_true,decide_eq_true_eq,List.all_eq_true] at hk
 obtain ⟨hn,hl⟩:=hk
 have loop:∀k,k≤t.length→Goes (T_ref1_Find t label) (.jmp (.l3 (k:Int))) (findI label (t.drop k) k):=by
  refine down ?_ fun k hk ih=>?_
  ·rw[goes_jmp]
   simp only[T_ref1_Find,goes_br,lt_len_not (Nat.lt_irrefl _),goes_leaf,List.drop_length]
   simp[findI]
  ·have hli:=hl t[k] (List.getElem_mem hk)
   have hki:k_ref1_index t[k].2.2.2.2.2.2 label=true:=decide_eq_true (by omega)
   rw[goes_jmp]
   simp only[T_ref1_Find,goes_br,lt_len hk,nng,Bool.and_self,if_true,Int.toNat_natCast,getD_lt hk,wrap_succ (k:=k) (by omega),hki]
   rw[drop_cons hk]
   unfold findI
   have hi:decide (v_ref1_index t[k].2.2.2.2.2.2 label≥0)=t[k].2.2.2.2.2.2.contains label:=by
    rw[←findFrom_contains (k:=0)]
    unfold v_ref1_index
    cases h:findFrom label t[k].2.2.2.2.2.2 0 with
    | none=>rfl
    | some n=>simp
   rw[hi]
   split
   ·exact .leaf
   ·exact ih
 unfold T0_ref1_Find v_ref1_Find
 simpa using loop 0 (Nat.zero_le _)
end Go.Ev
end

section
open Go Go.Ev
namespace Go.Ev
noncomputable section
noncomputable def e_ref1_Find:Run:=entG sg_ref1_Find R_ref1_Find (fun a=>k_ref1_Find a.1 a.2.1) (fun a=>v_ref1_Find a.1 a.2.1)
theorem ok_ref1_Find:EntOK Go.Proofs.Tryz.prog 91 e_ref1_Find:=entG_ok (tb:=tb_ref1_Find) (c:=c_ref1_Find) tk_ref1_Find (by kernel_rfl) (by kernel_rfl) (by kernel_rfl) (fun a=>by kernel_rfl) fun ⟨t,label,_⟩ hk=>evF_goes (c:=c_ref1_Find) (K:=fun v=>(R_ref1_Find v,tps (toForms sg_ref1_Find (t,label,())))) (S:=S_ref1_Find t label) (by kernel_rfl) (en_ref1_Find t label) (lp_ref1_Find t label) (g_ref1_Find t label hk)
end
end Go.Ev
end

section
open Go Go.Ev
namespace Go.Ev
noncomputable section
def sg_ref1_thread:Sig:=[(true,T_api_Prog),(true,(.sl T_api_Ins))]
noncomputable def t_ref1_thread:Tbl:=[(88,e_ref1_Count),(68,e_ref1_Right),(89,e_ref1_index),(57,e_ref1_InsRight),(90,e_ref1_operand),(79,e_ref1_Jumps),(91,e_ref1_Find)]
theorem tk_ref1_thread:∀p∈t_ref1_thread,EntOK Go.Proofs.Tryz.prog p.1 p.2:=tbl_cons ok_ref1_Count (tbl_cons ok_ref1_Right (tbl_cons ok_ref1_index (tbl_cons ok_ref1_InsRight (tbl_cons ok_ref1_operand (tbl_cons ok_ref1_Jumps (tbl_cons ok_ref1_Find (tbl_nil)))))))
noncomputable def c_ref1_thread:Code:=Go.Proofs.Tryz.f69.body.getD .skip
def tb_ref1_thread:Tb:=[(7,⟨[2,3,5,6],[(6,118)]⟩),(14,⟨[2,3,5,6,7,8],[(6,118)]⟩),(44,⟨[3,13],[]⟩)]
inductive J_ref1_thread where | l7 (i:Int) (seen:List ByteArray) | l14 (x:Int) (x1:Bool) (x2:Int) (x3:Int) (x4:Int) (x5:Int) (x6:Int) (x7:Int) (x8:Int) (x9:Int) (x10:Int) (x11:ByteArray) (x12:List ByteArray) (k:Int) (seen:List ByteArray) (i:Int) | l44 (i:Int)
def T_ref1_thread (p:El T_api_Prog) (t:List (El T_api_Ins)):J_ref1_thread→JT J_ref1_thread (Int) |.l7 i seen=>.br (decide (i < (Int.ofNat (List.length t)))) (.br ((decide ((0:Int)≤i))&&(decide (i < (Int.ofNat (List.length t))))) (.jmp (.l14 (List.getD t (Int.toNat i) (dflt T_api_Ins)).1 (List.getD t (Int.toNat i) (dflt T_api_Ins)).2.1 (List.getD t (Int.toNat i) (dflt T_api_Ins)).2.2.1 (List.getD t (Int.toNat i) (dflt T_api_Ins)).2.2.2.1.1 (List.getD t (Int.toNat i) (dflt T_api_Ins)).2.2.2.1.2.1 (List.getD t (Int.toNat i) (dflt T_api_Ins)).2.2.2.1.2.2.1 (List.getD t (Int.toNat i) (dflt T_api_Ins)).2.2.2.1.2.2.2 (List.getD t (Int.toNat i) (dflt T_api_Ins)).2.2.2.2.1.1 (List.getD t (Int.toNat i) (dflt T_api_Ins)).2.2.2.2.1.2.1 (List.getD t (Int.toNat i) (dflt T_api_Ins)).2.2.2.2.1.2.2.1 (List.getD t (Int.toNat i) (dflt T_api_Ins)).2.2.2.2.1.2.2.2 (List.getD t (Int.toNat i) (dflt T_api_Ins)).2.2.2.2.2.1 (List.getD t (Int.toNat i) (dflt T_api_Ins)).2.2.2.2.2.2 (0:Int) seen i)) (.no)) (.br ((Int.ofNat (List.length t))==(0:Int)) (.leaf (9:Int)) (.br ((decide ((0:Int)≤(IntKind.i64.wrap ((Int.ofNat (List.length t)) - (1:Int)))))&&(decide ((IntKind.i64.wrap ((Int.ofNat (List.length t)) - (1:Int))) < (Int.ofNat (List.length t))))) (.br ((List.getD t (Int.toNat (IntKind.i64.wrap ((Int.ofNat (List.length t)) - (1:Int)))) (dflt T_api_Ins)).1 !=(10:Int)) (.br ((List.getD t (Int.toNat (IntKind.i64.wrap ((Int.ofNat (List.length t)) - (1:Int)))) (dflt T_api_Ins)).1 !=(14:Int)) (.leaf (9:Int)) (.jmp (.l44 (0:Int)))) (.jmp (.l44 (0:Int)))) (.no))) |.l14 x x1 x2 x3 x4 x5 x6 x7 x8 x9 x10 x11 x12 k seen i=>.br (decide (k < (Int.ofNat (List.length x12)))) (.br ((decide ((0:Int)≤k))&&(decide (k < (Int.ofNat (List.length x12))))) (.br (k_ref1_Right (List.getD x12 (Int.toNat k) (dflt .str))) (.br (! (v_ref1_Right (List.getD x12 (Int.toNat k) (dflt .str)))) (.leaf (3:Int)) (.br ((decide ((0:Int)≤k))&&(decide (k < (Int.ofNat (List.length x12))))) (.br (k_ref1_index seen (List.getD x12 (Int.toNat k) (dflt .str))) (.br (decide ((v_ref1_index seen (List.getD x12 (Int.toNat k) (dflt .str)))≥(0:Int))) (.leaf (6:Int)) (.br ((decide ((0:Int)≤k))&&(decide (k < (Int.ofNat (List.length x12))))) (.br (Nat.ble (((List.length seen)+1)*16) limit) (.jmp (.l14 x x1 x2 x3 x4 x5 x6 x7 x8 x9 x10 x11 x12 (IntKind.i64.wrap (k+(1:Int))) (seen++[(List.getD x12 (Int.toNat k) (dflt .str))]) i)) (.no)) (.no))) (.no)) (.no))) (.no)) (.no)) (.br (k_ref1_InsRight (x,(x1,(x2,((x3,(x4,(x5,x6))),((x7,(x8,(x9,x10))),(x11,x12))))))) (.br ((v_ref1_InsRight (x,(x1,(x2,((x3,(x4,(x5,x6))),((x7,(x8,(x9,x10))),(x11,x12))))))) !=(0:Int)) (.leaf (v_ref1_InsRight (x,(x1,(x2,((x3,(x4,(x5,x6))),((x7,(x8,(x9,x10))),(x11,x12)))))))) (.br (k_ref1_operand p (x3,(x4,(x5,x6)))) (.br ((v_ref1_operand p (x3,(x4,(x5,x6)))) !=(0:Int)) (.leaf (v_ref1_operand p (x3,(x4,(x5,x6))))) (.br (k_ref1_operand p (x7,(x8,(x9,x10)))) (.br ((v_ref1_operand p (x7,(x8,(x9,x10)))) !=(0:Int)) (.leaf (v_ref1_operand p (x7,(x8,(x9,x10))))) (.jmp (.l7 (IntKind.i64.wrap (i+(1:Int))) seen))) (.no))) (.no))) (.no)) |.l44 i=>.br (decide (i < (Int.ofNat (List.length t)))) (.br ((decide ((0:Int)≤i))&&(decide (i < (Int.ofNat (List.length t))))) (.br (v_ref1_Jumps (List.getD t (Int.toNat i) (dflt T_api_Ins)).1) (.br ((decide ((0:Int)≤i))&&(decide (i < (Int.ofNat (List.length t))))) (.br (k_ref1_Find t (List.getD t (Int.toNat i) (dflt T_api_Ins)).2.2.2.2.2.1) (.br (decide ((v_ref1_Find t (List.getD t (Int.toNat i) (dflt T_api_Ins)).2.2.2.2.2.1) < (0:Int))) (.leaf (7:Int)) (.jmp (.l44 (IntKind.i64.wrap (i+(1:Int)))))) (.no)) (.no)) (.jmp (.l44 (IntKind.i64.wrap (i+(1:Int)))))) (.no)) (.leaf (0:Int))
def T0_ref1_thread (p:El T_api_Prog) (t:List (El T_api_Ins)):JT J_ref1_thread (Int):=.br (k_ref1_Count t) (.br (decide ((v_ref1_Count t) > (4096:Int))) (.leaf (10:Int)) (.jmp (.l7 (0:Int) []))) (.no)
def R_ref1_thread:Int→AV:=fun (r:Int)=>.d (.int .i64) r
def S_ref1_thread (p:El T_api_Prog) (t:List (El T_api_Ins)):J_ref1_thread→Nat×St |.l7 i seen=>(7,⟨mkTm 122 [(2,.pt 3 0 0),(3,.pt 4 0 0),(5,.own 6 0 none),(6,.d (.int .i64) i)],[(3,0,.box 26 [.d (.sl T_api_Sym) p.1,.d (.sl (.sl T_api_Ins)) p.2] none),(4,0,.box 48 [.d (.sl T_api_Ins) t] none),(6,0,.row 9 .str seen false)]⟩) |.l14 x x1 x2 x3 x4 x5 x6 x7 x8 x9 x10 x11 x12 k seen i=>(14,⟨mkTm 122 [(2,.pt 3 0 0),(3,.pt 4 0 0),(5,.own 6 0 none),(6,.d (.int .i64) i),(7,.pt 8 0 0),(8,.d (.int .i64) k)],[(3,0,.box 26 [.d (.sl T_api_Sym) p.1,.d (.sl (.sl T_api_Ins)) p.2] none),(4,0,.box 48 [.d (.sl T_api_Ins) t] none),(6,0,.row 9 .str seen false),(8,0,.box 61 [.d (.int .i64) x,.d .bool x1,.d (.int .i64) x2,.d (.int .i64) x3,.d (.int .i64) x4,.d (.int .i64) x5,.d (.int .i64) x6,.d (.int .i64) x7,.d (.int .i64) x8,.d (.int .i64) x9,.d (.int .i64) x10,.d .str x11,.d (.sl .str) x12] none)]⟩) |.l44 i=>(44,⟨mkTm 122 [(3,.pt 4 0 0),(13,.d (.int .i64) i)],[(4,0,.box 48 [.d (.sl T_api_Ins) t] none)]⟩)
theorem en_ref1_thread (p:El T_api_Prog) (t:List (El T_api_Ins)) (L:Lt):entryA Go.Proofs.Tryz.prog (clOf t_ref1_thread) tb_ref1_thread Go.Proofs.Tryz.f69 c_ref1_thread L (toForms sg_ref1_thread (p,t,()))=(T0_ref1_thread p t).run (fun v=>some (R_ref1_thread v,tps (toForms sg_ref1_thread (p,t,())))) fun j=>L (S_ref1_thread p t j).1 (S_ref1_thread p t j).2:=by kernel_rfl
theorem lp_ref1_thread (p:El T_api_Prog) (t:List (El T_api_Ins)):∀(L:Lt) (j:J_ref1_thread),procOf (procsF Go.Proofs.Tryz.prog (clOf t_ref1_thread) tb_ref1_thread Go.Proofs.Tryz.f69 c_ref1_thread (toForms sg_ref1_thread (p,t,()))) (S_ref1_thread p t j).1 L (S_ref1_thread p t j).2=(T_ref1_thread p t j).run (fun v=>some (R_ref1_thread v,tps (toForms sg_ref1_thread (p,t,())))) fun j=>L (S_ref1_thread p t j).1 (S_ref1_thread p t j).2 | L,.l7 i seen=>by kernel_rfl | L,.l14 x x1 x2 x3 x4 x5 x6 x7 x8 x9 x10 x11 x12 k seen i=>by kernel_rfl | L,.l44 i=>by kernel_rfl
end
end Go.Ev
end

section
open Go
namespace Go.Ev
def v_ref1_thread (p:El T_api_Prog) (t:List (El T_api_Ins)):Int:=threadC p t
def k_ref1_thread (p:El T_api_Prog) (t:List (El T_api_Ins)):Bool:=smallThread t
theorem operand_eq' (len:Nat) (size:Int→Int) (k s n:Int) (h:(k=3∨k=4)→0≤s):
 (bif (! (decide (k=3) || decide (k=4))) then
  (0:Int)
 else bif (decide (s≥(Int.ofNat len))) then
  (7:Int)
 else bif (k==(3:Int)) then
  bif ((decide ((0:Int)≤s))&&(decide (s < (Int.ofNat len)))) then
   bif (decide (n≥size s)) then
    (8:Int)
   else (0:Int)
  else (0:Int)
 else (0:Int))=placeN len size k s n∧
 (bif (! (decide (k=3) || decide (k=4))) then
  true
 else bif (decide (s≥(Int.ofNat len))) then
  true
 else bif (k==(3:Int)) then
  bif ((decide ((0:Int)≤s))&&(decide (s < (Int.ofNat len)))) then
   bif (decide (n≥size s)) then
    true
   else true
  else false
 else true)=true:=by
 unfold placeN
 by_cases h3:k=3
 ·have h0:=h (.inl h3)
  subst h3
  by_cases hl:(len:Int)≤s
  ·simp[hl]
  have h2:s < (len:Int):=by omega
  have h1:¬s < 0:=by omega
  by_cases hn:size s≤n
  ·simp[hl,hn,h0,h1,h2]
  ·simp[hl,hn,h0,h1,h2]
 by_cases h4:k=4
 ·have h0:=h (.inr h4)
  subst h4
  have h1:¬s < 0:=by omega
  by_cases hl:(len:Int)≤s
  ·simp[hl]
  simp[hl,h1]
 simp[h3,h4]
theorem operand_eq (p:El T_api_Prog) (o:El T_api_Opd) (h:∀k s:Int,o.1=k→o.2.2.1=s→(k=3∨k=4)→0≤s):v_ref1_operand p o=placeC p o∧k_ref1_operand p o=true:=by
 have:=operand_eq' p.1.length (fun s=>(List.getD p.1 s.toNat (dflt T_api_Sym)).2.1) o.1 o.2.2.1 o.2.2.2 (h _ _ rfl rfl)
 unfold v_ref1_operand k_ref1_operand
 rw[refMemory_eq]
 exact this
theorem right_sym' {k r s n:Int} (h:v_opnd_Right (k,r,s,n)=true) (hk:k=3∨k=4):0≤s:=by
 unfold v_opnd_Right at h
 rcases hk with rfl | rfl
 ·by_cases hs:0≤s
  ·exact hs
  ·simp[hs] at h
 ·by_cases hs:0≤s
  ·exact hs
  ·simp[hs] at h
theorem opds_ok {i:El T_api_Ins} (hr:v_ins_Right i=0):(∀k s:Int,i.2.2.2.1.1=k→i.2.2.2.1.2.2.1=s→(k=3∨k=4)→0≤s)∧∀k s:Int,i.2.2.2.2.1.1=k→i.2.2.2.2.1.2.2.1=s→(k=3∨k=4)→0≤s:=by
 obtain ⟨h1,h14,hrow⟩:=right0_row hr
 rcases nine i.1 with ⟨h9,_⟩ | ⟨h9,_⟩
 ·obtain ⟨a,b⟩:=row_low hrow h1 h9
  exact ⟨fun k s hk hs h=>hs▸right_sym' (k:=i.2.2.2.1.1) (r:=i.2.2.2.1.2.1) (s:=i.2.2.2.1.2.2.1) (n:=i.2.2.2.1.2.2.2) a (hk▸h),fun k s hk hs h=>hs▸right_sym' (k:=i.2.2.2.2.1.1) (r:=i.2.2.2.2.1.2.1) (s:=i.2.2.2.2.1.2.2.1) (n:=i.2.2.2.2.1.2.2.2) b (hk▸h)⟩
 ·obtain ⟨a,b⟩:=row_high hrow h9
  refine ⟨fun k s hk hs h=>?_,fun k s hk hs h=>?_⟩
  ·have:k=0:=hk▸a
   omega
  ·have:k=0:=hk▸b
   omega
theorem g_ref1_thread (p:El T_api_Prog) (t:List (El T_api_Ins)) (hk:k_ref1_thread p t=true):Goes (T_ref1_thread p t) (T0_ref1_thread p t) (v_ref1_thread p t):=by
 have hS:=smallT hk
 have hn:=hS.len
 have hkf:∀l,k_ref1_Find t l=true:=fun l=>by
  unfold k_ref1_Find
  simp only[Bool.and_eq_true,decide_eq_true_eq,List.all_eq_true]
  exact ⟨hn,fun i hi=>Nat.lt_of_le_of_lt (labels_mem hi) hS.labs⟩
 have jmps:∀k,k≤t.length→Goes (T_ref1_thread p t) (.jmp (.l44 (k:Int))) (jumpC (labels t) (t.drop k)):=by
  refine down ?_ fun k hk ih=>?_
  ·rw[goes_jmp]
   simp only[T_ref1_thread,goes_br,lt_len_not (Nat.lt_irrefl _),goes_leaf,List.drop_length]
   simp[jumpC]
  ·rw[goes_jmp]
   simp only[T_ref1_thread,goes_br,lt_len hk,nng,Bool.and_self,if_true,Int.toNat_natCast,getD_lt hk,wrap_succ (k:=k) (by omega),hkf,jumps_eq]
   have hfi:decide (v_ref1_Find t t[k].2.2.2.2.2.1 < 0)=! (labels t).contains t[k].2.2.2.2.2.1:=findI_neg
   rw[hfi,drop_cons hk]
   unfold jumpC
   by_cases h1:((t[k].1==(10:Int)) || (t[k].1==(11:Int)))=true
   ·rw[if_pos h1,if_pos h1]
    by_cases h2:(labels t).contains t[k].2.2.2.2.2.1=true
    ·rw[if_pos h2,if_neg (by rw[h2];decide)];exact ih
    ·rw[if_neg h2,if_pos (by rw[Bool.eq_false_iff.2 h2];rfl)];exact .leaf
   ·rw[if_neg h1,if_neg h1];exact ih
 have main:∀k,k≤t.length→Goes (T_ref1_thread p t) (.jmp (.l7 (k:Int) (labels (t.take k)))) (scanI p (fun seen=>endC t (jumpC seen t)) (labels (t.take k)) (t.drop k)):=by
  refine down ?_ fun k hk ih=>?_
  ·have hj:=jmps 0 (Nat.zero_le _)
   rw[List.drop_zero] at hj
   rw[goes_jmp,List.drop_length,List.take_length]
   unfold scanI
   simp only[T_ref1_thread,goes_br,lt_len_not (Nat.lt_irrefl _)]
   rw[if_neg (by decide)]
   by_cases h0:t.length=0
   ·have:t=[]:=List.eq_nil_of_length_eq_zero h0
    rw[this];simp[goes_leaf,endC]
   ·have hp:0 < t.length:=by omega
    rw[if_neg (by simp;exact fun e=>h0 (by rw[e];rfl)),endC_eq hp]
    rw[show Int.ofNat t.length=(t.length:Int) from rfl,wrap_pred (k:=t.length) (by omega) hp]
    have hb:(decide (0≤((t.length - 1:Nat):Int))&&decide (((t.length - 1:Nat):Int) < (t.length:Int)))=true:=by simp;omega
    simp only[hb,if_true,Int.toNat_natCast,getD_lt (show t.length - 1 < t.length by omega)]
    unfold bne
    cases h10:(t[t.length - 1].1==(10:Int)) with
    | true=>simpa using hj
    | false=>
     cases h14:(t[t.length - 1].1==(14:Int)) with
     | true=>simpa using hj
     | false=>simp[goes_leaf]
  ·have hmem:t[k]∈t:=List.getElem_mem hk
   have hto:=hS.to _ hmem
   have hlab:=hS.lab _ hmem
   have hlen:=Nat.lt_of_le_of_lt (labels_mem hmem) hS.labs
   have htk:labels (t.take (k+1))=labels (t.take k)++t[k].2.2.2.2.2.2:=by
    unfold labels
    rw[List.take_add_one,List.getElem?_eq_getElem hk,List.flatMap_append]
    simp
   have hall:labels t=labels (t.take (k+1))++labels (t.drop (k+1)):=by
    unfold labels
    rw[←List.flatMap_append,List.take_append_drop]
   have hlt:(labels (t.take (k+1))).length < 1099511627776:=by
    have:=hS.labs
    rw[hall,List.length_append] at this
    omega
   rw[goes_jmp]
   simp only[T_ref1_thread,goes_br,lt_len hk,nng,Bool.and_self,if_true,Int.toNat_natCast,getD_lt hk]
   rw[drop_cons hk]
   unfold scanI
   rw[htk] at ih hlt
   generalize t[k]=i at hto hlab hlen htk ih hlt
   obtain ⟨op,lock,cond,⟨ak,ar,ay,an⟩,⟨bk,br,bz,bn⟩,to,ls⟩:=i
   dsimp only at hto hlab hlen htk ih hlt ⊢
   have inner:∀j,j≤ls.length→Goes (T_ref1_thread p t) (.jmp (.l14 op lock cond ak ar ay an bk br bz bn to ls (j:Int) (labels (t.take k)++ls.take j) (k:Int))) (scanL (labels (t.take k)++ls.take j) (fun seen=>if insC p (op,(lock,(cond,((ak,(ar,(ay,an))),((bk,(br,(bz,bn))),(to,ls))))))≠0 then insC p (op,(lock,(cond,((ak,(ar,(ay,an))),((bk,(br,(bz,bn))),(to,ls)))))) else scanI p (fun seen=>endC t (jumpC seen t)) seen (t.drop (k+1))) (ls.drop j)):=by
    refine down ?_ fun j hj ihj=>?_
    ·rw[goes_jmp,List.drop_length,List.take_length]
     unfold scanL
     have hkr:k_ref1_InsRight (op,(lock,(cond,((ak,(ar,(ay,an))),((bk,(br,(bz,bn))),(to,ls))))))=true:=hto
     simp only[T_ref1_thread,goes_br,lt_len_not (Nat.lt_irrefl _),hkr,if_true,wrap_succ (k:=k) (by omega)]
     rw[if_neg (by decide)]
     unfold insC v_ref1_InsRight
     dsimp only
     by_cases hr:v_ins_Right (op,(lock,(cond,((ak,(ar,(ay,an))),((bk,(br,(bz,bn))),(to,ls))))))=0
     ·obtain ⟨oa,ob⟩:=opds_ok hr
      obtain ⟨a1,a2⟩:=operand_eq p (ak,(ar,(ay,an))) oa
      obtain ⟨b1,b2⟩:=operand_eq p (bk,(br,(bz,bn))) ob
      by_cases ha:placeC p (ak,(ar,(ay,an)))=0
      ·by_cases hb:placeC p (bk,(br,(bz,bn)))=0
       ·simp[hr,ha,hb,a1,a2,b1,b2];exact ih
       ·simp[hr,ha,hb,a1,a2,b1,b2,goes_leaf]
      ·simp[hr,ha,a1,a2,goes_leaf]
     ·simp[hr,goes_leaf]
    ·have hl:=hlab ls[j] (List.getElem_mem hj)
     have hkn:k_ref1_Right ls[j]=true:=hl
     have hsl:(labels (t.take k)++ls.take j).length < 1099511627776:=by
      rw[List.length_append] at hlt ⊢
      rw[List.length_take]
      omega
     have hki:k_ref1_index (labels (t.take k)++ls.take j) ls[j]=true:=decide_eq_true (by omega)
     have hap:Nat.ble (((labels (t.take k)++ls.take j).length+1)*16) limit=true:=by apply Nat.ble_eq_true_of_le;unfold limit;omega
     have htj:labels (t.take k)++ls.take (j+1)=(labels (t.take k)++ls.take j)++[ls[j]]:=by
      rw[List.take_add_one,List.getElem?_eq_getElem hj,List.append_assoc];rfl
     rw[htj] at ihj
     rw[goes_jmp]
     simp only[T_ref1_thread,goes_br,lt_len hj,nng,Bool.and_self,if_true,Int.toNat_natCast,getD_lt hj,wrap_succ (k:=j) (by omega),hkn,hki,hap,index_contains]
     rw[drop_cons hj]
     unfold scanL
     by_cases h1:nameRight ls[j]=false
     ·rw[if_pos h1,if_pos (by show (! nameRight ls[j])=true;rw[h1];rfl)];exact .leaf
     ·rw[if_neg h1,if_neg (by show ¬(! nameRight ls[j])=true;simpa using h1)]
      by_cases h2:(labels (t.take k)++ls.take j).contains ls[j]=true
      ·rw[if_pos h2,if_pos h2];exact .leaf
      ·rw[if_neg h2,if_neg h2];exact ihj
   have:=inner 0 (Nat.zero_le _)
   rw[List.drop_zero,List.take_zero,List.append_nil] at this
   exact this
 unfold T0_ref1_thread v_ref1_thread
 have hkc:k_ref1_Count t=true:=decide_eq_true hn
 simp only[goes_br,hkc,if_true]
 unfold threadC v_ref1_Count
 by_cases h:4096 < countM t
 ·rw[if_pos (by simp;omega),if_pos h];exact .leaf
 ·rw[if_neg (by simp;omega),if_neg h]
  exact main 0 (Nat.zero_le _)
end Go.Ev
end

section
open Go Go.Ev
namespace Go.Ev
noncomputable section
noncomputable def e_ref1_thread:Run:=entG sg_ref1_thread R_ref1_thread (fun a=>k_ref1_thread a.1 a.2.1) (fun a=>v_ref1_thread a.1 a.2.1)
theorem ok_ref1_thread:EntOK Go.Proofs.Tryz.prog 69 e_ref1_thread:=entG_ok (tb:=tb_ref1_thread) (c:=c_ref1_thread) tk_ref1_thread (by kernel_rfl) (by kernel_rfl) (by kernel_rfl) (fun a=>by kernel_rfl) fun ⟨p,t,_⟩ hk=>evF_goes (c:=c_ref1_thread) (K:=fun v=>(R_ref1_thread v,tps (toForms sg_ref1_thread (p,t,())))) (S:=S_ref1_thread p t) (by kernel_rfl) (en_ref1_thread p t) (lp_ref1_thread p t) (g_ref1_thread p t hk)
end
end Go.Ev
end

section
open Go Go.Ev
namespace Go.Ev
noncomputable section
def sg_ref1_Check:Sig:=[(true,T_api_Prog)]
noncomputable def t_ref1_Check:Tbl:=[(68,e_ref1_Right),(69,e_ref1_thread)]
theorem tk_ref1_Check:∀p∈t_ref1_Check,EntOK Go.Proofs.Tryz.prog p.1 p.2:=tbl_cons ok_ref1_Right (tbl_cons ok_ref1_thread (tbl_nil))
noncomputable def c_ref1_Check:Code:=Go.Proofs.Tryz.f39.body.getD .skip
def tb_ref1_Check:Tb:=[(6,⟨[1,3],[]⟩),(16,⟨[1,3,4,5],[]⟩),(26,⟨[1,6],[]⟩)]
inductive J_ref1_Check where | l6 (i:Int) | l16 (x:ByteArray) (x1:Int) (x2:List Int) (i:Int) (k:Int) | l26 (i:Int)
def T_ref1_Check (p:El T_api_Prog):J_ref1_Check→JT J_ref1_Check (Int) |.l6 i=>.br (decide (i < (Int.ofNat (List.length p.1)))) (.br ((decide ((0:Int)≤i))&&(decide (i < (Int.ofNat (List.length p.1))))) (.br (k_ref1_Right (List.getD p.1 (Int.toNat i) (dflt T_api_Sym)).1) (.br (! (v_ref1_Right (List.getD p.1 (Int.toNat i) (dflt T_api_Sym)).1)) (.leaf (3:Int)) (.jmp (.l16 (List.getD p.1 (Int.toNat i) (dflt T_api_Sym)).1 (List.getD p.1 (Int.toNat i) (dflt T_api_Sym)).2.1 (List.getD p.1 (Int.toNat i) (dflt T_api_Sym)).2.2 i (0:Int)))) (.no)) (.no)) (.jmp (.l26 (0:Int))) |.l16 x x1 x2 i k=>.br (decide (k < i)) (.br ((decide ((0:Int)≤k))&&(decide (k < (Int.ofNat (List.length p.1))))) (.br (eqB (List.getD p.1 (Int.toNat k) (dflt T_api_Sym)).1 x) (.leaf (6:Int)) (.jmp (.l16 x x1 x2 i (IntKind.i64.wrap (k+(1:Int)))))) (.no)) (.br (decide (x1 < (1:Int))) (.leaf (5:Int)) (.br (decide (x1 > (64:Int))) (.leaf (5:Int)) (.br (decide ((Int.ofNat (List.length x2)) > x1)) (.leaf (5:Int)) (.jmp (.l6 (IntKind.i64.wrap (i+(1:Int)))))))) |.l26 i=>.br (decide (i < (Int.ofNat (List.length p.2)))) (.br ((decide ((0:Int)≤i))&&(decide (i < (Int.ofNat (List.length p.2))))) (.br (k_ref1_thread p (List.getD p.2 (Int.toNat i) (dflt (.sl T_api_Ins)))) (.br ((v_ref1_thread p (List.getD p.2 (Int.toNat i) (dflt (.sl T_api_Ins)))) !=(0:Int)) (.leaf (v_ref1_thread p (List.getD p.2 (Int.toNat i) (dflt (.sl T_api_Ins))))) (.jmp (.l26 (IntKind.i64.wrap (i+(1:Int)))))) (.no)) (.no)) (.leaf (0:Int))
def T0_ref1_Check (p:El T_api_Prog):JT J_ref1_Check (Int):=.br (decide ((Int.ofNat (List.length p.1)) > (64:Int))) (.leaf (10:Int)) (.br (decide ((Int.ofNat (List.length p.2)) > (64:Int))) (.leaf (10:Int)) (.jmp (.l6 (0:Int))))
def R_ref1_Check:Int→AV:=fun (r:Int)=>.d (.int .i64) r
def S_ref1_Check (p:El T_api_Prog):J_ref1_Check→Nat×St |.l6 i=>(6,⟨mkTm 81 [(1,.pt 2 0 0),(3,.d (.int .i64) i)],[(2,0,.box 26 [.d (.sl T_api_Sym) p.1,.d (.sl (.sl T_api_Ins)) p.2] none)]⟩) |.l16 x x1 x2 i k=>(16,⟨mkTm 81 [(1,.pt 2 0 0),(3,.d (.int .i64) i),(4,.pt 5 0 0),(5,.d (.int .i64) k)],[(2,0,.box 26 [.d (.sl T_api_Sym) p.1,.d (.sl (.sl T_api_Ins)) p.2] none),(5,0,.box 67 [.d .str x,.d (.int .i64) x1,.d (.sl (.int .i64)) x2] none)]⟩) |.l26 i=>(26,⟨mkTm 81 [(1,.pt 2 0 0),(6,.d (.int .i64) i)],[(2,0,.box 26 [.d (.sl T_api_Sym) p.1,.d (.sl (.sl T_api_Ins)) p.2] none)]⟩)
theorem en_ref1_Check (p:El T_api_Prog) (L:Lt):entryA Go.Proofs.Tryz.prog (clOf t_ref1_Check) tb_ref1_Check Go.Proofs.Tryz.f39 c_ref1_Check L (toForms sg_ref1_Check (p,()))=(T0_ref1_Check p).run (fun v=>some (R_ref1_Check v,tps (toForms sg_ref1_Check (p,())))) fun j=>L (S_ref1_Check p j).1 (S_ref1_Check p j).2:=by kernel_rfl
theorem lp_ref1_Check (p:El T_api_Prog):∀(L:Lt) (j:J_ref1_Check),procOf (procsF Go.Proofs.Tryz.prog (clOf t_ref1_Check) tb_ref1_Check Go.Proofs.Tryz.f39 c_ref1_Check (toForms sg_ref1_Check (p,()))) (S_ref1_Check p j).1 L (S_ref1_Check p j).2=(T_ref1_Check p j).run (fun v=>some (R_ref1_Check v,tps (toForms sg_ref1_Check (p,())))) fun j=>L (S_ref1_Check p j).1 (S_ref1_Check p j).2 | L,.l6 i=>by kernel_rfl | L,.l16 x x1 x2 i k=>by kernel_rfl | L,.l26 i=>by kernel_rfl
end
end Go.Ev
end

section
open Go
namespace Go.Ev
def v_ref1_Check (p:El T_api_Prog):Int:=checkC p
def k_ref1_Check (p:El T_api_Prog):Bool:=smallProg p
theorem g_ref1_Check (p:El T_api_Prog) (hk:k_ref1_Check p=true):Goes (T_ref1_Check p) (T0_ref1_Check p) (v_ref1_Check p):=by
 have hth:∀t∈p.2,smallThread t=true:=by
  unfold k_ref1_Check smallProg at hk
  simp only[Bool.and_eq_true,List.all_eq_true] at hk
  exact hk.2
 have hsy:∀s∈p.1,smallText s.1=true:=by
  unfold k_ref1_Check smallProg at hk
  simp only[Bool.and_eq_true,List.all_eq_true] at hk
  exact hk.1
 obtain ⟨sy,th⟩:=p
 dsimp only at hth hsy
 have ths:th.length≤64→∀k,k≤th.length→Goes (T_ref1_Check (sy,th)) (.jmp (.l26 (k:Int))) (thsC (sy,th) (th.drop k)):=by
  intro hn
  refine down ?_ fun k hk ih=>?_
  ·rw[goes_jmp]
   simp only[T_ref1_Check,goes_br,lt_len_not (Nat.lt_irrefl _),goes_leaf,List.drop_length]
   simp[thsC]
  ·have hkt:k_ref1_thread (sy,th) th[k]=true:=hth _ (List.getElem_mem hk)
   rw[goes_jmp]
   simp only[T_ref1_Check,goes_br,lt_len hk,nng,Bool.and_self,if_true,Int.toNat_natCast,getD_lt hk,wrap_succ (k:=k) (by omega),hkt]
   rw[drop_cons hk]
   unfold thsC
   show (if (threadC (sy,th) th[k] !=0)=true then _ else _)
   by_cases h:threadC (sy,th) th[k]=0
   ·rw[if_neg (by simp[h]),if_neg (by simp[h])];exact ih
   ·rw[if_pos (by simp[h]),if_pos h];exact .leaf
 have main:sy.length≤64→th.length≤64→∀k,k≤sy.length→Goes (T_ref1_Check (sy,th)) (.jmp (.l6 (k:Int))) (symsC (thsC (sy,th) th) ((sy.take k).map fun s=>s.1) (sy.drop k)):=by
  intro hn hm
  refine down ?_ fun k hk ih=>?_
  ·rw[goes_jmp,List.drop_length]
   unfold symsC
   simp only[T_ref1_Check,goes_br,lt_len_not (Nat.lt_irrefl _)]
   rw[if_neg (by decide)]
   simpa using ths hm 0 (Nat.zero_le _)
  ·have hkn:k_ref1_Right sy[k].1=true:=hsy _ (List.getElem_mem hk)
   have htk:(sy.take (k+1)).map (fun s=>s.1)=(sy.take k).map (fun s=>s.1)++[sy[k].1]:=by
    rw[List.take_add_one,List.getElem?_eq_getElem hk,List.map_append];rfl
   rw[htk] at ih
   rw[goes_jmp]
   simp only[T_ref1_Check,goes_br,lt_len hk,nng,Bool.and_self,if_true,Int.toNat_natCast,getD_lt hk,hkn]
   rw[drop_cons hk]
   unfold symsC
   generalize sy[k]=s at ih hkn
   obtain ⟨nm,size,init⟩:=s
   dsimp only at ih hkn ⊢
   change Int at size
   by_cases h1:nameRight nm=false
   ·rw[if_pos h1,if_pos (by show (! nameRight nm)=true;rw[h1];rfl)];exact .leaf
   rw[if_neg h1,if_neg (by show ¬(! nameRight nm)=true;simpa using h1)]
   have inner:∀j,j≤k→Goes (T_ref1_Check (sy,th)) (.jmp (.l16 nm size init (k:Int) (j:Int))) (if (((sy.take k).drop j).map (fun s=>s.1)).contains nm=true then 6 else if size < (1:Int)∨(64:Int) < size∨size < (List.length init:Int) then 5 else symsC (thsC (sy,th) th) ((sy.take k).map (fun s=>s.1)++[nm]) (sy.drop (k+1))):=by
    refine down ?_ fun j hj ihj=>?_
    ·rw[goes_jmp]
     have:(sy.take k).drop k=[]:=List.drop_eq_nil_of_le (by rw[List.length_take];omega)
     rw[this]
     simp only[T_ref1_Check,goes_br,wrap_succ (k:=k) (by omega)]
     rw[if_neg (by simp)]
     simp only[List.map_nil,List.contains_nil,Bool.false_eq_true,if_false]
     by_cases h3:size < 1
     ·rw[if_pos (decide_eq_true h3),if_pos (.inl h3)];exact .leaf
     rw[if_neg (by simpa using h3)]
     by_cases h4:64 < size
     ·rw[if_pos (decide_eq_true h4),if_pos (.inr (.inl h4))];exact .leaf
     rw[if_neg (by simpa using h4)]
     by_cases h5:size < (List.length init:Int)
     ·rw[if_pos (show decide (Int.ofNat (List.length init) > size)=true from decide_eq_true h5),if_pos (.inr (.inr h5))];exact .leaf
     rw[if_neg (show ¬decide (Int.ofNat (List.length init) > size)=true by simpa using h5),if_neg (by rintro (h | h | h) <;> contradiction)]
     exact ih
    ·have hjs:j < sy.length:=by omega
     have hjt:j < (sy.take k).length:=by rw[List.length_take];omega
     rw[goes_jmp,drop_cons hjt,List.map_cons,List.contains_cons,List.getElem_take]
     simp only[T_ref1_Check,goes_br,lt_len hjs,nng,Bool.and_self,if_true,Int.toNat_natCast,getD_lt hjs,wrap_succ (k:=j) (by omega),eqB_iff]
     rw[if_pos (by simp;omega)]
     by_cases h2:sy[j].1=nm
     ·rw[if_pos h2,if_pos (by rw[h2];simp)];exact .leaf
     ·rw[if_neg h2,beq_false_of_ne (Ne.symm h2),Bool.false_or];exact ihj
   simpa using inner 0 (Nat.zero_le _)
 unfold T0_ref1_Check v_ref1_Check checkC
 simp only[goes_br]
 by_cases h:64 < sy.length
 ·rw[if_pos (by simp;omega),if_pos (.inl h)];exact .leaf
 rw[if_neg (by simp;omega)]
 by_cases h2:64 < th.length
 ·rw[if_pos (by simp;omega),if_pos (.inr h2)];exact .leaf
 rw[if_neg (by simp;omega),if_neg (by rintro (h | h) <;> contradiction)]
 exact main (by omega) (by omega) 0 (Nat.zero_le _)
end Go.Ev
end

section
open Go Go.Ev
namespace Go.Ev
noncomputable section
noncomputable def e_ref1_Check:Run:=entG sg_ref1_Check R_ref1_Check (fun a=>k_ref1_Check a.1) (fun a=>v_ref1_Check a.1)
theorem ok_ref1_Check:EntOK Go.Proofs.Tryz.prog 39 e_ref1_Check:=entG_ok (tb:=tb_ref1_Check) (c:=c_ref1_Check) tk_ref1_Check (by kernel_rfl) (by kernel_rfl) (by kernel_rfl) (fun a=>by kernel_rfl) fun ⟨p,_⟩ hk=>evF_goes (c:=c_ref1_Check) (K:=fun v=>(R_ref1_Check v,tps (toForms sg_ref1_Check (p,())))) (S:=S_ref1_Check p) (by kernel_rfl) (en_ref1_Check p) (lp_ref1_Check p) (g_ref1_Check p hk)
end
end Go.Ev
end

section
open Go Go.Ev
namespace Go.Ev
noncomputable section
def sg_ref1_Reads:Sig:=[(true,T_api_Ins)]
noncomputable def t_ref1_Reads:Tbl:=[(57,e_ref1_InsRight),(58,e_ref1_Memory)]
theorem tk_ref1_Reads:∀p∈t_ref1_Reads,EntOK Go.Proofs.Tryz.prog p.1 p.2:=tbl_cons ok_ref1_InsRight (tbl_cons ok_ref1_Memory (tbl_nil))
noncomputable def c_ref1_Reads:Code:=Go.Proofs.Tryz.f40.body.getD .skip
def tb_ref1_Reads:Tb:=[]
def T_ref1_Reads (i:El T_api_Ins):Empty→JT Empty ((El T_api_Opd)×Bool):=fun j=>nomatch j
def T0_ref1_Reads (i:El T_api_Ins):JT Empty ((El T_api_Opd)×Bool):=.br (k_ref1_InsRight i) (.br ((v_ref1_InsRight i) !=(0:Int)) (.leaf (((0:Int),((0:Int),((0:Int),(0:Int)))),false)) (.br (decide (i.1 > (9:Int))) (.leaf (((0:Int),((0:Int),((0:Int),(0:Int)))),false)) (.br (v_ref1_Memory i.2.2.2.2.1) (.leaf (i.2.2.2.2.1,true)) (.br (v_ref1_Memory i.2.2.2.1) (.br (i.1 !=(1:Int)) (.leaf (i.2.2.2.1,true)) (.leaf (((0:Int),((0:Int),((0:Int),(0:Int)))),false))) (.leaf (((0:Int),((0:Int),((0:Int),(0:Int)))),false)))))) (.no)
def v_ref1_Reads (i:El T_api_Ins):(El T_api_Opd)×Bool:=bif (k_ref1_InsRight i) then bif ((v_ref1_InsRight i) !=(0:Int)) then (((0:Int),((0:Int),((0:Int),(0:Int)))),false) else bif (decide (i.1 > (9:Int))) then (((0:Int),((0:Int),((0:Int),(0:Int)))),false) else bif (v_ref1_Memory i.2.2.2.2.1) then (i.2.2.2.2.1,true) else bif (v_ref1_Memory i.2.2.2.1) then bif (i.1 !=(1:Int)) then (i.2.2.2.1,true) else (((0:Int),((0:Int),((0:Int),(0:Int)))),false) else (((0:Int),((0:Int),((0:Int),(0:Int)))),false) else (((0:Int),((0:Int),((0:Int),(0:Int)))),false)
def k_ref1_Reads (i:El T_api_Ins):Bool:=bif (k_ref1_InsRight i) then bif ((v_ref1_InsRight i) !=(0:Int)) then true else bif (decide (i.1 > (9:Int))) then true else bif (v_ref1_Memory i.2.2.2.2.1) then true else bif (v_ref1_Memory i.2.2.2.1) then bif (i.1 !=(1:Int)) then true else true else true else false
theorem g_ref1_Reads (i:El T_api_Ins) (hk:k_ref1_Reads i=true):Goes (T_ref1_Reads i) (T0_ref1_Reads i) (v_ref1_Reads i):=Goes.brk hk (fun hk=>Goes.brk hk (fun hk=>Goes.leaf) (fun hk=>Goes.brk hk (fun hk=>Goes.leaf) (fun hk=>Goes.brk hk (fun hk=>Goes.leaf) (fun hk=>Goes.brk hk (fun hk=>Goes.brk hk (fun hk=>Goes.leaf) (fun hk=>Goes.leaf)) (fun hk=>Goes.leaf))))) (fun hk=>Goes.nok hk)
def R_ref1_Reads:(El T_api_Opd)×Bool→AV:=fun (r:(El T_api_Opd)×Bool)=>.tu [.ag [.d (.int .i64) r.1.1,.d (.int .i64) r.1.2.1,.d (.int .i64) r.1.2.2.1,.d (.int .i64) r.1.2.2.2],.d .bool r.2]
def S_ref1_Reads (i:El T_api_Ins):Empty→Nat×St:=fun j=>nomatch j
theorem en_ref1_Reads (i:El T_api_Ins) (L:Lt):entryA Go.Proofs.Tryz.prog (clOf t_ref1_Reads) tb_ref1_Reads Go.Proofs.Tryz.f40 c_ref1_Reads L (toForms sg_ref1_Reads (i,()))=(T0_ref1_Reads i).run (fun v=>some (R_ref1_Reads v,tps (toForms sg_ref1_Reads (i,())))) fun j=>L (S_ref1_Reads i j).1 (S_ref1_Reads i j).2:=by kernel_rfl
theorem lp_ref1_Reads (i:El T_api_Ins):∀(L:Lt) (j:Empty),procOf (procsF Go.Proofs.Tryz.prog (clOf t_ref1_Reads) tb_ref1_Reads Go.Proofs.Tryz.f40 c_ref1_Reads (toForms sg_ref1_Reads (i,()))) (S_ref1_Reads i j).1 L (S_ref1_Reads i j).2=(T_ref1_Reads i j).run (fun v=>some (R_ref1_Reads v,tps (toForms sg_ref1_Reads (i,())))) fun j=>L (S_ref1_Reads i j).1 (S_ref1_Reads i j).2:=fun L j=>nomatch j
noncomputable def e_ref1_Reads:Run:=entG sg_ref1_Reads R_ref1_Reads (fun a=>k_ref1_Reads a.1) (fun a=>v_ref1_Reads a.1)
theorem ok_ref1_Reads:EntOK Go.Proofs.Tryz.prog 40 e_ref1_Reads:=entG_ok (tb:=tb_ref1_Reads) (c:=c_ref1_Reads) tk_ref1_Reads (by kernel_rfl) (by kernel_rfl) (by kernel_rfl) (fun a=>by kernel_rfl) fun ⟨i,_⟩ hk=>evF_goes (c:=c_ref1_Reads) (K:=fun v=>(R_ref1_Reads v,tps (toForms sg_ref1_Reads (i,())))) (S:=S_ref1_Reads i) (by kernel_rfl) (en_ref1_Reads i) (lp_ref1_Reads i) (g_ref1_Reads i hk)
end
end Go.Ev
end

section
open Go Go.Ev
namespace Go.Ev
noncomputable section
def sg_ref1_Writes:Sig:=[(true,T_api_Ins)]
noncomputable def t_ref1_Writes:Tbl:=[(57,e_ref1_InsRight),(58,e_ref1_Memory)]
theorem tk_ref1_Writes:∀p∈t_ref1_Writes,EntOK Go.Proofs.Tryz.prog p.1 p.2:=tbl_cons ok_ref1_InsRight (tbl_cons ok_ref1_Memory (tbl_nil))
noncomputable def c_ref1_Writes:Code:=Go.Proofs.Tryz.f32.body.getD .skip
def tb_ref1_Writes:Tb:=[]
def T_ref1_Writes (i:El T_api_Ins):Empty→JT Empty ((El T_api_Opd)×Bool):=fun j=>nomatch j
def T0_ref1_Writes (i:El T_api_Ins):JT Empty ((El T_api_Opd)×Bool):=.br (k_ref1_InsRight i) (.br ((v_ref1_InsRight i) !=(0:Int)) (.leaf (((0:Int),((0:Int),((0:Int),(0:Int)))),false)) (.br (decide (i.1 > (9:Int))) (.leaf (((0:Int),((0:Int),((0:Int),(0:Int)))),false)) (.br (i.1==(7:Int)) (.leaf (((0:Int),((0:Int),((0:Int),(0:Int)))),false)) (.br (! (v_ref1_Memory i.2.2.2.1)) (.leaf (((0:Int),((0:Int),((0:Int),(0:Int)))),false)) (.leaf (i.2.2.2.1,true)))))) (.no)
def v_ref1_Writes (i:El T_api_Ins):(El T_api_Opd)×Bool:=bif (k_ref1_InsRight i) then bif ((v_ref1_InsRight i) !=(0:Int)) then (((0:Int),((0:Int),((0:Int),(0:Int)))),false) else bif (decide (i.1 > (9:Int))) then (((0:Int),((0:Int),((0:Int),(0:Int)))),false) else bif (i.1==(7:Int)) then (((0:Int),((0:Int),((0:Int),(0:Int)))),false) else bif (! (v_ref1_Memory i.2.2.2.1)) then (((0:Int),((0:Int),((0:Int),(0:Int)))),false) else (i.2.2.2.1,true) else (((0:Int),((0:Int),((0:Int),(0:Int)))),false)
def k_ref1_Writes (i:El T_api_Ins):Bool:=bif (k_ref1_InsRight i) then bif ((v_ref1_InsRight i) !=(0:Int)) then true else bif (decide (i.1 > (9:Int))) then true else bif (i.1==(7:Int)) then true else bif (! (v_ref1_Memory i.2.2.2.1)) then true else true else false
theorem g_ref1_Writes (i:El T_api_Ins) (hk:k_ref1_Writes i=true):Goes (T_ref1_Writes i) (T0_ref1_Writes i) (v_ref1_Writes i):=Goes.brk hk (fun hk=>Goes.brk hk (fun hk=>Goes.leaf) (fun hk=>Goes.brk hk (fun hk=>Goes.leaf) (fun hk=>Goes.brk hk (fun hk=>Goes.leaf) (fun hk=>Goes.brk hk (fun hk=>Goes.leaf) (fun hk=>Goes.leaf))))) (fun hk=>Goes.nok hk)
def R_ref1_Writes:(El T_api_Opd)×Bool→AV:=fun (r:(El T_api_Opd)×Bool)=>.tu [.ag [.d (.int .i64) r.1.1,.d (.int .i64) r.1.2.1,.d (.int .i64) r.1.2.2.1,.d (.int .i64) r.1.2.2.2],.d .bool r.2]
def S_ref1_Writes (i:El T_api_Ins):Empty→Nat×St:=fun j=>nomatch j
theorem en_ref1_Writes (i:El T_api_Ins) (L:Lt):entryA Go.Proofs.Tryz.prog (clOf t_ref1_Writes) tb_ref1_Writes Go.Proofs.Tryz.f32 c_ref1_Writes L (toForms sg_ref1_Writes (i,()))=(T0_ref1_Writes i).run (fun v=>some (R_ref1_Writes v,tps (toForms sg_ref1_Writes (i,())))) fun j=>L (S_ref1_Writes i j).1 (S_ref1_Writes i j).2:=by kernel_rfl
theorem lp_ref1_Writes (i:El T_api_Ins):∀(L:Lt) (j:Empty),procOf (procsF Go.Proofs.Tryz.prog (clOf t_ref1_Writes) tb_ref1_Writes Go.Proofs.Tryz.f32 c_ref1_Writes (toForms sg_ref1_Writes (i,()))) (S_ref1_Writes i j).1 L (S_ref1_Writes i j).2=(T_ref1_Writes i j).run (fun v=>some (R_ref1_Writes v,tps (toForms sg_ref1_Writes (i,())))) fun j=>L (S_ref1_Writes i j).1 (S_ref1_Writes i j).2:=fun L j=>nomatch j
noncomputable def e_ref1_Writes:Run:=entG sg_ref1_Writes R_ref1_Writes (fun a=>k_ref1_Writes a.1) (fun a=>v_ref1_Writes a.1)
theorem ok_ref1_Writes:EntOK Go.Proofs.Tryz.prog 32 e_ref1_Writes:=entG_ok (tb:=tb_ref1_Writes) (c:=c_ref1_Writes) tk_ref1_Writes (by kernel_rfl) (by kernel_rfl) (by kernel_rfl) (fun a=>by kernel_rfl) fun ⟨i,_⟩ hk=>evF_goes (c:=c_ref1_Writes) (K:=fun v=>(R_ref1_Writes v,tps (toForms sg_ref1_Writes (i,())))) (S:=S_ref1_Writes i) (by kernel_rfl) (en_ref1_Writes i) (lp_ref1_Writes i) (g_ref1_Writes i hk)
end
end Go.Ev
end

section
open Go Go.Ev
namespace Go.Ev
noncomputable section
def sg_ref1_Locked:Sig:=[(true,T_api_Ins)]
noncomputable def t_ref1_Locked:Tbl:=[(57,e_ref1_InsRight)]
theorem tk_ref1_Locked:∀p∈t_ref1_Locked,EntOK Go.Proofs.Tryz.prog p.1 p.2:=tbl_cons ok_ref1_InsRight (tbl_nil)
noncomputable def c_ref1_Locked:Code:=Go.Proofs.Tryz.f41.body.getD .skip
def tb_ref1_Locked:Tb:=[]
def T_ref1_Locked (i:El T_api_Ins):Empty→JT Empty (Bool):=fun j=>nomatch j
def T0_ref1_Locked (i:El T_api_Ins):JT Empty (Bool):=.br (k_ref1_InsRight i) (.br ((v_ref1_InsRight i)==(0:Int)) (.br (i.1==(8:Int)) (.leaf true) (.leaf i.2.1)) (.leaf false)) (.no)
def v_ref1_Locked (i:El T_api_Ins):Bool:=bif (k_ref1_InsRight i) then bif ((v_ref1_InsRight i)==(0:Int)) then bif (i.1==(8:Int)) then true else i.2.1 else false else false
def k_ref1_Locked (i:El T_api_Ins):Bool:=bif (k_ref1_InsRight i) then bif ((v_ref1_InsRight i)==(0:Int)) then bif (i.1==(8:Int)) then true else true else true else false
theorem g_ref1_Locked (i:El T_api_Ins) (hk:k_ref1_Locked i=true):Goes (T_ref1_Locked i) (T0_ref1_Locked i) (v_ref1_Locked i):=Goes.brk hk (fun hk=>Goes.brk hk (fun hk=>Goes.brk hk (fun hk=>Goes.leaf) (fun hk=>Goes.leaf)) (fun hk=>Goes.leaf)) (fun hk=>Goes.nok hk)
def R_ref1_Locked:Bool→AV:=fun (r:Bool)=>.d .bool r
def S_ref1_Locked (i:El T_api_Ins):Empty→Nat×St:=fun j=>nomatch j
theorem en_ref1_Locked (i:El T_api_Ins) (L:Lt):entryA Go.Proofs.Tryz.prog (clOf t_ref1_Locked) tb_ref1_Locked Go.Proofs.Tryz.f41 c_ref1_Locked L (toForms sg_ref1_Locked (i,()))=(T0_ref1_Locked i).run (fun v=>some (R_ref1_Locked v,tps (toForms sg_ref1_Locked (i,())))) fun j=>L (S_ref1_Locked i j).1 (S_ref1_Locked i j).2:=by kernel_rfl
theorem lp_ref1_Locked (i:El T_api_Ins):∀(L:Lt) (j:Empty),procOf (procsF Go.Proofs.Tryz.prog (clOf t_ref1_Locked) tb_ref1_Locked Go.Proofs.Tryz.f41 c_ref1_Locked (toForms sg_ref1_Locked (i,()))) (S_ref1_Locked i j).1 L (S_ref1_Locked i j).2=(T_ref1_Locked i j).run (fun v=>some (R_ref1_Locked v,tps (toForms sg_ref1_Locked (i,())))) fun j=>L (S_ref1_Locked i j).1 (S_ref1_Locked i j).2:=fun L j=>nomatch j
noncomputable def e_ref1_Locked:Run:=entG sg_ref1_Locked R_ref1_Locked (fun a=>k_ref1_Locked a.1) (fun a=>v_ref1_Locked a.1)
theorem ok_ref1_Locked:EntOK Go.Proofs.Tryz.prog 41 e_ref1_Locked:=entG_ok (tb:=tb_ref1_Locked) (c:=c_ref1_Locked) tk_ref1_Locked (by kernel_rfl) (by kernel_rfl) (by kernel_rfl) (fun a=>by kernel_rfl) fun ⟨i,_⟩ hk=>evF_goes (c:=c_ref1_Locked) (K:=fun v=>(R_ref1_Locked v,tps (toForms sg_ref1_Locked (i,())))) (S:=S_ref1_Locked i) (by kernel_rfl) (en_ref1_Locked i) (lp_ref1_Locked i) (g_ref1_Locked i hk)
end
end Go.Ev
end

section
open Go Go.Ev
namespace Go.Ev
noncomputable section
def sg_ref3_Accesses:Sig:=[(true,T_api_Prog)]
noncomputable def t_ref3_Accesses:Tbl:=[(39,e_ref1_Check),(40,e_ref1_Reads),(32,e_ref1_Writes),(41,e_ref1_Locked)]
theorem tk_ref3_Accesses:∀p∈t_ref3_Accesses,EntOK Go.Proofs.Tryz.prog p.1 p.2:=tbl_cons ok_ref1_Check (tbl_cons ok_ref1_Reads (tbl_cons ok_ref1_Writes (tbl_cons ok_ref1_Locked (tbl_nil))))
noncomputable def c_ref3_Accesses:Code:=Go.Proofs.Tryz.f17.body.getD .skip
def tb_ref3_Accesses:Tb:=[(7,⟨[1,3,4],[(4,68)]⟩),(12,⟨[1,3,4,5],[(4,68)]⟩),(hintK,⟨[],[(1,68)]⟩)]
inductive J_ref3_Accesses where | l7 (t:Int) (out:List (El T_api_Access)) | l12 (i:Int) (out:List (El T_api_Access)) (t:Int)
def T_ref3_Accesses (p:El T_api_Prog):J_ref3_Accesses→JT J_ref3_Accesses (List (El T_api_Access)) |.l7 t out=>.br (decide (t < (Int.ofNat (List.length p.2)))) (.jmp (.l12 (0:Int) out t)) (.leaf out) |.l12 i out t=>.br ((decide ((0:Int)≤t))&&(decide (t < (Int.ofNat (List.length p.2))))) (.br (decide (i < (Int.ofNat (List.length (List.getD p.2 (Int.toNat t) (dflt (.sl T_api_Ins))))))) (.br ((decide ((0:Int)≤t))&&(decide (t < (Int.ofNat (List.length p.2))))) (.br ((decide ((0:Int)≤i))&&(decide (i < (Int.ofNat (List.length (List.getD p.2 (Int.toNat t) (dflt (.sl T_api_Ins)))))))) (.br (k_ref1_Reads (List.getD (List.getD p.2 (Int.toNat t) (dflt (.sl T_api_Ins))) (Int.toNat i) (dflt T_api_Ins))) (.br (k_ref1_Writes (List.getD (List.getD p.2 (Int.toNat t) (dflt (.sl T_api_Ins))) (Int.toNat i) (dflt T_api_Ins))) (.br (v_ref1_Reads (List.getD (List.getD p.2 (Int.toNat t) (dflt (.sl T_api_Ins))) (Int.toNat i) (dflt T_api_Ins))).2 (.br (k_ref1_Locked (List.getD (List.getD p.2 (Int.toNat t) (dflt (.sl T_api_Ins))) (Int.toNat i) (dflt T_api_Ins))) (.br (Nat.ble (((List.length out)+1)*40) limit) (.br (v_ref1_Writes (List.getD (List.getD p.2 (Int.toNat t) (dflt (.sl T_api_Ins))) (Int.toNat i) (dflt T_api_Ins))).2 (.br (k_ref1_Locked (List.getD (List.getD p.2 (Int.toNat t) (dflt (.sl T_api_Ins))) (Int.toNat i) (dflt T_api_Ins))) (.br (Nat.ble (((List.length (out++[(t,(i,((0:Int),((v_ref1_Reads (List.getD (List.getD p.2 (Int.toNat t) (dflt (.sl T_api_Ins))) (Int.toNat i) (dflt T_api_Ins))).1.2.2.1,(false,(v_ref1_Locked (List.getD (List.getD p.2 (Int.toNat t) (dflt (.sl T_api_Ins))) (Int.toNat i) (dflt T_api_Ins))))))))]))+1)*40) limit) (.jmp (.l12 (IntKind.i64.wrap (i+(1:Int))) ((out++[(t,(i,((0:Int),((v_ref1_Reads (List.getD (List.getD p.2 (Int.toNat t) (dflt (.sl T_api_Ins))) (Int.toNat i) (dflt T_api_Ins))).1.2.2.1,(false,(v_ref1_Locked (List.getD (List.getD p.2 (Int.toNat t) (dflt (.sl T_api_Ins))) (Int.toNat i) (dflt T_api_Ins))))))))])++[(t,(i,((1:Int),((v_ref1_Writes (List.getD (List.getD p.2 (Int.toNat t) (dflt (.sl T_api_Ins))) (Int.toNat i) (dflt T_api_Ins))).1.2.2.1,(true,(v_ref1_Locked (List.getD (List.getD p.2 (Int.toNat t) (dflt (.sl T_api_Ins))) (Int.toNat i) (dflt T_api_Ins))))))))]) t)) (.no)) (.no)) (.jmp (.l12 (IntKind.i64.wrap (i+(1:Int))) (out++[(t,(i,((0:Int),((v_ref1_Reads (List.getD (List.getD p.2 (Int.toNat t) (dflt (.sl T_api_Ins))) (Int.toNat i) (dflt T_api_Ins))).1.2.2.1,(false,(v_ref1_Locked (List.getD (List.getD p.2 (Int.toNat t) (dflt (.sl T_api_Ins))) (Int.toNat i) (dflt T_api_Ins))))))))]) t))) (.no)) (.no)) (.br (v_ref1_Writes (List.getD (List.getD p.2 (Int.toNat t) (dflt (.sl T_api_Ins))) (Int.toNat i) (dflt T_api_Ins))).2 (.br (k_ref1_Locked (List.getD (List.getD p.2 (Int.toNat t) (dflt (.sl T_api_Ins))) (Int.toNat i) (dflt T_api_Ins))) (.br (Nat.ble (((List.length out)+1)*40) limit) (.jmp (.l12 (IntKind.i64.wrap (i+(1:Int))) (out++[(t,(i,((0:Int),((v_ref1_Writes (List.getD (List.getD p.2 (Int.toNat t) (dflt (.sl T_api_Ins))) (Int.toNat i) (dflt T_api_Ins))).1.2.2.1,(true,(v_ref1_Locked (List.getD (List.getD p.2 (Int.toNat t) (dflt (.sl T_api_Ins))) (Int.toNat i) (dflt T_api_Ins))))))))]) t)) (.no)) (.no)) (.jmp (.l12 (IntKind.i64.wrap (i+(1:Int))) out t)))) (.no)) (.no)) (.no)) (.no)) (.jmp (.l7 (IntKind.i64.wrap (t+(1:Int))) out))) (.no)
def T0_ref3_Accesses (p:El T_api_Prog):JT J_ref3_Accesses (List (El T_api_Access)):=.br (k_ref1_Check p) (.br ((v_ref1_Check p) !=(0:Int)) (.leaf []) (.jmp (.l7 (0:Int) []))) (.no)
def R_ref3_Accesses:List (El T_api_Access)→AV:=fun (r:List (El T_api_Access))=>.rw 43 T_api_Access r
def S_ref3_Accesses (p:El T_api_Prog):J_ref3_Accesses→Nat×St |.l7 t out=>(7,⟨mkTm 76 [(1,.pt 2 0 0),(3,.own 4 0 none),(4,.d (.int .i64) t)],[(2,0,.box 26 [.d (.sl T_api_Sym) p.1,.d (.sl (.sl T_api_Ins)) p.2] none),(4,0,.row 43 T_api_Access out false)]⟩) |.l12 i out t=>(12,⟨mkTm 76 [(1,.pt 2 0 0),(3,.own 4 0 none),(4,.d (.int .i64) t),(5,.d (.int .i64) i)],[(2,0,.box 26 [.d (.sl T_api_Sym) p.1,.d (.sl (.sl T_api_Ins)) p.2] none),(4,0,.row 43 T_api_Access out false)]⟩)
theorem en_ref3_Accesses (p:El T_api_Prog) (L:Lt):entryA Go.Proofs.Tryz.prog (clOf t_ref3_Accesses) tb_ref3_Accesses Go.Proofs.Tryz.f17 c_ref3_Accesses L (toForms sg_ref3_Accesses (p,()))=(T0_ref3_Accesses p).run (fun v=>some (R_ref3_Accesses v,tps (toForms sg_ref3_Accesses (p,())))) fun j=>L (S_ref3_Accesses p j).1 (S_ref3_Accesses p j).2:=by kernel_rfl
theorem lp_ref3_Accesses (p:El T_api_Prog):∀(L:Lt) (j:J_ref3_Accesses),procOf (procsF Go.Proofs.Tryz.prog (clOf t_ref3_Accesses) tb_ref3_Accesses Go.Proofs.Tryz.f17 c_ref3_Accesses (toForms sg_ref3_Accesses (p,()))) (S_ref3_Accesses p j).1 L (S_ref3_Accesses p j).2=(T_ref3_Accesses p j).run (fun v=>some (R_ref3_Accesses v,tps (toForms sg_ref3_Accesses (p,())))) fun j=>L (S_ref3_Accesses p j).1 (S_ref3_Accesses p j).2 | L,.l7 t out=>by kernel_rfl | L,.l12 i out t=>by kernel_rfl
end
end Go.Ev
end

section
namespace Go.Ev
open Go
theorem k_refR {i:El T_api_Ins} (h:smallText i.2.2.2.2.2.1=true):k_ref1_Reads i=true∧k_ref1_Writes i=true∧k_ref1_Locked i=true:=by
 have h0:k_ref1_InsRight i=true:=h
 unfold k_ref1_Reads k_ref1_Writes k_ref1_Locked
 simp only[h0,cond_true,Bool.cond_self,and_self]
theorem reads_eq {i:El T_api_Ins} (h:smallText i.2.2.2.2.2.1=true):v_ref1_Reads i=v_ins_Reads i:=by
 have h0:k_ins_Right i=true:=h
 have h1:k_ref1_InsRight i=true:=h
 unfold v_ref1_Reads v_ins_Reads v_ref1_InsRight
 simp only[h0,h1,cond_true]
 by_cases hr:v_ins_Right i=0
 ·simp only[hr,bne_self_eq_false,cond_false]
  rcases nine i.1 with ⟨h9,e⟩ | ⟨h9,e⟩
  ·obtain ⟨a,b⟩:=mem_low hr h9
   rw[a,b,e,cond_false]
  ·obtain ⟨a,b⟩:=mem_high hr h9
   rw[a,b,e]
   simp only[cond_true,cond_false]
 ·have e:(v_ins_Right i !=0)=true:=by simp[hr]
  simp only[e,cond_true]
theorem writes_eq {i:El T_api_Ins} (h:smallText i.2.2.2.2.2.1=true):v_ref1_Writes i=v_ins_Writes i:=by
 have h0:k_ins_Right i=true:=h
 have h1:k_ref1_InsRight i=true:=h
 unfold v_ref1_Writes v_ins_Writes v_ref1_InsRight
 simp only[h0,h1,cond_true]
 by_cases hr:v_ins_Right i=0
 ·simp only[hr,bne_self_eq_false,cond_false]
  rcases nine i.1 with ⟨h9,e⟩ | ⟨h9,e⟩
  ·obtain ⟨a,b⟩:=mem_low hr h9
   rw[a,e,cond_false]
   cases v_ref1_Memory i.2.2.2.1 <;> simp only[Bool.not_true,Bool.not_false,cond_true,cond_false,Bool.cond_self]
  ·obtain ⟨a,b⟩:=mem_high hr h9
   rw[a,e]
   simp only[cond_true,Bool.not_false]
 ·have e:(v_ins_Right i !=0)=true:=by simp[hr]
  simp only[e,cond_true]
theorem locked_eq {i:El T_api_Ins} (h:smallText i.2.2.2.2.2.1=true):v_ref1_Locked i=v_ins_Locked i:=by
 have h0:k_ins_Right i=true:=h
 have h1:k_ref1_InsRight i=true:=h
 unfold v_ref1_Locked v_ins_Locked v_ref1_InsRight
 simp only[h0,h1]
end Go.Ev
end

section
open Go
namespace Go.Ev
def v_ref3_Accesses (p:El T_api_Prog):List (El T_api_Access):=ofC p
def k_ref3_Accesses (p:El T_api_Prog):Bool:=smallAll p
theorem g_ref3_Accesses (p:El T_api_Prog) (hk:k_ref3_Accesses p=true):Goes (T_ref3_Accesses p) (T0_ref3_Accesses p) (v_ref3_Accesses p):=by
 have hA:=smallA hk
 obtain ⟨sy,th⟩:=p
 have hkc:k_ref1_Check (sy,th)=true:=hA.prog
 have hlen:th.length < 1073741824:=hA.len
 have htot:total th < 1073741824:=hA.tot
 have main:∀k,k≤th.length→∀out:List (El T_api_Access),out.length+2*total (th.drop k) < 4294967296→Goes (T_ref3_Accesses (sy,th)) (.jmp (.l7 (k:Int) out)) (out++accP k (th.drop k)):=by
  refine down ?_ fun k hk ih=>?_
  ·intro out ho
   rw[goes_jmp]
   simp only[T_ref3_Accesses,goes_br,lt_len_not (Nat.lt_irrefl _),goes_leaf,List.drop_length]
   simp[accP]
  ·intro out ho
   rw[total_drop hk] at ho
   have hS:=smallT (hA.thr _ (List.getElem_mem hk))
   rw[goes_jmp]
   simp only[T_ref3_Accesses,goes_br,lt_len hk,if_true]
   rw[drop_cons hk]
   unfold accP
   obtain ⟨x,hx0⟩:∃x,th[k]=x:=⟨_,rfl⟩
   rw[hx0] at ho hS ⊢
   have inner:∀j,j≤List.length x→∀out:List (El T_api_Access),out.length+2*(List.length x - j)+2*total (th.drop (k+1)) < 4294967296→Goes (T_ref3_Accesses (sy,th)) (.jmp (.l12 (j:Int) out (k:Int))) (out++(accT k j (List.drop j x)++accP (k+1) (th.drop (k+1)))):=by
    refine down ?_ fun j hj ihj=>?_
    ·intro out ho
     rw[goes_jmp]
     simp only[T_ref3_Accesses,goes_br,lt_len hk,nng,Bool.and_self,if_true,Int.toNat_natCast,getD_lt hk,hx0,lt_len_not (Nat.lt_irrefl _),wrap_succ (k:=k) (by omega),List.drop_length]
     have:=ih out (by omega)
     simpa[accT] using this
    ·intro out ho
     have hto:=hS.to _ (List.getElem_mem hj)
     obtain ⟨a1,a2,a4⟩:=k_refR hto
     have hx:List.length x < 1099511627776:=hS.len
     rw[goes_jmp]
     have b1:Nat.ble ((out.length+1)*40) limit=true:=ble40 (by omega)
     have b2:∀y:El T_api_Access,Nat.ble (((out++[y]).length+1)*40) limit=true:=fun y=>ble40 (by rw[List.length_append];simp;omega)
     simp only[T_ref3_Accesses,goes_br,lt_len hk,getD_lt hk,hx0,lt_len hj,nng,Bool.and_self,if_true,Int.toNat_natCast,getD_lt hj,wrap_succ (k:=j) (by omega),a1,a2,a4,b1,b2,reads_eq hto,writes_eq hto,locked_eq hto]
     rw[drop_cons hj]
     unfold accT accI
     have hs:∀y:List (El T_api_Access),y.length≤2→Goes (T_ref3_Accesses (sy,th)) (.jmp (.l12 ((j+1:Nat):Int) (out++y) (k:Int))) (out++((y++accT k (j+1) (List.drop (j+1) x))++accP (k+1) (th.drop (k+1)))):=fun y hy=>by
      have:=ihj (out++y) (by rw[List.length_append];omega)
      rw[List.append_assoc] at this
      rw[List.append_assoc]
      exact this
     by_cases hr:(v_ins_Reads x[j]).2=true <;> by_cases hw:(v_ins_Writes x[j]).2=true
     ·simp only[hr,hw,if_true]
      rw[List.append_assoc out]
      exact hs _ (by simp)
     ·simp only[hr,hw,if_true,if_false]
      exact hs _ (by simp)
     ·simp only[hr,hw,if_true,if_false]
      exact hs _ (by simp)
     ·simp only[hr,hw,if_false]
      have:=hs [] (by simp)
      rw[List.append_nil] at this
      exact this
   exact inner 0 (Nat.zero_le _) out (by omega)
 unfold T0_ref3_Accesses v_ref3_Accesses ofC
 simp only[goes_br,hkc,if_true,v_ref1_Check]
 by_cases h:checkC (sy,th)=0
 ·rw[if_neg (by simp[h]),if_pos h]
  have:=main 0 (Nat.zero_le _) [] (by simp;omega)
  simpa using this
 ·rw[if_pos (by simp[h]),if_neg h]
  exact .leaf
end Go.Ev
end

section
open Go Go.Ev
namespace Go.Ev
noncomputable section
noncomputable def e_ref3_Accesses:Run:=entG sg_ref3_Accesses R_ref3_Accesses (fun a=>k_ref3_Accesses a.1) (fun a=>v_ref3_Accesses a.1)
theorem ok_ref3_Accesses:EntOK Go.Proofs.Tryz.prog 17 e_ref3_Accesses:=entG_ok (tb:=tb_ref3_Accesses) (c:=c_ref3_Accesses) tk_ref3_Accesses (by kernel_rfl) (by kernel_rfl) (by kernel_rfl) (fun a=>by kernel_rfl) fun ⟨p,_⟩ hk=>evF_goes (c:=c_ref3_Accesses) (K:=fun v=>(R_ref3_Accesses v,tps (toForms sg_ref3_Accesses (p,())))) (S:=S_ref3_Accesses p) (by kernel_rfl) (en_ref3_Accesses p) (lp_ref3_Accesses p) (g_ref3_Accesses p hk)
end
end Go.Ev
end

section
open Go Go.Ev
namespace Go.Ev
noncomputable section
def sg_ref1_Leads:Sig:=[(true,T_api_Ins)]
noncomputable def t_ref1_Leads:Tbl:=[(57,e_ref1_InsRight),(79,e_ref1_Jumps)]
theorem tk_ref1_Leads:∀p∈t_ref1_Leads,EntOK Go.Proofs.Tryz.prog p.1 p.2:=tbl_cons ok_ref1_InsRight (tbl_cons ok_ref1_Jumps (tbl_nil))
noncomputable def c_ref1_Leads:Code:=Go.Proofs.Tryz.f94.body.getD .skip
def tb_ref1_Leads:Tb:=[]
def T_ref1_Leads (i:El T_api_Ins):Empty→JT Empty (Bool×Bool):=fun j=>nomatch j
def T0_ref1_Leads (i:El T_api_Ins):JT Empty (Bool×Bool):=.br (k_ref1_InsRight i) (.br ((v_ref1_InsRight i) !=(0:Int)) (.leaf (false,false)) (.br (i.1 !=(10:Int)) (.leaf ((i.1 !=(14:Int)),(v_ref1_Jumps i.1))) (.leaf (false,(v_ref1_Jumps i.1))))) (.no)
def v_ref1_Leads (i:El T_api_Ins):Bool×Bool:=bif (k_ref1_InsRight i) then bif ((v_ref1_InsRight i) !=(0:Int)) then (false,false) else bif (i.1 !=(10:Int)) then ((i.1 !=(14:Int)),(v_ref1_Jumps i.1)) else (false,(v_ref1_Jumps i.1)) else (false,false)
def k_ref1_Leads (i:El T_api_Ins):Bool:=bif (k_ref1_InsRight i) then bif ((v_ref1_InsRight i) !=(0:Int)) then true else bif (i.1 !=(10:Int)) then true else true else false
theorem g_ref1_Leads (i:El T_api_Ins) (hk:k_ref1_Leads i=true):Goes (T_ref1_Leads i) (T0_ref1_Leads i) (v_ref1_Leads i):=Goes.brk hk (fun hk=>Goes.brk hk (fun hk=>Goes.leaf) (fun hk=>Goes.brk hk (fun hk=>Goes.leaf) (fun hk=>Goes.leaf))) (fun hk=>Goes.nok hk)
def R_ref1_Leads:Bool×Bool→AV:=fun (r:Bool×Bool)=>.tu [.d .bool r.1,.d .bool r.2]
def S_ref1_Leads (i:El T_api_Ins):Empty→Nat×St:=fun j=>nomatch j
theorem en_ref1_Leads (i:El T_api_Ins) (L:Lt):entryA Go.Proofs.Tryz.prog (clOf t_ref1_Leads) tb_ref1_Leads Go.Proofs.Tryz.f94 c_ref1_Leads L (toForms sg_ref1_Leads (i,()))=(T0_ref1_Leads i).run (fun v=>some (R_ref1_Leads v,tps (toForms sg_ref1_Leads (i,())))) fun j=>L (S_ref1_Leads i j).1 (S_ref1_Leads i j).2:=by kernel_rfl
theorem lp_ref1_Leads (i:El T_api_Ins):∀(L:Lt) (j:Empty),procOf (procsF Go.Proofs.Tryz.prog (clOf t_ref1_Leads) tb_ref1_Leads Go.Proofs.Tryz.f94 c_ref1_Leads (toForms sg_ref1_Leads (i,()))) (S_ref1_Leads i j).1 L (S_ref1_Leads i j).2=(T_ref1_Leads i j).run (fun v=>some (R_ref1_Leads v,tps (toForms sg_ref1_Leads (i,())))) fun j=>L (S_ref1_Leads i j).1 (S_ref1_Leads i j).2:=fun L j=>nomatch j
noncomputable def e_ref1_Leads:Run:=entG sg_ref1_Leads R_ref1_Leads (fun a=>k_ref1_Leads a.1) (fun a=>v_ref1_Leads a.1)
theorem ok_ref1_Leads:EntOK Go.Proofs.Tryz.prog 94 e_ref1_Leads:=entG_ok (tb:=tb_ref1_Leads) (c:=c_ref1_Leads) tk_ref1_Leads (by kernel_rfl) (by kernel_rfl) (by kernel_rfl) (fun a=>by kernel_rfl) fun ⟨i,_⟩ hk=>evF_goes (c:=c_ref1_Leads) (K:=fun v=>(R_ref1_Leads v,tps (toForms sg_ref1_Leads (i,())))) (S:=S_ref1_Leads i) (by kernel_rfl) (en_ref1_Leads i) (lp_ref1_Leads i) (g_ref1_Leads i hk)
end
end Go.Ev
end

section
open Go Go.Ev
namespace Go.Ev
noncomputable section
def sg_ref3_next:Sig:=[(true,(.sl T_api_Ins)),(false,(.int .i64))]
noncomputable def t_ref3_next:Tbl:=[(94,e_ref1_Leads),(91,e_ref1_Find)]
theorem tk_ref3_next:∀p∈t_ref3_next,EntOK Go.Proofs.Tryz.prog p.1 p.2:=tbl_cons ok_ref1_Leads (tbl_cons ok_ref1_Find (tbl_nil))
noncomputable def c_ref3_next:Code:=Go.Proofs.Tryz.f73.body.getD .skip
def tb_ref3_next:Tb:=[(6,⟨[1,2,5,7],[]⟩)]
inductive J_ref3_next where | l6 (jumps:Bool) (is:List Bool)
def T_ref3_next (t:List (El T_api_Ins)) (i:Int):J_ref3_next→JT J_ref3_next (List Bool) |.l6 jumps is=>.br jumps (.br ((decide ((0:Int)≤i))&&(decide (i < (Int.ofNat (List.length t))))) (.br (k_ref1_Find t (List.getD t (Int.toNat i) (dflt T_api_Ins)).2.2.2.2.2.1) (.br (decide ((v_ref1_Find t (List.getD t (Int.toNat i) (dflt T_api_Ins)).2.2.2.2.2.1)≥(0:Int))) (.br ((decide ((0:Int)≤(v_ref1_Find t (List.getD t (Int.toNat i) (dflt T_api_Ins)).2.2.2.2.2.1)))&&(decide ((v_ref1_Find t (List.getD t (Int.toNat i) (dflt T_api_Ins)).2.2.2.2.2.1) < (Int.ofNat (List.length is))))) (.leaf (List.set is (Int.toNat (v_ref1_Find t (List.getD t (Int.toNat i) (dflt T_api_Ins)).2.2.2.2.2.1)) true)) (.no)) (.leaf is)) (.no)) (.no)) (.leaf is)
def T0_ref3_next (t:List (El T_api_Ins)) (i:Int):JT J_ref3_next (List Bool):=.br ((((Int.ofNat (List.length t))==(Int.ofNat (List.length t)))&&(decide ((0:Int)≤(Int.ofNat (List.length t)))))&&(decide (((Int.ofNat (List.length t))*(1:Int))≤(limit:Int)))) (.br (decide (i < (0:Int))) (.leaf (List.replicate (List.length t) false)) (.br (decide (i≥(Int.ofNat (List.length t)))) (.leaf (List.replicate (List.length t) false)) (.br ((decide ((0:Int)≤i))&&(decide (i < (Int.ofNat (List.length t))))) (.br (k_ref1_Leads (List.getD t (Int.toNat i) (dflt T_api_Ins))) (.br (v_ref1_Leads (List.getD t (Int.toNat i) (dflt T_api_Ins))).1 (.br (decide ((IntKind.i64.wrap (i+(1:Int))) < (Int.ofNat (List.length t)))) (.br ((decide ((0:Int)≤(IntKind.i64.wrap (i+(1:Int)))))&&(decide ((IntKind.i64.wrap (i+(1:Int))) < (Int.ofNat (List.length (List.replicate (List.length t) false)))))) (.jmp (.l6 (v_ref1_Leads (List.getD t (Int.toNat i) (dflt T_api_Ins))).2 (List.set (List.replicate (List.length t) false) (Int.toNat (IntKind.i64.wrap (i+(1:Int)))) true))) (.no)) (.jmp (.l6 (v_ref1_Leads (List.getD t (Int.toNat i) (dflt T_api_Ins))).2 (List.replicate (List.length t) false)))) (.jmp (.l6 (v_ref1_Leads (List.getD t (Int.toNat i) (dflt T_api_Ins))).2 (List.replicate (List.length t) false)))) (.no)) (.no)))) (.no)
def R_ref3_next:List Bool→AV:=fun (r:List Bool)=>.rw 4 .bool r
def S_ref3_next (t:List (El T_api_Ins)) (i:Int):J_ref3_next→Nat×St |.l6 jumps is=>(6,⟨mkTm 60 [(1,.d (.int .i64) i),(2,.pt 3 0 0),(5,.own 6 0 none),(7,.d .bool jumps)],[(3,0,.box 48 [.d (.sl T_api_Ins) t] none),(6,0,.row 4 .bool is false)]⟩)
theorem en_ref3_next (t:List (El T_api_Ins)) (i:Int) (L:Lt):entryA Go.Proofs.Tryz.prog (clOf t_ref3_next) tb_ref3_next Go.Proofs.Tryz.f73 c_ref3_next L (toForms sg_ref3_next (t,i,()))=(T0_ref3_next t i).run (fun v=>some (R_ref3_next v,tps (toForms sg_ref3_next (t,i,())))) fun j=>L (S_ref3_next t i j).1 (S_ref3_next t i j).2:=by kernel_rfl
theorem lp_ref3_next (t:List (El T_api_Ins)) (i:Int):∀(L:Lt) (j:J_ref3_next),procOf (procsF Go.Proofs.Tryz.prog (clOf t_ref3_next) tb_ref3_next Go.Proofs.Tryz.f73 c_ref3_next (toForms sg_ref3_next (t,i,()))) (S_ref3_next t i j).1 L (S_ref3_next t i j).2=(T_ref3_next t i j).run (fun v=>some (R_ref3_next v,tps (toForms sg_ref3_next (t,i,())))) fun j=>L (S_ref3_next t i j).1 (S_ref3_next t i j).2 | L,.l6 jumps is=>by kernel_rfl
end
end Go.Ev
end

section
open Go
namespace Go.Ev
theorem k_refLeads' {i:El T_api_Ins} (h:smallText i.2.2.2.2.2.1=true):k_ref1_Leads i=true:=by
 have h1:k_ref1_InsRight i=true:=h
 unfold k_ref1_Leads
 simp only[h1,cond_true,Bool.cond_self]
theorem leads_eq' {i:El T_api_Ins} (h:smallText i.2.2.2.2.2.1=true):v_ref1_Leads i=v_ins_Leads i:=by
 have h0:k_ins_Right i=true:=h
 have h1:k_ref1_InsRight i=true:=h
 unfold v_ref1_Leads v_ins_Leads v_ref1_InsRight v_ref1_Jumps
 simp only[h0,h1,cond_true]
 cases h10:((show Int from i.1)==10) with
 | true=>simp only[cond_true,bne,h10,Bool.not_true,cond_false]
 | false=>simp only[cond_true,bne,h10,Bool.not_false,cond_false]
end Go.Ev
end

section
open Go
namespace Go.Ev
def rowOf (n:Nat) (M:Nat→Bool):List Bool:=(List.range n).map M
theorem rowOf_length {n:Nat} {M:Nat→Bool} :(rowOf n M).length=n:=by simp[rowOf]
theorem rowOf_get {n:Nat} {M:Nat→Bool} {i:Nat} (h:i < n):(rowOf n M)[i]? =some (M i):=by simp[rowOf,h]
theorem rowOf_set {n:Nat} {M:Nat→Bool} {i:Nat} :(rowOf n M).set i true=rowOf n fun j=>M j || (j==i):=by
 apply List.ext_getElem?
 intro j
 rw[List.getElem?_set,rowOf_length]
 by_cases hj:j < n
 ·rw[rowOf_get hj,rowOf_get hj]
  by_cases hi:i=j
  ·subst hi;rw[if_pos rfl,if_pos hj];simp
  ·rw[if_neg hi]
   have:(j==i)=false:=by simp;omega
   rw[this,Bool.or_false]
 ·rw[List.getElem?_eq_none (by rw[rowOf_length];omega),List.getElem?_eq_none (by rw[rowOf_length];omega)]
  by_cases hi:i=j
  ·rw[if_pos hi,if_neg (by omega)]
  ·rw[if_neg hi]
theorem rowOf_congr {n:Nat} {M M':Nat→Bool} (h:∀i,i < n→M i=M' i):rowOf n M=rowOf n M':=List.map_congr_left fun i hi=>h i (List.mem_range.1 hi)
theorem rowOf_none {n:Nat} :List.replicate n false=rowOf n fun _=>false:=by
 apply List.ext_getElem?
 intro j
 by_cases hj:j < n
 ·rw[rowOf_get hj];simp[hj]
 ·rw[List.getElem?_eq_none (by simp;omega),List.getElem?_eq_none (by rw[rowOf_length];omega)]
def v_ref3_next (t:List (El T_api_Ins)) (i:Int):List Bool:=rowOf t.length (nextB t i)
def k_ref3_next (t:List (El T_api_Ins)) (i:Int):Bool:=flowOK t
theorem g_ref3_next (t:List (El T_api_Ins)) (i:Int) (hk:k_ref3_next t i=true):Goes (T_ref3_next t i) (T0_ref3_next t i) (v_ref3_next t i):=by
 have hlen:=flowOK_len hk
 have hout:∀i,¬(0≤i∧i < (t.length:Int))→List.replicate t.length false=rowOf t.length (nextB t i):=fun i h=>by
  rw[rowOf_none]
  refine rowOf_congr fun j hj=>?_
  unfold nextB
  rw[decide_eq_false (fun hh=>h ⟨hh.1,hh.2.1⟩),Bool.false_and]
 unfold T0_ref3_next v_ref3_next
 rw[goes_br,if_pos (by unfold limit;simp;omega),goes_br]
 by_cases h0:i < 0
 ·rw[if_pos (decide_eq_true h0),←hout i (fun h=>by omega)];exact .leaf
 rw[if_neg (by simpa using h0),goes_br]
 obtain ⟨j,rfl⟩:=Int.eq_ofNat_of_zero_le (show 0≤i by omega)
 by_cases h1:(t.length:Int)≤(j:Int)
 ·rw[if_pos (decide_eq_true (show (j:Int)≥Int.ofNat t.length from h1)),←hout _ (fun h=>by omega)];exact .leaf
 have hj:j < t.length:=by omega
 rw[if_neg (by simp;omega),goes_br,if_pos (bound_len hj),goes_br,Int.toNat_natCast]
 have hmem:t.getD j (dflt T_api_Ins)∈t:=by rw[getD_lt hj];exact List.getElem_mem hj
 have hsm:=flowOK_text hk hmem
 rw[if_pos (k_refLeads' hsm),leads_eq' hsm]
 have kf:k_ref1_Find t (t.getD j (dflt T_api_Ins)).2.2.2.2.2.1=true:=flowOK_find hk
 have vf:v_ref1_Find t (t.getD j (dflt T_api_Ins)).2.2.2.2.2.1=findI (t.getD j (dflt T_api_Ins)).2.2.2.2.2.1 t 0:=rfl
 have hw:IntKind.i64.wrap ((j:Int)+1)=((j+1:Nat):Int):=wrap_succ (by omega)
 have hr:= @toOf_lt t j
 have l6:∀(M:Nat→Bool),Goes (T_ref3_next t (j:Int)) (.jmp (.l6 (v_ins_Leads (t.getD j (dflt T_api_Ins))).2 (rowOf t.length M))) (rowOf t.length fun k=>M k || decide (toOf t j=(k:Int))):=by
  intro M
  rw[goes_jmp,T_ref3_next,goes_br]
  by_cases hjmp:(v_ins_Leads (t.getD j (dflt T_api_Ins))).2=true
  ·have hto:toOf t j=findI (t.getD j (dflt T_api_Ins)).2.2.2.2.2.1 t 0:=by unfold toOf;rw[if_pos hjmp]
   rw[hto] at hr
   rw[if_pos hjmp,goes_br,if_pos (bound_len hj),goes_br,Int.toNat_natCast,if_pos kf,goes_br,vf,hto]
   generalize findI (t.getD j (dflt T_api_Ins)).2.2.2.2.2.1 t 0=to at hr
   by_cases h2:to≥0
   ·obtain ⟨k,rfl⟩:=Int.eq_ofNat_of_zero_le h2
    rw[if_pos (decide_eq_true h2),goes_br,if_pos (by rw[rowOf_length];exact bound_len (by omega)),Int.toNat_natCast,rowOf_set]
    rw[show (rowOf t.length fun l=>M l || decide ((k:Int)=(l:Int)))=rowOf t.length fun l=>M l || (l==k) from rowOf_congr fun l _=>by
     congr 1
     rw[Bool.eq_iff_iff];simp;omega]
    exact .leaf
   ·rw[if_neg (by simpa using h2)]
    rw[show (rowOf t.length fun l=>M l || decide (to=(l:Int)))=rowOf t.length M from rowOf_congr fun l _=>by
     rw[decide_eq_false (by omega),Bool.or_false]]
    exact .leaf
  ·have hto:toOf t j= -1:=by unfold toOf;rw[if_neg hjmp]
   rw[if_neg hjmp,hto]
   rw[show (rowOf t.length fun l=>M l || decide ((-1:Int)=(l:Int)))=rowOf t.length M from rowOf_congr fun l _=>by
     rw[decide_eq_false (by omega),Bool.or_false]]
   exact .leaf
 have hB:∀k,k < t.length→nextB t (j:Int) k=((onOf t j&&decide ((k:Int)=(j:Int)+1)) || decide (toOf t j=(k:Int))):=fun k hk=>by
  unfold nextB
  rw[decide_eq_true (by omega),Bool.true_and,Int.toNat_natCast]
 rw[rowOf_none,goes_br]
 by_cases hon:(v_ins_Leads (t.getD j (dflt T_api_Ins))).1=true
 ·have hon':onOf t j=true:=hon
  rw[if_pos hon,goes_br,hw]
  by_cases hin:j+1 < t.length
  ·rw[if_pos (lt_len hin),goes_br,rowOf_length,if_pos (bound_len hin),Int.toNat_natCast,rowOf_set]
   have:=l6 fun k=>false || (k==j+1)
   rw[show rowOf t.length (nextB t (j:Int))=rowOf t.length fun k=>(false || (k==j+1)) || decide (toOf t j=(k:Int)) from rowOf_congr fun k hk=>by
    rw[hB k hk,hon',Bool.true_and,Bool.false_or]
    congr 1
    rw[Bool.eq_iff_iff];simp;omega]
   exact this
  ·rw[if_neg (by rw[lt_len_not hin];decide)]
   have:=l6 fun _=>false
   rw[show rowOf t.length (nextB t (j:Int))=rowOf t.length fun k=>false || decide (toOf t j=(k:Int)) from rowOf_congr fun k hk=>by
    rw[hB k hk,hon',Bool.true_and,decide_eq_false (show ¬(k:Int)=(j:Int)+1 by omega)]]
   exact this
 ·have hon':onOf t j=false:=Bool.eq_false_iff.2 hon
  rw[if_neg hon]
  have:=l6 fun _=>false
  rw[show rowOf t.length (nextB t (j:Int))=rowOf t.length fun k=>false || decide (toOf t j=(k:Int)) from rowOf_congr fun k hk=>by
   rw[hB k hk,hon',Bool.false_and]]
  exact this
end Go.Ev
end

section
open Go Go.Ev
namespace Go.Ev
noncomputable section
noncomputable def e_ref3_next:Run:=entG sg_ref3_next R_ref3_next (fun a=>k_ref3_next a.1 a.2.1) (fun a=>v_ref3_next a.1 a.2.1)
theorem ok_ref3_next:EntOK Go.Proofs.Tryz.prog 73 e_ref3_next:=entG_ok (tb:=tb_ref3_next) (c:=c_ref3_next) tk_ref3_next (by kernel_rfl) (by kernel_rfl) (by kernel_rfl) (fun a=>by kernel_rfl) fun ⟨t,i,_⟩ hk=>evF_goes (c:=c_ref3_next) (K:=fun v=>(R_ref3_next v,tps (toForms sg_ref3_next (t,i,())))) (S:=S_ref3_next t i) (by kernel_rfl) (en_ref3_next t i) (lp_ref3_next t i) (g_ref3_next t i hk)
end
end Go.Ev
end

section
open Go Go.Ev
namespace Go.Ev
noncomputable section
def sg_ref3_from:Sig:=[(true,(.sl T_api_Ins)),(false,(.int .i64))]
noncomputable def t_ref3_from:Tbl:=[(73,e_ref3_next)]
theorem tk_ref3_from:∀p∈t_ref3_from,EntOK Go.Proofs.Tryz.prog p.1 p.2:=tbl_cons ok_ref3_next (tbl_nil)
noncomputable def c_ref3_from:Code:=Go.Proofs.Tryz.f49.body.getD .skip
def tb_ref3_from:Tb:=[(4,⟨[2,5,6],[]⟩),(9,⟨[2,5,6,7],[]⟩),(17,⟨[2,5,6,7,8,9],[]⟩)]
inductive J_ref3_from where | l4 (moved:Bool) (is:List Bool) | l9 (k:Int) (moved:Bool) (is:List Bool) | l17 (k:Int) (more:List Bool) (moved:Bool) (j_:Int) (is:List Bool)
def T_ref3_from (t:List (El T_api_Ins)) (i:Int):J_ref3_from→JT J_ref3_from (List Bool) |.l4 moved is=>.br moved (.jmp (.l9 (0:Int) false is)) (.leaf is) |.l9 k moved is=>.br (decide (k < (Int.ofNat (List.length is)))) (.br ((decide ((0:Int)≤k))&&(decide (k < (Int.ofNat (List.length is))))) (.br (! (List.getD is (Int.toNat k) (dflt .bool))) (.jmp (.l9 (IntKind.i64.wrap (k+(1:Int))) moved is)) (.br (k_ref3_next t k) (.jmp (.l17 k (v_ref3_next t k) moved (0:Int) is)) (.no))) (.no)) (.jmp (.l4 moved is)) |.l17 k more moved j_ is=>.br (decide (j_ < (Int.ofNat (List.length is)))) (.br ((decide ((0:Int)≤j_))&&(decide (j_ < (Int.ofNat (List.length more))))) (.br (List.getD more (Int.toNat j_) (dflt .bool)) (.br ((decide ((0:Int)≤j_))&&(decide (j_ < (Int.ofNat (List.length is))))) (.br (! (List.getD is (Int.toNat j_) (dflt .bool))) (.br ((decide ((0:Int)≤j_))&&(decide (j_ < (Int.ofNat (List.length is))))) (.jmp (.l17 k more true (IntKind.i64.wrap (j_+(1:Int))) (List.set is (Int.toNat j_) true))) (.no)) (.jmp (.l17 k more moved (IntKind.i64.wrap (j_+(1:Int))) is))) (.no)) (.jmp (.l17 k more moved (IntKind.i64.wrap (j_+(1:Int))) is))) (.no)) (.jmp (.l9 (IntKind.i64.wrap (k+(1:Int))) moved is))
def T0_ref3_from (t:List (El T_api_Ins)) (i:Int):JT J_ref3_from (List Bool):=.br (k_ref3_next t i) (.jmp (.l4 true (v_ref3_next t i))) (.no)
def R_ref3_from:List Bool→AV:=fun (r:List Bool)=>.rw 4 .bool r
def S_ref3_from (t:List (El T_api_Ins)) (i:Int):J_ref3_from→Nat×St |.l4 moved is=>(4,⟨mkTm 49 [(2,.pt 3 0 0),(5,.own 6 0 none),(6,.d .bool moved)],[(3,0,.box 48 [.d (.sl T_api_Ins) t] none),(6,0,.row 4 .bool is false)]⟩) |.l9 k moved is=>(9,⟨mkTm 49 [(2,.pt 3 0 0),(5,.own 6 0 none),(6,.d .bool moved),(7,.d (.int .i64) k)],[(3,0,.box 48 [.d (.sl T_api_Ins) t] none),(6,0,.row 4 .bool is false)]⟩) |.l17 k more moved j_ is=>(17,⟨mkTm 49 [(2,.pt 3 0 0),(5,.own 6 0 none),(6,.d .bool moved),(7,.d (.int .i64) k),(8,.own 9 0 none),(9,.d (.int .i64) j_)],[(3,0,.box 48 [.d (.sl T_api_Ins) t] none),(6,0,.row 4 .bool is false),(9,0,.row 4 .bool more false)]⟩)
theorem en_ref3_from (t:List (El T_api_Ins)) (i:Int) (L:Lt):entryA Go.Proofs.Tryz.prog (clOf t_ref3_from) tb_ref3_from Go.Proofs.Tryz.f49 c_ref3_from L (toForms sg_ref3_from (t,i,()))=(T0_ref3_from t i).run (fun v=>some (R_ref3_from v,tps (toForms sg_ref3_from (t,i,())))) fun j=>L (S_ref3_from t i j).1 (S_ref3_from t i j).2:=by kernel_rfl
theorem lp_ref3_from (t:List (El T_api_Ins)) (i:Int):∀(L:Lt) (j:J_ref3_from),procOf (procsF Go.Proofs.Tryz.prog (clOf t_ref3_from) tb_ref3_from Go.Proofs.Tryz.f49 c_ref3_from (toForms sg_ref3_from (t,i,()))) (S_ref3_from t i j).1 L (S_ref3_from t i j).2=(T_ref3_from t i j).run (fun v=>some (R_ref3_from v,tps (toForms sg_ref3_from (t,i,())))) fun j=>L (S_ref3_from t i j).1 (S_ref3_from t i j).2 | L,.l4 moved is=>by kernel_rfl | L,.l9 k moved is=>by kernel_rfl | L,.l17 k more moved j_ is=>by kernel_rfl
end
end Go.Ev
end

section
open Go
namespace Go.Ev
theorem rowOf_getD {n:Nat} {M:Nat→Bool} {i:Nat} (h:i < n):List.getD (rowOf n M) i (dflt .bool)=M i:=by
 simp[List.getD,rowOf_get h]
theorem rowOf_put {n:Nat} {M:Nat→Bool} {i:Nat} {b:Bool} :(rowOf n M).set i b=rowOf n fun j=>if j=i then b else M j:=by
 apply List.ext_getElem?
 intro j
 rw[List.getElem?_set,rowOf_length]
 by_cases hj:j < n
 ·rw[rowOf_get hj,rowOf_get hj]
  by_cases hi:i=j
  ·subst hi;rw[if_pos rfl,if_pos hj,if_pos rfl]
  ·rw[if_neg hi,if_neg (fun e=>hi e.symm)]
 ·rw[List.getElem?_eq_none (by rw[rowOf_length];omega),List.getElem?_eq_none (by rw[rowOf_length];omega)]
  by_cases hi:i=j
  ·rw[if_pos hi,if_neg (by omega)]
  ·rw[if_neg hi]
end Go.Ev
end

section
open Go
namespace Go.Ev
noncomputable def v_ref3_from (t:List (El T_api_Ins)) (i:Int):List Bool:=rowOf t.length (fromB t i)
def k_ref3_from (t:List (El T_api_Ins)) (i:Int):Bool:=flowOK t
theorem g_ref3_from (t:List (El T_api_Ins)) (i:Int) (hk:k_ref3_from t i=true):Goes (T_ref3_from t i) (T0_ref3_from t i) (v_ref3_from t i):=by
 have hlen:=flowOK_len hk
 generalize hn:t.length=n at hlen
 let OK:(Nat→Bool)→(Nat→Bool)→Bool→Prop:=fun M0 M moved=>(∀j,nextB t i j=true→M j=true)∧(∀j,M j=true→Come (fun k j=>nextB t (k:Int) j) (nextB t i) j)∧(moved=false→M=M0)∧(moved=true→card n M0 < card n M)
 have hltM:∀ {M0 M moved},OK M0 M moved→∀j,M j=true→j < n:=fun h j hj=>by
  have:=come_lt (n:=t.length) (fun j=>nextB_lt) (fun k j=>nextB_lt) (h.2.1 j hj)
  omega
 have loop:∀m,∀M:Nat→Bool,n - card n M=m→(∀j,nextB t i j=true→M j=true)→(∀j,M j=true→Come (fun k j=>nextB t (k:Int) j) (nextB t i) j)→Goes (T_ref3_from t i) (.jmp (.l4 true (rowOf n M))) (v_ref3_from t i):=by
  intro m
  induction m using Nat.strongRecOn with
  | _ m ih=>
  intro M0 hm hA hC
  have inner:∀k,k < n→∀Z:Prop,(∀M moved,OK M0 M moved→(moved=false→Z∧∀j,nextB t (k:Int) j=true→M0 j=true)→Goes (T_ref3_from t i) (.jmp (.l9 ((k+1:Nat):Int) moved (rowOf n M))) (v_ref3_from t i))→
    ∀j,j≤n→∀M moved,M k=true→OK M0 M moved→(moved=false→Z∧∀x,x < j→nextB t (k:Int) x=true→M0 x=true)→Goes (T_ref3_from t i) (.jmp (.l17 (k:Int) (rowOf n (nextB t (k:Int))) moved (j:Int) (rowOf n M))) (v_ref3_from t i):=by
   intro k hkn Z hz
   refine down ?_ fun j hj ih2=>?_
   ·intro M moved hMk hok hcl
    rw[goes_jmp,T_ref3_from,goes_br,rowOf_length,if_neg (by rw[lt_len_not (Nat.lt_irrefl _)];decide),wrap_succ (by omega)]
    exact hz M moved hok fun hm=>⟨(hcl hm).1,fun j hj=>(hcl hm).2 j (by have:=nextB_lt hj;omega) hj⟩
   ·intro M moved hMk hok hcl
    rw[goes_jmp,T_ref3_from,goes_br,rowOf_length,if_pos (lt_len hj),goes_br,rowOf_length,if_pos (bound_len hj),goes_br,Int.toNat_natCast,rowOf_getD hj,wrap_succ (by omega)]
    by_cases hN:nextB t (k:Int) j=true
    ·rw[if_pos hN,goes_br,if_pos (bound_len hj),goes_br,rowOf_getD hj]
     cases hMj:M j with
     | true=>
      rw[if_neg (by decide)]
      refine ih2 M moved hMk hok fun hm=>⟨(hcl hm).1,fun x hx hxN=>?_⟩
      by_cases hxj:x=j
      ·subst hxj;rw[←hok.2.2.1 hm];exact hMj
      ·exact (hcl hm).2 x (by omega) hxN
     | false=>
      rw[if_pos (by decide),goes_br,if_pos (bound_len hj),rowOf_set]
      have hca:=card_add hMj hj
      refine ih2 (fun x=>M x || (x==j)) true (by rw[hMk];rfl) ⟨fun x hx=>(show (M x || (x==j))=true by rw[hok.1 x hx];rfl),fun x hx=>?_,fun h=>(by cases h),fun _=>?_⟩ (fun h=>by cases h)
      ·simp only[Bool.or_eq_true,beq_iff_eq] at hx
       rcases hx with hx | hx
       ·exact hok.2.1 x hx
       ·subst hx;exact .step (hok.2.1 k hMk) hN
      ·cases moved with
       | true=>have:=hok.2.2.2 rfl;omega
       | false=>rw[hok.2.2.1 rfl] at hca;rw[hok.2.2.1 rfl];omega
    ·rw[if_neg hN]
     refine ih2 M moved hMk hok fun hm=>⟨(hcl hm).1,fun x hx hxN=>?_⟩
     by_cases hxj:x=j
     ·subst hxj;exact absurd hxN hN
     ·exact (hcl hm).2 x (by omega) hxN
  have pass:∀k,k≤n→∀M moved,OK M0 M moved→(moved=false→∀k' j,k' < k→M0 k'=true→nextB t (k':Int) j=true→M0 j=true)→Goes (T_ref3_from t i) (.jmp (.l9 (k:Int) moved (rowOf n M))) (v_ref3_from t i):=by
   refine down ?_ fun k hkn ih2=>?_
   ·intro M moved hok hcl
    rw[goes_jmp,T_ref3_from,goes_br,rowOf_length,if_neg (by rw[lt_len_not (Nat.lt_irrefl _)];decide)]
    cases moved with
    | true=>
     have h1:=hok.2.2.2 rfl
     have h2:= @card_le n M
     exact ih (n - card n M) (by omega) M rfl hok.1 hok.2.1
    | false=>
     have e:=hok.2.2.1 rfl
     subst e
     rw[goes_jmp,T_ref3_from,goes_br,if_neg (by decide)]
     have hv:rowOf n M=v_ref3_from t i:=by
      unfold v_ref3_from fromB
      rw[hn]
      exact rowOf_congr fun j _=>comeB_eq hok.1 (fun k j hk hj=>hcl rfl k j (hltM hok k hk) hk hj) hok.2.1 j
     rw[hv];exact .leaf
   ·intro M moved hok hcl
    rw[goes_jmp,T_ref3_from,goes_br,rowOf_length,if_pos (lt_len hkn),goes_br,if_pos (bound_len hkn),goes_br,Int.toNat_natCast,rowOf_getD hkn]
    cases hMk:M k with
    | false=>
     rw[if_pos (by decide),wrap_succ (by omega)]
     refine ih2 M moved hok fun hm k' j hk' hk1 hj=>?_
     by_cases e:k'=k
     ·subst e;rw[←hok.2.2.1 hm,hMk] at hk1;cases hk1
     ·exact hcl hm k' j (by omega) hk1 hj
    | true=>
     have kn:k_ref3_next t (k:Int)=true:=hk
     rw[if_neg (by decide),goes_br,if_pos kn]
     have hvn:v_ref3_next t (k:Int)=rowOf n (nextB t (k:Int)):=by unfold v_ref3_next;rw[hn]
     rw[hvn]
     refine inner k hkn (∀k' j,k' < k→M0 k'=true→nextB t (k':Int) j=true→M0 j=true) (fun M' moved' hok' hcl'=>ih2 M' moved' hok' fun hm k' j hk' hk1 hj=>?_) 0 (Nat.zero_le _) M moved hMk hok (fun hm=>⟨hcl hm,fun x hx=>by omega⟩)
     by_cases e:k'=k
     ·subst e;exact (hcl' hm).2 j hj
     ·exact (hcl' hm).1 k' j (by omega) hk1 hj
  rw[goes_jmp,T_ref3_from,goes_br,if_pos rfl]
  exact pass 0 (Nat.zero_le _) M0 false ⟨hA,hC,fun _=>rfl,fun h=>by cases h⟩ fun _ k' j h=>by omega
 have kn:k_ref3_next t i=true:=hk
 unfold T0_ref3_from
 rw[goes_br,if_pos kn]
 have hvn:v_ref3_next t i=rowOf n (nextB t i):=by unfold v_ref3_next;rw[hn]
 rw[hvn]
 exact loop _ (nextB t i) rfl (fun j h=>h) (fun j h=>.start h)
end Go.Ev
end

section
open Go Go.Ev
namespace Go.Ev
noncomputable section
noncomputable def e_ref3_from:Run:=entG sg_ref3_from R_ref3_from (fun a=>k_ref3_from a.1 a.2.1) (fun a=>v_ref3_from a.1 a.2.1)
theorem ok_ref3_from:EntOK Go.Proofs.Tryz.prog 49 e_ref3_from:=entG_ok (tb:=tb_ref3_from) (c:=c_ref3_from) tk_ref3_from (by kernel_rfl) (by kernel_rfl) (by kernel_rfl) (fun a=>by kernel_rfl) fun ⟨t,i,_⟩ hk=>evF_goes (c:=c_ref3_from) (K:=fun v=>(R_ref3_from v,tps (toForms sg_ref3_from (t,i,())))) (S:=S_ref3_from t i) (by kernel_rfl) (en_ref3_from t i) (lp_ref3_from t i) (g_ref3_from t i hk)
end
end Go.Ev
end

section
open Go Go.Ev
namespace Go.Ev
noncomputable section
def sg_ref3_Clash:Sig:=[(true,T_api_Access),(true,T_api_Access)]
noncomputable def t_ref3_Clash:Tbl:=[]
theorem tk_ref3_Clash:∀p∈t_ref3_Clash,EntOK Go.Proofs.Tryz.prog p.1 p.2:=tbl_nil
noncomputable def c_ref3_Clash:Code:=Go.Proofs.Tryz.f23.body.getD .skip
def tb_ref3_Clash:Tb:=[]
def T_ref3_Clash (a:El T_api_Access) (b:El T_api_Access):Empty→JT Empty (Bool):=fun j=>nomatch j
def T0_ref3_Clash (a:El T_api_Access) (b:El T_api_Access):JT Empty (Bool):=.br (a.1 !=b.1) (.br (a.2.2.2.1==b.2.2.2.1) (.br a.2.2.2.2.1 (.leaf true) (.leaf b.2.2.2.2.1)) (.leaf false)) (.leaf false)
def v_ref3_Clash (a:El T_api_Access) (b:El T_api_Access):Bool:=bif (a.1 !=b.1) then bif (a.2.2.2.1==b.2.2.2.1) then bif a.2.2.2.2.1 then true else b.2.2.2.2.1 else false else false
theorem g_ref3_Clash (a:El T_api_Access) (b:El T_api_Access):Goes (T_ref3_Clash a b) (T0_ref3_Clash a b) (v_ref3_Clash a b):=Goes.br (Goes.br (Goes.br (Goes.leaf) (Goes.leaf)) (Goes.leaf)) (Goes.leaf)
def R_ref3_Clash:Bool→AV:=fun (r:Bool)=>.d .bool r
def S_ref3_Clash (a:El T_api_Access) (b:El T_api_Access):Empty→Nat×St:=fun j=>nomatch j
theorem en_ref3_Clash (a:El T_api_Access) (b:El T_api_Access) (L:Lt):entryA Go.Proofs.Tryz.prog (clOf t_ref3_Clash) tb_ref3_Clash Go.Proofs.Tryz.f23 c_ref3_Clash L (toForms sg_ref3_Clash (a,b,()))=(T0_ref3_Clash a b).run (fun v=>some (R_ref3_Clash v,tps (toForms sg_ref3_Clash (a,b,())))) fun j=>L (S_ref3_Clash a b j).1 (S_ref3_Clash a b j).2:=by kernel_rfl
theorem lp_ref3_Clash (a:El T_api_Access) (b:El T_api_Access):∀(L:Lt) (j:Empty),procOf (procsF Go.Proofs.Tryz.prog (clOf t_ref3_Clash) tb_ref3_Clash Go.Proofs.Tryz.f23 c_ref3_Clash (toForms sg_ref3_Clash (a,b,()))) (S_ref3_Clash a b j).1 L (S_ref3_Clash a b j).2=(T_ref3_Clash a b j).run (fun v=>some (R_ref3_Clash v,tps (toForms sg_ref3_Clash (a,b,())))) fun j=>L (S_ref3_Clash a b j).1 (S_ref3_Clash a b j).2:=fun L j=>nomatch j
noncomputable def e_ref3_Clash:Run:=entT sg_ref3_Clash R_ref3_Clash (fun a=>v_ref3_Clash a.1 a.2.1)
theorem ok_ref3_Clash:EntOK Go.Proofs.Tryz.prog 23 e_ref3_Clash:=entT_ok (tb:=tb_ref3_Clash) (c:=c_ref3_Clash) tk_ref3_Clash (by kernel_rfl) (by kernel_rfl) (by kernel_rfl) (fun a=>by kernel_rfl) fun ⟨a,b,_⟩=>evF_goes (c:=c_ref3_Clash) (K:=fun v=>(R_ref3_Clash v,tps (toForms sg_ref3_Clash (a,b,())))) (S:=S_ref3_Clash a b) (by kernel_rfl) (en_ref3_Clash a b) (lp_ref3_Clash a b) (g_ref3_Clash a b)
end
end Go.Ev
end

section
open Go Go.Ev
namespace Go.Ev
noncomputable section
def sg_ref3_follows:Sig:=[(true,T_api_Prog),(true,T_api_Access),(true,T_api_Access)]
noncomputable def t_ref3_follows:Tbl:=[(49,e_ref3_from)]
theorem tk_ref3_follows:∀p∈t_ref3_follows,EntOK Go.Proofs.Tryz.prog p.1 p.2:=tbl_cons ok_ref3_from (tbl_nil)
noncomputable def c_ref3_follows:Code:=Go.Proofs.Tryz.f72.body.getD .skip
def tb_ref3_follows:Tb:=[]
def T_ref3_follows (p:El T_api_Prog) (a:El T_api_Access) (b:El T_api_Access):Empty→JT Empty (Bool):=fun j=>nomatch j
def T0_ref3_follows (p:El T_api_Prog) (a:El T_api_Access) (b:El T_api_Access):JT Empty (Bool):=.br (a.1 !=b.1) (.leaf false) (.br ((a.1==b.1)&&((a.2.1==b.2.1)&&((a.2.2.1==b.2.2.1)&&((a.2.2.2.1==b.2.2.2.1)&&((a.2.2.2.2.1==b.2.2.2.2.1)&&(a.2.2.2.2.2==b.2.2.2.2.2)))))) (.leaf true) (.br (a.2.1==b.2.1) (.br (decide (b.2.2.1 > a.2.2.1)) (.leaf true) (.br ((decide ((0:Int)≤a.1))&&(decide (a.1 < (Int.ofNat (List.length p.2))))) (.br (k_ref3_from (List.getD p.2 (Int.toNat a.1) (dflt (.sl T_api_Ins))) a.2.1) (.br ((decide ((0:Int)≤b.2.1))&&(decide (b.2.1 < (Int.ofNat (List.length (v_ref3_from (List.getD p.2 (Int.toNat a.1) (dflt (.sl T_api_Ins))) a.2.1)))))) (.leaf (List.getD (v_ref3_from (List.getD p.2 (Int.toNat a.1) (dflt (.sl T_api_Ins))) a.2.1) (Int.toNat b.2.1) (dflt .bool))) (.no)) (.no)) (.no))) (.br ((decide ((0:Int)≤a.1))&&(decide (a.1 < (Int.ofNat (List.length p.2))))) (.br (k_ref3_from (List.getD p.2 (Int.toNat a.1) (dflt (.sl T_api_Ins))) a.2.1) (.br ((decide ((0:Int)≤b.2.1))&&(decide (b.2.1 < (Int.ofNat (List.length (v_ref3_from (List.getD p.2 (Int.toNat a.1) (dflt (.sl T_api_Ins))) a.2.1)))))) (.leaf (List.getD (v_ref3_from (List.getD p.2 (Int.toNat a.1) (dflt (.sl T_api_Ins))) a.2.1) (Int.toNat b.2.1) (dflt .bool))) (.no)) (.no)) (.no))))
def v_ref3_follows (p:El T_api_Prog) (a:El T_api_Access) (b:El T_api_Access):Bool:=bif (a.1 !=b.1) then false else bif ((a.1==b.1)&&((a.2.1==b.2.1)&&((a.2.2.1==b.2.2.1)&&((a.2.2.2.1==b.2.2.2.1)&&((a.2.2.2.2.1==b.2.2.2.2.1)&&(a.2.2.2.2.2==b.2.2.2.2.2)))))) then true else bif (a.2.1==b.2.1) then bif (decide (b.2.2.1 > a.2.2.1)) then true else bif ((decide ((0:Int)≤a.1))&&(decide (a.1 < (Int.ofNat (List.length p.2))))) then bif (k_ref3_from (List.getD p.2 (Int.toNat a.1) (dflt (.sl T_api_Ins))) a.2.1) then bif ((decide ((0:Int)≤b.2.1))&&(decide (b.2.1 < (Int.ofNat (List.length (v_ref3_from (List.getD p.2 (Int.toNat a.1) (dflt (.sl T_api_Ins))) a.2.1)))))) then (List.getD (v_ref3_from (List.getD p.2 (Int.toNat a.1) (dflt (.sl T_api_Ins))) a.2.1) (Int.toNat b.2.1) (dflt .bool)) else false else false else false else bif ((decide ((0:Int)≤a.1))&&(decide (a.1 < (Int.ofNat (List.length p.2))))) then bif (k_ref3_from (List.getD p.2 (Int.toNat a.1) (dflt (.sl T_api_Ins))) a.2.1) then bif ((decide ((0:Int)≤b.2.1))&&(decide (b.2.1 < (Int.ofNat (List.length (v_ref3_from (List.getD p.2 (Int.toNat a.1) (dflt (.sl T_api_Ins))) a.2.1)))))) then (List.getD (v_ref3_from (List.getD p.2 (Int.toNat a.1) (dflt (.sl T_api_Ins))) a.2.1) (Int.toNat b.2.1) (dflt .bool)) else false else false else false
def k_ref3_follows (p:El T_api_Prog) (a:El T_api_Access) (b:El T_api_Access):Bool:=bif (a.1 !=b.1) then true else bif ((a.1==b.1)&&((a.2.1==b.2.1)&&((a.2.2.1==b.2.2.1)&&((a.2.2.2.1==b.2.2.2.1)&&((a.2.2.2.2.1==b.2.2.2.2.1)&&(a.2.2.2.2.2==b.2.2.2.2.2)))))) then true else bif (a.2.1==b.2.1) then bif (decide (b.2.2.1 > a.2.2.1)) then true else bif ((decide ((0:Int)≤a.1))&&(decide (a.1 < (Int.ofNat (List.length p.2))))) then bif (k_ref3_from (List.getD p.2 (Int.toNat a.1) (dflt (.sl T_api_Ins))) a.2.1) then bif ((decide ((0:Int)≤b.2.1))&&(decide (b.2.1 < (Int.ofNat (List.length (v_ref3_from (List.getD p.2 (Int.toNat a.1) (dflt (.sl T_api_Ins))) a.2.1)))))) then true else false else false else false else bif ((decide ((0:Int)≤a.1))&&(decide (a.1 < (Int.ofNat (List.length p.2))))) then bif (k_ref3_from (List.getD p.2 (Int.toNat a.1) (dflt (.sl T_api_Ins))) a.2.1) then bif ((decide ((0:Int)≤b.2.1))&&(decide (b.2.1 < (Int.ofNat (List.length (v_ref3_from (List.getD p.2 (Int.toNat a.1) (dflt (.sl T_api_Ins))) a.2.1)))))) then true else false else false else false
theorem g_ref3_follows (p:El T_api_Prog) (a:El T_api_Access) (b:El T_api_Access) (hk:k_ref3_follows p a b=true):Goes (T_ref3_follows p a b) (T0_ref3_follows p a b) (v_ref3_follows p a b):=Goes.brk hk (fun hk=>Goes.leaf) (fun hk=>Goes.brk hk (fun hk=>Goes.leaf) (fun hk=>Goes.brk hk (fun hk=>Goes.brk hk (fun hk=>Goes.leaf) (fun hk=>Goes.brk hk (fun hk=>Goes.brk hk (fun hk=>Goes.brk hk (fun hk=>Goes.leaf) (fun hk=>Goes.nok hk)) (fun hk=>Goes.nok hk)) (fun hk=>Goes.nok hk))) (fun hk=>Goes.brk hk (fun hk=>Goes.brk hk (fun hk=>Goes.brk hk (fun hk=>Goes.leaf) (fun hk=>Goes.nok hk)) (fun hk=>Goes.nok hk)) (fun hk=>Goes.nok hk))))
def R_ref3_follows:Bool→AV:=fun (r:Bool)=>.d .bool r
def S_ref3_follows (p:El T_api_Prog) (a:El T_api_Access) (b:El T_api_Access):Empty→Nat×St:=fun j=>nomatch j
theorem en_ref3_follows (p:El T_api_Prog) (a:El T_api_Access) (b:El T_api_Access) (L:Lt):entryA Go.Proofs.Tryz.prog (clOf t_ref3_follows) tb_ref3_follows Go.Proofs.Tryz.f72 c_ref3_follows L (toForms sg_ref3_follows (p,a,b,()))=(T0_ref3_follows p a b).run (fun v=>some (R_ref3_follows v,tps (toForms sg_ref3_follows (p,a,b,())))) fun j=>L (S_ref3_follows p a b j).1 (S_ref3_follows p a b j).2:=by kernel_rfl
theorem lp_ref3_follows (p:El T_api_Prog) (a:El T_api_Access) (b:El T_api_Access):∀(L:Lt) (j:Empty),procOf (procsF Go.Proofs.Tryz.prog (clOf t_ref3_follows) tb_ref3_follows Go.Proofs.Tryz.f72 c_ref3_follows (toForms sg_ref3_follows (p,a,b,()))) (S_ref3_follows p a b j).1 L (S_ref3_follows p a b j).2=(T_ref3_follows p a b j).run (fun v=>some (R_ref3_follows v,tps (toForms sg_ref3_follows (p,a,b,())))) fun j=>L (S_ref3_follows p a b j).1 (S_ref3_follows p a b j).2:=fun L j=>nomatch j
noncomputable def e_ref3_follows:Run:=entG sg_ref3_follows R_ref3_follows (fun a=>k_ref3_follows a.1 a.2.1 a.2.2.1) (fun a=>v_ref3_follows a.1 a.2.1 a.2.2.1)
theorem ok_ref3_follows:EntOK Go.Proofs.Tryz.prog 72 e_ref3_follows:=entG_ok (tb:=tb_ref3_follows) (c:=c_ref3_follows) tk_ref3_follows (by kernel_rfl) (by kernel_rfl) (by kernel_rfl) (fun a=>by kernel_rfl) fun ⟨p,a,b,_⟩ hk=>evF_goes (c:=c_ref3_follows) (K:=fun v=>(R_ref3_follows v,tps (toForms sg_ref3_follows (p,a,b,())))) (S:=S_ref3_follows p a b) (by kernel_rfl) (en_ref3_follows p a b) (lp_ref3_follows p a b) (g_ref3_follows p a b hk)
end
end Go.Ev
end

section
open Go Go.Ev
namespace Go.Ev
noncomputable section
def sg_ref3_back:Sig:=[(true,T_api_Prog),(false,(.sl T_api_Access)),(false,(.int .i64))]
noncomputable def t_ref3_back:Tbl:=[(23,e_ref3_Clash),(72,e_ref3_follows)]
theorem tk_ref3_back:∀p∈t_ref3_back,EntOK Go.Proofs.Tryz.prog p.1 p.2:=tbl_cons ok_ref3_Clash (tbl_cons ok_ref3_follows (tbl_nil))
noncomputable def c_ref3_back:Code:=Go.Proofs.Tryz.f48.body.getD .skip
def tb_ref3_back:Tb:=[(8,⟨[1,2,3,7,8,9,95,105,147,156],[]⟩),(14,⟨[1,2,3,7,8,10,95,105,147,156],[]⟩),(19,⟨[1,2,3,7,8,10,11,95,105,147,156],[]⟩),(24,⟨[1,2,3,7,8,10,11,12,147,156],[]⟩),(31,⟨[1,2,7,8,13,147,156],[]⟩),(36,⟨[1,2,7,8,13,14],[]⟩)]
inductive J_ref3_back where | l8 (i:Int) (is:List Bool) | l14 (is:List Bool) (moved:Bool) | l19 (is:List Bool) (i:Int) (moved:Bool) | l24 (is:List Bool) (moved:Bool) (k:Int) (i:Int) | l31 (is:List Bool) (i:Int) (out:List Bool) | l36 (is:List Bool) (k:Int) (out:List Bool) (i:Int)
def T_ref3_back (p:El T_api_Prog) (l:List (El T_api_Access)) (a:Int):J_ref3_back→JT J_ref3_back (List Bool) |.l8 i is=>.br (decide (i < (Int.ofNat (List.length l)))) (.br ((decide ((0:Int)≤a))&&(decide (a < (Int.ofNat (List.length l))))) (.br ((decide ((0:Int)≤i))&&(decide (i < (Int.ofNat (List.length l))))) (.br ((decide ((0:Int)≤i))&&(decide (i < (Int.ofNat (List.length is))))) (.jmp (.l8 (IntKind.i64.wrap (i+(1:Int))) (List.set is (Int.toNat i) (v_ref3_Clash (List.getD l (Int.toNat a) (dflt T_api_Access)) (List.getD l (Int.toNat i) (dflt T_api_Access)))))) (.no)) (.no)) (.no)) (.jmp (.l14 is true)) |.l14 is moved=>.br moved (.jmp (.l19 is (0:Int) false)) (.jmp (.l31 is (0:Int) (List.replicate (List.length l) false))) |.l19 is i moved=>.br (decide (i < (Int.ofNat (List.length l)))) (.jmp (.l24 is moved (0:Int) i)) (.jmp (.l14 is moved)) |.l24 is moved k i=>.br (decide (k < (Int.ofNat (List.length l)))) (.br ((decide ((0:Int)≤i))&&(decide (i < (Int.ofNat (List.length is))))) (.br (List.getD is (Int.toNat i) (dflt .bool)) (.br ((decide ((0:Int)≤k))&&(decide (k < (Int.ofNat (List.length is))))) (.br (! (List.getD is (Int.toNat k) (dflt .bool))) (.br ((decide ((0:Int)≤k))&&(decide (k < (Int.ofNat (List.length l))))) (.br ((decide ((0:Int)≤a))&&(decide (a < (Int.ofNat (List.length l))))) (.br ((List.getD l (Int.toNat k) (dflt T_api_Access)).1 !=(List.getD l (Int.toNat a) (dflt T_api_Access)).1) (.br ((decide ((0:Int)≤i))&&(decide (i < (Int.ofNat (List.length l))))) (.br ((decide ((0:Int)≤k))&&(decide (k < (Int.ofNat (List.length l))))) (.br (v_ref3_Clash (List.getD l (Int.toNat i) (dflt T_api_Access)) (List.getD l (Int.toNat k) (dflt T_api_Access))) (.br ((decide ((0:Int)≤k))&&(decide (k < (Int.ofNat (List.length is))))) (.jmp (.l24 (List.set is (Int.toNat k) true) true (IntKind.i64.wrap (k+(1:Int))) i)) (.no)) (.br ((decide ((0:Int)≤i))&&(decide (i < (Int.ofNat (List.length l))))) (.br ((decide ((0:Int)≤k))&&(decide (k < (Int.ofNat (List.length l))))) (.br (k_ref3_follows p (List.getD l (Int.toNat i) (dflt T_api_Access)) (List.getD l (Int.toNat k) (dflt T_api_Access))) (.br (v_ref3_follows p (List.getD l (Int.toNat i) (dflt T_api_Access)) (List.getD l (Int.toNat k) (dflt T_api_Access))) (.br ((decide ((0:Int)≤k))&&(decide (k < (Int.ofNat (List.length is))))) (.jmp (.l24 (List.set is (Int.toNat k) true) true (IntKind.i64.wrap (k+(1:Int))) i)) (.no)) (.jmp (.l24 is moved (IntKind.i64.wrap (k+(1:Int))) i))) (.no)) (.no)) (.no))) (.no)) (.no)) (.jmp (.l24 is moved (IntKind.i64.wrap (k+(1:Int))) i))) (.no)) (.no)) (.jmp (.l24 is moved (IntKind.i64.wrap (k+(1:Int))) i))) (.no)) (.jmp (.l19 is (IntKind.i64.wrap (i+(1:Int))) moved))) (.no)) (.jmp (.l19 is (IntKind.i64.wrap (i+(1:Int))) moved)) |.l31 is i out=>.br (decide (i < (Int.ofNat (List.length l)))) (.jmp (.l36 is (0:Int) out i)) (.leaf out) |.l36 is k out i=>.br (decide (k < (Int.ofNat (List.length l)))) (.br ((decide ((0:Int)≤i))&&(decide (i < (Int.ofNat (List.length l))))) (.br ((decide ((0:Int)≤a))&&(decide (a < (Int.ofNat (List.length l))))) (.br ((List.getD l (Int.toNat i) (dflt T_api_Access)).1==(List.getD l (Int.toNat a) (dflt T_api_Access)).1) (.br ((decide ((0:Int)≤i))&&(decide (i < (Int.ofNat (List.length out))))) (.br (List.getD out (Int.toNat i) (dflt .bool)) (.br ((decide ((0:Int)≤i))&&(decide (i < (Int.ofNat (List.length out))))) (.jmp (.l36 is (IntKind.i64.wrap (k+(1:Int))) (List.set out (Int.toNat i) true) i)) (.no)) (.br ((decide ((0:Int)≤k))&&(decide (k < (Int.ofNat (List.length is))))) (.br (List.getD is (Int.toNat k) (dflt .bool)) (.br ((decide ((0:Int)≤k))&&(decide (k < (Int.ofNat (List.length l))))) (.br ((decide ((0:Int)≤i))&&(decide (i < (Int.ofNat (List.length l))))) (.br ((decide ((0:Int)≤i))&&(decide (i < (Int.ofNat (List.length out))))) (.jmp (.l36 is (IntKind.i64.wrap (k+(1:Int))) (List.set out (Int.toNat i) (v_ref3_Clash (List.getD l (Int.toNat k) (dflt T_api_Access)) (List.getD l (Int.toNat i) (dflt T_api_Access)))) i)) (.no)) (.no)) (.no)) (.br ((decide ((0:Int)≤i))&&(decide (i < (Int.ofNat (List.length out))))) (.jmp (.l36 is (IntKind.i64.wrap (k+(1:Int))) (List.set out (Int.toNat i) false) i)) (.no))) (.no))) (.no)) (.jmp (.l31 is (IntKind.i64.wrap (i+(1:Int))) out))) (.no)) (.no)) (.jmp (.l31 is (IntKind.i64.wrap (i+(1:Int))) out))
def T0_ref3_back (p:El T_api_Prog) (l:List (El T_api_Access)) (a:Int):JT J_ref3_back (List Bool):=.br ((((Int.ofNat (List.length l))==(Int.ofNat (List.length l)))&&(decide ((0:Int)≤(Int.ofNat (List.length l)))))&&(decide (((Int.ofNat (List.length l))*(1:Int))≤(limit:Int)))) (.br (decide (a < (0:Int))) (.leaf (List.replicate (List.length l) false)) (.br (decide (a≥(Int.ofNat (List.length l)))) (.leaf (List.replicate (List.length l) false)) (.br ((((Int.ofNat (List.length l))==(Int.ofNat (List.length l)))&&(decide ((0:Int)≤(Int.ofNat (List.length l)))))&&(decide (((Int.ofNat (List.length l))*(1:Int))≤(limit:Int)))) (.jmp (.l8 (0:Int) (List.replicate (List.length l) false))) (.no)))) (.no)
def R_ref3_back:List Bool→AV:=fun (r:List Bool)=>.rw 4 .bool r
def S_ref3_back (p:El T_api_Prog) (l:List (El T_api_Access)) (a:Int):J_ref3_back→Nat×St |.l8 i is=>(8,⟨mkTm 161 [(1,.d (.sl T_api_Access) l),(2,.d (.int .i64) a),(3,.pt 4 0 0),(7,.own 8 0 none),(8,.own 9 0 none),(9,.d (.int .i64) i)],[(4,0,.box 26 [.d (.sl T_api_Sym) p.1,.d (.sl (.sl T_api_Ins)) p.2] none),(8,0,.row 4 .bool (List.replicate (List.length l) false) false),(9,0,.row 4 .bool is false)]⟩) |.l14 is moved=>(14,⟨mkTm 161 [(1,.d (.sl T_api_Access) l),(2,.d (.int .i64) a),(3,.pt 4 0 0),(7,.own 8 0 none),(8,.own 9 0 none),(10,.d .bool moved)],[(4,0,.box 26 [.d (.sl T_api_Sym) p.1,.d (.sl (.sl T_api_Ins)) p.2] none),(8,0,.row 4 .bool (List.replicate (List.length l) false) false),(9,0,.row 4 .bool is false)]⟩) |.l19 is i moved=>(19,⟨mkTm 161 [(1,.d (.sl T_api_Access) l),(2,.d (.int .i64) a),(3,.pt 4 0 0),(7,.own 8 0 none),(8,.own 9 0 none),(10,.d .bool moved),(11,.d (.int .i64) i)],[(4,0,.box 26 [.d (.sl T_api_Sym) p.1,.d (.sl (.sl T_api_Ins)) p.2] none),(8,0,.row 4 .bool (List.replicate (List.length l) false) false),(9,0,.row 4 .bool is false)]⟩) |.l24 is moved k i=>(24,⟨mkTm 161 [(1,.d (.sl T_api_Access) l),(2,.d (.int .i64) a),(3,.pt 4 0 0),(7,.own 8 0 none),(8,.own 9 0 none),(10,.d .bool moved),(11,.d (.int .i64) i),(12,.d (.int .i64) k)],[(4,0,.box 26 [.d (.sl T_api_Sym) p.1,.d (.sl (.sl T_api_Ins)) p.2] none),(8,0,.row 4 .bool (List.replicate (List.length l) false) false),(9,0,.row 4 .bool is false)]⟩) |.l31 is i out=>(31,⟨mkTm 161 [(1,.d (.sl T_api_Access) l),(2,.d (.int .i64) a),(7,.own 8 0 none),(8,.own 9 0 none),(13,.d (.int .i64) i)],[(8,0,.row 4 .bool out false),(9,0,.row 4 .bool is false)]⟩) |.l36 is k out i=>(36,⟨mkTm 161 [(1,.d (.sl T_api_Access) l),(2,.d (.int .i64) a),(7,.own 8 0 none),(8,.own 9 0 none),(13,.d (.int .i64) i),(14,.d (.int .i64) k)],[(8,0,.row 4 .bool out false),(9,0,.row 4 .bool is false)]⟩)
theorem en_ref3_back (p:El T_api_Prog) (l:List (El T_api_Access)) (a:Int) (L:Lt):entryA Go.Proofs.Tryz.prog (clOf t_ref3_back) tb_ref3_back Go.Proofs.Tryz.f48 c_ref3_back L (toForms sg_ref3_back (p,l,a,()))=(T0_ref3_back p l a).run (fun v=>some (R_ref3_back v,tps (toForms sg_ref3_back (p,l,a,())))) fun j=>L (S_ref3_back p l a j).1 (S_ref3_back p l a j).2:=by kernel_rfl
theorem lp_ref3_back (p:El T_api_Prog) (l:List (El T_api_Access)) (a:Int):∀(L:Lt) (j:J_ref3_back),procOf (procsF Go.Proofs.Tryz.prog (clOf t_ref3_back) tb_ref3_back Go.Proofs.Tryz.f48 c_ref3_back (toForms sg_ref3_back (p,l,a,()))) (S_ref3_back p l a j).1 L (S_ref3_back p l a j).2=(T_ref3_back p l a j).run (fun v=>some (R_ref3_back v,tps (toForms sg_ref3_back (p,l,a,())))) fun j=>L (S_ref3_back p l a j).1 (S_ref3_back p l a j).2 | L,.l8 i is=>by kernel_rfl | L,.l14 is moved=>by kernel_rfl | L,.l19 is i moved=>by kernel_rfl | L,.l24 is moved k i=>by kernel_rfl | L,.l31 is i out=>by kernel_rfl | L,.l36 is k out i=>by kernel_rfl
end
end Go.Ev
end

section
open Go
namespace Go.Ev
theorem refClash_eq (l:List Acc) (i j:Nat):v_ref3_Clash (accA l i) (accA l j)=clB l i j:=rfl
theorem acc_facts {p:El T_api_Prog} (h:smallAll p=true) {i:Nat} (hi:i < (ofC p).length):
  0≤thA (ofC p) i∧thA (ofC p) i < (p.2.length:Int)∧flowOK (thrOf p (ofC p) i)=true∧0≤inA (ofC p) i∧inA (ofC p) i < ((thrOf p (ofC p) i).length:Int):=by
 have hA:=smallA h
 have hm:accA (ofC p) i∈ofC p:=by unfold accA;rw[getD_lt hi];exact List.getElem_mem hi
 obtain ⟨u,x,j,y,h1,h2,h3,h4,h5⟩:=acc_where hm
 have hth:thA (ofC p) i=(u:Int):=h4
 have hin:inA (ofC p) i=(j:Int):=h5
 have hu:=(List.getElem?_eq_some_iff.1 h1).1
 have hj:=(List.getElem?_eq_some_iff.1 h2).1
 have ht:thrOf p (ofC p) i=x:=by
  unfold thrOf
  rw[hth,Int.toNat_natCast,List.getD_eq_getElem?_getD,h1];rfl
 rw[ht]
 exact ⟨by omega,by omega,flow_small (hA.thr x (List.mem_of_getElem? h1)),by omega,by omega⟩
theorem acc_inj {p:El T_api_Prog} {i k:Nat} (hi:i < (ofC p).length) (hk:k < (ofC p).length) (e:accA (ofC p) i=accA (ofC p) k):i=k:=by
 have ho:=List.pairwise_iff_getElem.1 (ofC_ord p)
 have gi:accA (ofC p) i=(ofC p)[i]:=by unfold accA;rw[getD_lt hi]
 have gk:accA (ofC p) k=(ofC p)[k]:=by unfold accA;rw[getD_lt hk]
 have irr:∀a:El T_api_Access,¬ltAX a a:=fun a h=>by
  have:∀t k q:Int,¬ltNX t k q t k q:=fun t k q h=>by
   rcases h with h | ⟨_,h | ⟨_,h⟩⟩ <;> omega
  exact this _ _ _ h
 rw[gi,gk] at e
 by_cases h:i=k
 ·exact h
 ·exfalso
  by_cases hl:i < k
  ·have:=ho i k hi hk hl
   rw[e] at this
   exact irr _ this
  ·have:=ho k i hk hi (by omega)
   rw[←e] at this
   exact irr _ this
theorem follows_eq {p:El T_api_Prog} (h:smallAll p=true) {i k:Nat} (hi:i < (ofC p).length) (hk:k < (ofC p).length):
  k_ref3_follows p (accA (ofC p) i) (accA (ofC p) k)=true∧v_ref3_follows p (accA (ofC p) i) (accA (ofC p) k)=behB p (ofC p) i k:=by
 obtain ⟨i0,i1,i2,i3,i4⟩:=acc_facts h hi
 obtain ⟨k0,k1,k2,k3,k4⟩:=acc_facts h hk
 have hinj:=fun e=>acc_inj hi hk e
 have a1:(accA (ofC p) i).1=thA (ofC p) i:=rfl
 have a2:(accA (ofC p) i).2.1=inA (ofC p) i:=rfl
 have a3:(accA (ofC p) i).2.2.1=paA (ofC p) i:=rfl
 have b1:(accA (ofC p) k).1=thA (ofC p) k:=rfl
 have b2:(accA (ofC p) k).2.1=inA (ofC p) k:=rfl
 have b3:(accA (ofC p) k).2.2.1=paA (ofC p) k:=rfl
 have ht:List.getD p.2 (Int.toNat (thA (ofC p) i)) (dflt (.sl T_api_Ins))=thrOf p (ofC p) i:=rfl
 have kf:k_ref3_from (thrOf p (ofC p) i) (inA (ofC p) i)=true:=i2
 have vf:v_ref3_from (thrOf p (ofC p) i) (inA (ofC p) i)=rowOf (thrOf p (ofC p) i).length (fromB (thrOf p (ofC p) i) (inA (ofC p) i)):=rfl
 have htri:(decide ((0:Int)≤thA (ofC p) i)&&decide (thA (ofC p) i < Int.ofNat p.2.length))=true:=by
  rw[Bool.and_eq_true,decide_eq_true_eq,decide_eq_true_eq];exact ⟨i0,i1⟩
 unfold k_ref3_follows v_ref3_follows behB
 rw[decide_eq_true hk,Bool.true_and]
 simp only[a1,a2,a3,b1,b2,b3,ht,kf,vf,htri,cond_true,rowOf_length]
 by_cases e1:thA (ofC p) i=thA (ofC p) k
 ·have htk:thrOf p (ofC p) k=thrOf p (ofC p) i:=by unfold thrOf;rw[e1]
  rw[htk] at k4
  have hbr:(decide ((0:Int)≤inA (ofC p) k)&&decide (inA (ofC p) k < Int.ofNat (thrOf p (ofC p) i).length))=true:=by
   rw[Bool.and_eq_true,decide_eq_true_eq,decide_eq_true_eq];exact ⟨k3,k4⟩
  have hrow:List.getD (rowOf (thrOf p (ofC p) i).length (fromB (thrOf p (ofC p) i) (inA (ofC p) i))) (inA (ofC p) k).toNat (dflt .bool)=fromB (thrOf p (ofC p) i) (inA (ofC p) i) (inA (ofC p) k).toNat:=rowOf_getD (by omega)
  have hb2:decide (inA (ofC p) k < Int.ofNat (thrOf p (ofC p) i).length)=true:=decide_eq_true k4
  simp only[hb2,hrow,cond_true,e1,bne_self_eq_false,beq_self_eq_true,cond_false,Bool.true_and,decide_eq_true k3]
  by_cases e2:k=i
  ·subst e2
   simp
  ·have hne:accA (ofC p) i≠accA (ofC p) k:=fun e=>e2 (hinj e).symm
   have hstr:((accA (ofC p) i).2.1==(accA (ofC p) k).2.1&&((accA (ofC p) i).2.2.1==(accA (ofC p) k).2.2.1&&((accA (ofC p) i).2.2.2.1==(accA (ofC p) k).2.2.2.1&&((accA (ofC p) i).2.2.2.2.1==(accA (ofC p) k).2.2.2.2.1&&(accA (ofC p) i).2.2.2.2.2==(accA (ofC p) k).2.2.2.2.2))))=false:=by
    rw[←Bool.not_eq_true]
    simp only[Bool.and_eq_true,beq_iff_eq]
    rintro ⟨h1,h2,h3,h4,h5⟩
    exact hne (Prod.ext e1 (Prod.ext h1 (Prod.ext h2 (Prod.ext h3 (Prod.ext h4 h5)))))
   rw[a2,a3,b2,b3] at hstr
   have e2b:(k==i)=false:=by simpa using e2
   simp only[hstr,e2b,cond_false,Bool.false_or]
   by_cases e3:inA (ofC p) i=inA (ofC p) k
   ·rw[e3]
    simp only[beq_self_eq_true,cond_true,Bool.true_and]
    cases hq:decide (paA (ofC p) k > paA (ofC p) i) <;> simp
   ·have e3b:(inA (ofC p) i==inA (ofC p) k)=false:=by simpa using e3
    have e3c:(inA (ofC p) k==inA (ofC p) i)=false:=by simpa using fun e=>e3 e.symm
    simp only[e3b,e3c,cond_false,Bool.false_and,Bool.false_or,and_self]
 ·have e1b:(thA (ofC p) i !=thA (ofC p) k)=true:=by simpa using e1
  have e1c:(thA (ofC p) k==thA (ofC p) i)=false:=by simpa using fun e=>e1 e.symm
  simp only[e1b,e1c,cond_true,Bool.false_and,and_self]
end Go.Ev
end

section
open Go
namespace Go.Ev
noncomputable def v_ref3_back (p:El T_api_Prog) (l:List (El T_api_Access)) (a:Int):List Bool:=rowOf l.length fun b=>decide (0≤a∧a < (l.length:Int))&&backB p l a.toNat b
def k_ref3_back (p:El T_api_Prog) (l:List (El T_api_Access)) (a:Int):Bool:=smallAll p&&same (.sl T_api_Access) l (ofC p)
theorem any_succ {P:Nat→Bool} {k:Nat} :(List.range (k+1)).any P=((List.range k).any P || P k):=by
 rw[List.range_succ,List.any_append];simp
theorem g_ref3_back (p:El T_api_Prog) (l:List (El T_api_Access)) (a:Int) (hk:k_ref3_back p l a=true):Goes (T_ref3_back p l a) (T0_ref3_back p l a) (v_ref3_back p l a):=by
 unfold k_ref3_back at hk
 rw[Bool.and_eq_true] at hk
 obtain ⟨hs,hsame⟩:=hk
 have hl:=same_iff.1 hsame
 have hN:=ofC_len hs
 rw[←hl] at hN
 have hfol:∀i k,i < l.length→k < l.length→k_ref3_follows p (accA l i) (accA l k)=true∧v_ref3_follows p (accA l i) (accA l k)=behB p l i k:=fun i k hi hk=>by
  rw[hl] at*
  exact follows_eq hs hi hk
 have hmk:((((Int.ofNat (List.length l))==(Int.ofNat (List.length l)))&&(decide ((0:Int)≤(Int.ofNat (List.length l)))))&&(decide (((Int.ofNat (List.length l))*(1:Int))≤(limit:Int))))=true:=by
  simp[limit];omega
 obtain ⟨n,hn⟩:∃n,l.length=n:=⟨_,rfl⟩
 have none:¬(0≤a∧a < (n:Int))→List.replicate n false=v_ref3_back p l a:=fun h=>by
  unfold v_ref3_back
  rw[hn,rowOf_none]
  exact rowOf_congr fun i _=>by rw[decide_eq_false h];rfl
 obtain ⟨T,hT⟩:∃T,T=T_ref3_back p l a:=⟨_,rfl⟩
 rw[←hT]
 unfold T0_ref3_back
 rw[hn] at hN hfol hmk ⊢
 rw[goes_br,if_pos hmk,goes_br]
 by_cases h0:a < 0
 ·rw[if_pos (decide_eq_true h0),none (fun h=>by omega)];exact .leaf
 rw[if_neg (by simpa using h0),goes_br]
 by_cases h1:a≥Int.ofNat n
 ·rw[if_pos (decide_eq_true h1),none (fun h=>by simp at h1;omega)];exact .leaf
 obtain ⟨a,rfl⟩:=Int.eq_ofNat_of_zero_le (show 0≤a by omega)
 have ha:a < n:=by simp at h1;omega
 rw[if_neg (by simpa using h1),goes_br,if_pos hmk]
 have hval:v_ref3_back p l (a:Int)=rowOf n (backB p l a):=by
  unfold v_ref3_back
  rw[hn]
  exact rowOf_congr fun i _=>by rw[decide_eq_true ⟨by omega,by omega⟩,Int.toNat_natCast];rfl
 rw[hval]
 have ea:List.getD l a (dflt T_api_Access)=accA l a:=rfl
 have nn:(List.length l)=n:=hn
 have out:Goes T (.jmp (.l31 (rowOf n (isB p l a)) (0:Int) (List.replicate n false))) (rowOf n (backB p l a)):=by
  have outer:∀i,i≤n→Goes T (.jmp (.l31 (rowOf n (isB p l a)) (i:Int) (rowOf n fun j=>decide (j < i)&&backB p l a j))) (rowOf n (backB p l a)):=by
   refine down ?_ fun i hi ih=>?_
   ·rw[goes_jmp,hT,T_ref3_back,←hT,goes_br,nn,if_neg (by simp)]
    rw[show (rowOf n fun j=>decide (j < n)&&backB p l a j)=rowOf n (backB p l a) from rowOf_congr fun j hj=>by rw[decide_eq_true hj];rfl]
    exact .leaf
   ·have inner:∀k,k≤n→thA l i=thA l a→Goes T (.jmp (.l36 (rowOf n (isB p l a)) (k:Int) (rowOf n fun j=>if j=i then (List.range k).any (fun q=>isB p l a q&&clB l q i) else decide (j < i)&&backB p l a j) (i:Int))) (rowOf n (backB p l a)):=by
     refine down ?_ fun k hk ih2=>?_
     ·intro ht
      rw[goes_jmp,hT,T_ref3_back,←hT,goes_br,nn,if_neg (by simp),wrap_succ (by omega)]
      rw[show (rowOf n fun j=>if j=i then (List.range n).any (fun q=>isB p l a q&&clB l q i) else decide (j < i)&&backB p l a j)=(rowOf n fun j=>decide (j < i+1)&&backB p l a j) from rowOf_congr fun j hj=>by
       by_cases e:j=i
       ·subst e
        rw[if_pos rfl,decide_eq_true (by omega),Bool.true_and]
        unfold backB
        rw[ht,beq_self_eq_true,Bool.true_and,hn]
       ·rw[if_neg e]
        by_cases e2:j < i
        ·rw[decide_eq_true e2,decide_eq_true (by omega)]
        ·rw[decide_eq_false e2,decide_eq_false (by omega)]]
      exact ih
     ·intro ht
      have hrow:∀M:Nat→Bool,List.getD (rowOf n M) i (dflt .bool)=M i:=fun M=>rowOf_getD hi
      have hrk:List.getD (rowOf n (isB p l a)) k (dflt .bool)=isB p l a k:=rowOf_getD hk
      have et:((accA l i).1==(accA l a).1)=true:=by show (thA l i==thA l a)=true;rw[ht];simp
      have ei:List.getD l i (dflt T_api_Access)=accA l i:=rfl
      have ek:List.getD l k (dflt T_api_Access)=accA l k:=rfl
      have lt1:∀ {x:Nat},x < n→decide ((x:Int) < Int.ofNat n)=true:=fun h=>decide_eq_true (by simpa using h)
      have key:∀b,b=((List.range (k+1)).any fun q=>isB p l a q&&clB l q i)→Goes T (.jmp (.l36 (rowOf n (isB p l a)) ((k+1:Nat):Int) ((rowOf n fun j=>if j=i then (List.range k).any (fun q=>isB p l a q&&clB l q i) else decide (j < i)&&backB p l a j).set i b) (i:Int))) (rowOf n (backB p l a)):=fun b hb=>by
       rw[rowOf_put,show (rowOf n fun j=>if j=i then b else if j=i then (List.range k).any (fun q=>isB p l a q&&clB l q i) else decide (j < i)&&backB p l a j)=(rowOf n fun j=>if j=i then (List.range (k+1)).any (fun q=>isB p l a q&&clB l q i) else decide (j < i)&&backB p l a j) from rowOf_congr fun j _=>by
        by_cases e:j=i
        ·rw[if_pos e,if_pos e,hb]
        ·rw[if_neg e,if_neg e,if_neg e]]
       exact ih2 ht
      rw[any_succ] at key
      rw[goes_jmp,hT,T_ref3_back,←hT]
      simp only[goes_br,nn,rowOf_length,lt1 hk,lt1 hi,lt1 ha,nng,Bool.and_self,if_true,Int.toNat_natCast,ei,ek,ea,et,hrow,hrk,refClash_eq,wrap_succ (k:=k) (by omega)]
      generalize hq:((List.range k).any fun q=>isB p l a q&&clB l q i)=q at*
      cases q with
      | true=>
       rw[if_pos rfl]
       exact key true (by simp)
      | false=>
       rw[if_neg (by decide)]
       cases hb:isB p l a k with
       | true=>
        rw[if_pos rfl]
        exact key _ (by rw[hb];simp)
       | false=>
        rw[if_neg (by decide)]
        exact key false (by rw[hb];simp)
    rw[goes_jmp,hT,T_ref3_back,←hT,goes_br,nn,if_pos (decide_eq_true (by simpa using hi))]
    by_cases ht:thA l i=thA l a
    ·have:=inner 0 (Nat.zero_le _) ht
     rw[show (rowOf n fun j=>if j=i then (List.range 0).any (fun q=>isB p l a q&&clB l q i) else decide (j < i)&&backB p l a j)=(rowOf n fun j=>decide (j < i)&&backB p l a j) from rowOf_congr fun j _=>by
      by_cases e:j=i
      ·subst e;simp
      ·rw[if_neg e]] at this
     exact this
    ·have lt1:∀ {x:Nat},x < n→decide ((x:Int) < Int.ofNat n)=true:=fun h=>decide_eq_true (by simpa using h)
     have et:((accA l i).1==(accA l a).1)=false:=by show (thA l i==thA l a)=false;simpa using ht
     have ei:List.getD l i (dflt T_api_Access)=accA l i:=rfl
     have hlt0:decide ((0:Int) < Int.ofNat n)=true:=decide_eq_true (by simp;omega)
     rw[goes_jmp,hT,T_ref3_back,←hT]
     simp only[goes_br,nn,hlt0,lt1 hi,lt1 ha,nng,Bool.and_self,if_true,Int.toNat_natCast,ei,ea,et,Bool.false_eq_true,if_false,wrap_succ (k:=i) (by omega)]
     rw[show (rowOf n fun j=>decide (j < i)&&backB p l a j)=(rowOf n fun j=>decide (j < i+1)&&backB p l a j) from rowOf_congr fun j _=>by
      by_cases e:j=i
      ·subst e
       have:backB p l a j=false:=by unfold backB;rw[show (thA l j==thA l a)=false by simpa using ht];rfl
       rw[this,Bool.and_false,Bool.and_false]
      ·by_cases e2:j < i
       ·rw[decide_eq_true e2,decide_eq_true (by omega)]
       ·rw[decide_eq_false e2,decide_eq_false (by omega)]]
     exact ih
  have:=outer 0 (Nat.zero_le _)
  rw[show (rowOf n fun j=>decide (j < 0)&&backB p l a j)=List.replicate n false from by
   rw[rowOf_none];exact rowOf_congr fun j _=>by simp] at this
  exact this
 let OK:(Nat→Bool)→(Nat→Bool)→Bool→Prop:=fun M0 M moved=>(∀j,chS l a j=true→M j=true)∧(∀j,M j=true→Come (chB p l a) (chS l a) j)∧(moved=false→M=M0)∧(moved=true→card n M0 < card n M)
 have lt1:∀ {x:Nat},x < n→decide ((x:Int) < Int.ofNat n)=true:=fun h=>decide_eq_true (by simpa using h)
 have hMlt:∀ {M:Nat→Bool},(∀j,M j=true→Come (chB p l a) (chS l a) j)→∀j,M j=true→j < n:=fun h j hj=>by
  have:=is_lt (p:=p) (l:=l) (a:=a) (comeB_iff.2 (h j hj))
  omega
 have loop:∀m,∀M:Nat→Bool,n - card n M=m→(∀j,chS l a j=true→M j=true)→(∀j,M j=true→Come (chB p l a) (chS l a) j)→Goes T (.jmp (.l14 (rowOf n M) true)) (rowOf n (backB p l a)):=by
  intro m
  induction m using Nat.strongRecOn with
  | _ m ih=>
  intro M0 hm hA hC
  have inner:∀i,i < n→∀Z:Prop,(∀M moved,OK M0 M moved→(moved=false→Z∧(M0 i=true→∀j,chB p l a i j=true→M0 j=true))→Goes T (.jmp (.l19 (rowOf n M) ((i+1:Nat):Int) moved)) (rowOf n (backB p l a)))→
    ∀k,k≤n→∀M moved,OK M0 M moved→(moved=false→Z∧∀x,x < k→M0 i=true→chB p l a i x=true→M0 x=true)→Goes T (.jmp (.l24 (rowOf n M) moved (k:Int) (i:Int))) (rowOf n (backB p l a)):=by
   intro i hi Z hz
   refine down ?_ fun k hk ih2=>?_
   ·intro M moved hok hcl
    rw[goes_jmp,hT,T_ref3_back,←hT,goes_br,nn,if_neg (by simp),wrap_succ (by omega)]
    refine hz M moved hok fun hm=>⟨(hcl hm).1,fun h1 j hj=>(hcl hm).2 j ?_ h1 hj⟩
    unfold chB at hj
    simp only[Bool.and_eq_true,decide_eq_true_eq] at hj
    omega
   ·intro M moved hok hcl
    obtain ⟨f1,f2⟩:=hfol i k hi hk
    have hri:List.getD (rowOf n M) i (dflt .bool)=M i:=rowOf_getD hi
    have hrk:List.getD (rowOf n M) k (dflt .bool)=M k:=rowOf_getD hk
    have ei:List.getD l i (dflt T_api_Access)=accA l i:=rfl
    have ek:List.getD l k (dflt T_api_Access)=accA l k:=rfl
    have tk:(accA l k).1=thA l k:=rfl
    have ta:(accA l a).1=thA l a:=rfl
    rw[goes_jmp,hT,T_ref3_back,←hT]
    simp only[goes_br,nn,rowOf_length,lt1 hk,lt1 hi,lt1 ha,nng,Bool.and_self,if_true,Int.toNat_natCast,ei,ek,ea,hri,hrk,refClash_eq,f1,f2,tk,ta,wrap_succ (k:=k) (by omega),wrap_succ (k:=i) (by omega)]
    cases hMi:M i with
    | false=>
     rw[if_neg (by decide)]
     refine hz M moved hok fun hm=>⟨(hcl hm).1,fun h1=>?_⟩
     rw[←hok.2.2.1 hm,hMi] at h1;cases h1
    | true=>
     rw[if_pos rfl]
     cases hMk:M k with
     | true=>
      rw[if_neg (by decide)]
      refine ih2 M moved hok fun hm=>⟨(hcl hm).1,fun x hx h1 h2=>?_⟩
      by_cases e:x=k
      ·subst e;rw[←hok.2.2.1 hm];exact hMk
      ·exact (hcl hm).2 x (by omega) h1 h2
     | false=>
      rw[if_pos (by decide)]
      have skip:chB p l a i k=false→Goes T (.jmp (.l24 (rowOf n M) moved ((k+1:Nat):Int) (i:Int))) (rowOf n (backB p l a)):=fun hc=>ih2 M moved hok fun hm=>⟨(hcl hm).1,fun x hx h1 h2=>by
       by_cases e:x=k
       ·subst e;rw[hc] at h2;cases h2
       ·exact (hcl hm).2 x (by omega) h1 h2⟩
      have set:chB p l a i k=true→Goes T (.jmp (.l24 ((rowOf n M).set k true) true ((k+1:Nat):Int) (i:Int))) (rowOf n (backB p l a)):=fun hc=>by
       have hca:=card_add hMk hk
       rw[rowOf_set]
       refine ih2 _ true ⟨fun x hx=>(show (M x || (x==k))=true by rw[hok.1 x hx];rfl),fun x hx=>?_,fun h=>(by cases h),fun _=>?_⟩ (fun h=>by cases h)
       ·simp only[Bool.or_eq_true,beq_iff_eq] at hx
        rcases hx with hx | hx
        ·exact hok.2.1 x hx
        ·subst hx;exact .step (hok.2.1 i hMi) hc
       ·cases moved with
        | true=>have:=hok.2.2.2 rfl;omega
        | false=>rw[hok.2.2.1 rfl] at hca;rw[hok.2.2.1 rfl];omega
      have hce:chB p l a i k=(!(thA l k==thA l a)&&(clB l i k || behB p l i k)):=by unfold chB;rw[hn,decide_eq_true hk,Bool.true_and]
      by_cases c1:thA l k=thA l a
      ·rw[if_neg (by simp[c1])]
       exact skip (by rw[hce];simp[c1])
      ·rw[if_pos (by simpa using c1)]
       have c1b:(thA l k==thA l a)=false:=by simpa using c1
       rw[c1b] at hce
       cases c2:clB l i k with
       | true=>
        rw[if_pos rfl]
        exact set (by rw[hce,c2];rfl)
       | false=>
        rw[if_neg (by decide)]
        cases c3:behB p l i k with
        | true=>
         rw[if_pos rfl]
         exact set (by rw[hce,c2,c3];rfl)
        | false=>
         rw[if_neg (by decide)]
         exact skip (by rw[hce,c2,c3];rfl)
  have pass:∀i,i≤n→∀M moved,OK M0 M moved→(moved=false→∀i' j,i' < i→M0 i'=true→chB p l a i' j=true→M0 j=true)→Goes T (.jmp (.l19 (rowOf n M) (i:Int) moved)) (rowOf n (backB p l a)):=by
   refine down ?_ fun i hi ih2=>?_
   ·intro M moved hok hcl
    rw[goes_jmp,hT,T_ref3_back,←hT,goes_br,nn,if_neg (by simp)]
    cases moved with
    | true=>
     have h1:=hok.2.2.2 rfl
     have h2:= @card_le n M
     exact ih (n - card n M) (by omega) M rfl hok.1 hok.2.1
    | false=>
     have e:=hok.2.2.1 rfl
     subst e
     rw[goes_jmp,hT,T_ref3_back,←hT,goes_br,if_neg (by decide),nn]
     rw[show rowOf n M=rowOf n (isB p l a) from rowOf_congr fun j _=>comeB_eq hok.1 (fun k j hk hj=>hcl rfl k j (hMlt hok.2.1 k hk) hk hj) hok.2.1 j]
     exact out
   ·intro M moved hok hcl
    rw[goes_jmp,hT,T_ref3_back,←hT,goes_br,nn,if_pos (lt1 hi)]
    refine inner i hi (∀i' j,i' < i→M0 i'=true→chB p l a i' j=true→M0 j=true) (fun M' moved' hok' hcl'=>ih2 M' moved' hok' fun hm i' j hi' h1 hj=>?_) 0 (Nat.zero_le _) M moved hok (fun hm=>⟨hcl hm,fun x hx=>by omega⟩)
    by_cases e:i'=i
    ·subst e;exact (hcl' hm).2 h1 j hj
    ·exact (hcl' hm).1 i' j (by omega) h1 hj
  rw[goes_jmp,hT,T_ref3_back,←hT,goes_br,if_pos rfl]
  exact pass 0 (Nat.zero_le _) M0 false ⟨hA,hC,fun _=>rfl,fun h=>by cases h⟩ fun _ i' j h=>by omega
 have start:∀i,i≤n→Goes T (.jmp (.l8 (i:Int) (rowOf n fun j=>decide (j < i)&&chS l a j))) (rowOf n (backB p l a)):=by
  refine down ?_ fun i hi ih=>?_
  ·rw[goes_jmp,hT,T_ref3_back,←hT,goes_br,nn,if_neg (by simp)]
   rw[show (rowOf n fun j=>decide (j < n)&&chS l a j)=rowOf n (chS l a) from rowOf_congr fun j hj=>by rw[decide_eq_true hj];rfl]
   exact loop _ (chS l a) rfl (fun j h=>h) (fun j h=>.start h)
  ·have ei:List.getD l i (dflt T_api_Access)=accA l i:=rfl
   rw[goes_jmp,hT,T_ref3_back,←hT]
   simp only[goes_br,nn,rowOf_length,lt1 hi,lt1 ha,nng,Bool.and_self,if_true,Int.toNat_natCast,ei,ea,refClash_eq,wrap_succ (k:=i) (by omega)]
   rw[rowOf_put,show (rowOf n fun j=>if j=i then clB l a i else decide (j < i)&&chS l a j)=(rowOf n fun j=>decide (j < i+1)&&chS l a j) from rowOf_congr fun j hj=>by
    by_cases e:j=i
    ·subst e
     rw[if_pos rfl,decide_eq_true (by omega),Bool.true_and]
     unfold chS
     rw[hn,decide_eq_true hj,Bool.true_and]
    ·rw[if_neg e]
     by_cases e2:j < i
     ·rw[decide_eq_true e2,decide_eq_true (by omega)]
     ·rw[decide_eq_false e2,decide_eq_false (by omega)]]
   exact ih
 have:=start 0 (Nat.zero_le _)
 rw[show (rowOf n fun j=>decide (j < 0)&&chS l a j)=List.replicate n false from by
  rw[rowOf_none];exact rowOf_congr fun j _=>by simp] at this
 exact this
end Go.Ev
end

section
open Go Go.Ev
namespace Go.Ev
noncomputable section
noncomputable def e_ref3_back:Run:=entG sg_ref3_back R_ref3_back (fun a=>k_ref3_back a.1 a.2.1 a.2.2.1) (fun a=>v_ref3_back a.1 a.2.1 a.2.2.1)
theorem ok_ref3_back:EntOK Go.Proofs.Tryz.prog 48 e_ref3_back:=entG_ok (tb:=tb_ref3_back) (c:=c_ref3_back) tk_ref3_back (by kernel_rfl) (by kernel_rfl) (by kernel_rfl) (fun a=>by kernel_rfl) fun ⟨p,l,a,_⟩ hk=>evF_goes (c:=c_ref3_back) (K:=fun v=>(R_ref3_back v,tps (toForms sg_ref3_back (p,l,a,())))) (S:=S_ref3_back p l a) (by kernel_rfl) (en_ref3_back p l a) (lp_ref3_back p l a) (g_ref3_back p l a hk)
end
end Go.Ev
end

section
open Go Go.Ev
namespace Go.Ev
noncomputable section
def sg_ref3_Delays:Sig:=[(true,T_api_Prog)]
noncomputable def t_ref3_Delays:Tbl:=[(17,e_ref3_Accesses),(49,e_ref3_from),(48,e_ref3_back)]
theorem tk_ref3_Delays:∀p∈t_ref3_Delays,EntOK Go.Proofs.Tryz.prog p.1 p.2:=tbl_cons ok_ref3_Accesses (tbl_cons ok_ref3_from (tbl_cons ok_ref3_back (tbl_nil)))
noncomputable def c_ref3_Delays:Code:=Go.Proofs.Tryz.f26.body.getD .skip
def tb_ref3_Delays:Tb:=[(5,⟨[1,3,4,5],[(5,104)]⟩),(13,⟨[1,3,4,5,6,7],[(5,104)]⟩)]
inductive J_ref3_Delays where | l5 (s:Int) (out:List (El T_api_Pair)) | l13 (behind:List Bool) (s:Int) (r:Int) (out:List (El T_api_Pair))
def T_ref3_Delays (p:El T_api_Prog):J_ref3_Delays→JT J_ref3_Delays (List (El T_api_Pair)) |.l5 s out=>.br (decide (s < (Int.ofNat (List.length (v_ref3_Accesses p))))) (.br ((decide ((0:Int)≤s))&&(decide (s < (Int.ofNat (List.length (v_ref3_Accesses p)))))) (.br (! (List.getD (v_ref3_Accesses p) (Int.toNat s) (dflt T_api_Access)).2.2.2.2.1) (.jmp (.l5 (IntKind.i64.wrap (s+(1:Int))) out)) (.br ((decide ((0:Int)≤s))&&(decide (s < (Int.ofNat (List.length (v_ref3_Accesses p)))))) (.br (List.getD (v_ref3_Accesses p) (Int.toNat s) (dflt T_api_Access)).2.2.2.2.2 (.jmp (.l5 (IntKind.i64.wrap (s+(1:Int))) out)) (.br ((decide ((0:Int)≤s))&&(decide (s < (Int.ofNat (List.length (v_ref3_Accesses p)))))) (.br ((decide ((0:Int)≤(List.getD (v_ref3_Accesses p) (Int.toNat s) (dflt T_api_Access)).1))&&(decide ((List.getD (v_ref3_Accesses p) (Int.toNat s) (dflt T_api_Access)).1 < (Int.ofNat (List.length p.2))))) (.br ((decide ((0:Int)≤s))&&(decide (s < (Int.ofNat (List.length (v_ref3_Accesses p)))))) (.br (k_ref3_from (List.getD p.2 (Int.toNat (List.getD (v_ref3_Accesses p) (Int.toNat s) (dflt T_api_Access)).1) (dflt (.sl T_api_Ins))) (List.getD (v_ref3_Accesses p) (Int.toNat s) (dflt T_api_Access)).2.1) (.jmp (.l13 (v_ref3_from (List.getD p.2 (Int.toNat (List.getD (v_ref3_Accesses p) (Int.toNat s) (dflt T_api_Access)).1) (dflt (.sl T_api_Ins))) (List.getD (v_ref3_Accesses p) (Int.toNat s) (dflt T_api_Access)).2.1) s (0:Int) out)) (.no)) (.no)) (.no)) (.no))) (.no))) (.no)) (.leaf out) |.l13 behind s r out=>.br (decide (r < (Int.ofNat (List.length (v_ref3_Accesses p))))) (.br ((decide ((0:Int)≤r))&&(decide (r < (Int.ofNat (List.length (v_ref3_Accesses p)))))) (.br ((decide ((0:Int)≤s))&&(decide (s < (Int.ofNat (List.length (v_ref3_Accesses p)))))) (.br ((List.getD (v_ref3_Accesses p) (Int.toNat r) (dflt T_api_Access)).1==(List.getD (v_ref3_Accesses p) (Int.toNat s) (dflt T_api_Access)).1) (.br ((decide ((0:Int)≤r))&&(decide (r < (Int.ofNat (List.length (v_ref3_Accesses p)))))) (.br (! (List.getD (v_ref3_Accesses p) (Int.toNat r) (dflt T_api_Access)).2.2.2.2.1) (.br ((decide ((0:Int)≤r))&&(decide (r < (Int.ofNat (List.length (v_ref3_Accesses p)))))) (.br (! (List.getD (v_ref3_Accesses p) (Int.toNat r) (dflt T_api_Access)).2.2.2.2.2) (.br ((decide ((0:Int)≤r))&&(decide (r < (Int.ofNat (List.length (v_ref3_Accesses p)))))) (.br ((decide ((0:Int)≤(List.getD (v_ref3_Accesses p) (Int.toNat r) (dflt T_api_Access)).2.1))&&(decide ((List.getD (v_ref3_Accesses p) (Int.toNat r) (dflt T_api_Access)).2.1 < (Int.ofNat (List.length behind))))) (.br (List.getD behind (Int.toNat (List.getD (v_ref3_Accesses p) (Int.toNat r) (dflt T_api_Access)).2.1) (dflt .bool)) (.br (k_ref3_back p (v_ref3_Accesses p) r) (.br ((decide ((0:Int)≤s))&&(decide (s < (Int.ofNat (List.length (v_ref3_back p (v_ref3_Accesses p) r)))))) (.br (List.getD (v_ref3_back p (v_ref3_Accesses p) r) (Int.toNat s) (dflt .bool)) (.br ((decide ((0:Int)≤s))&&(decide (s < (Int.ofNat (List.length (v_ref3_Accesses p)))))) (.br ((decide ((0:Int)≤s))&&(decide (s < (Int.ofNat (List.length (v_ref3_Accesses p)))))) (.br ((decide ((0:Int)≤r))&&(decide (r < (Int.ofNat (List.length (v_ref3_Accesses p)))))) (.br (Nat.ble (((List.length out)+1)*24) limit) (.jmp (.l13 behind s (IntKind.i64.wrap (r+(1:Int))) (out++[((List.getD (v_ref3_Accesses p) (Int.toNat s) (dflt T_api_Access)).1,((List.getD (v_ref3_Accesses p) (Int.toNat s) (dflt T_api_Access)).2.1,(List.getD (v_ref3_Accesses p) (Int.toNat r) (dflt T_api_Access)).2.1))]))) (.no)) (.no)) (.no)) (.no)) (.jmp (.l13 behind s (IntKind.i64.wrap (r+(1:Int))) out))) (.no)) (.no)) (.jmp (.l13 behind s (IntKind.i64.wrap (r+(1:Int))) out))) (.no)) (.no)) (.jmp (.l13 behind s (IntKind.i64.wrap (r+(1:Int))) out))) (.no)) (.jmp (.l13 behind s (IntKind.i64.wrap (r+(1:Int))) out))) (.no)) (.jmp (.l13 behind s (IntKind.i64.wrap (r+(1:Int))) out))) (.no)) (.no)) (.jmp (.l5 (IntKind.i64.wrap (s+(1:Int))) out))
def T0_ref3_Delays (p:El T_api_Prog):JT J_ref3_Delays (List (El T_api_Pair)):=.br (k_ref3_Accesses p) (.jmp (.l5 (0:Int) [])) (.no)
def R_ref3_Delays:List (El T_api_Pair)→AV:=fun (r:List (El T_api_Pair))=>.rw 56 T_api_Pair r
def S_ref3_Delays (p:El T_api_Prog):J_ref3_Delays→Nat×St |.l5 s out=>(5,⟨mkTm 116 [(1,.pt 2 0 0),(3,.own 4 0 none),(4,.own 5 0 none),(5,.d (.int .i64) s)],[(2,0,.box 26 [.d (.sl T_api_Sym) p.1,.d (.sl (.sl T_api_Ins)) p.2] none),(4,0,.row 43 T_api_Access (v_ref3_Accesses p) false),(5,0,.row 56 T_api_Pair out false)]⟩) |.l13 behind s r out=>(13,⟨mkTm 116 [(1,.pt 2 0 0),(3,.own 4 0 none),(4,.own 5 0 none),(5,.d (.int .i64) s),(6,.own 7 0 none),(7,.d (.int .i64) r)],[(2,0,.box 26 [.d (.sl T_api_Sym) p.1,.d (.sl (.sl T_api_Ins)) p.2] none),(4,0,.row 43 T_api_Access (v_ref3_Accesses p) false),(5,0,.row 56 T_api_Pair out false),(7,0,.row 4 .bool behind false)]⟩)
theorem en_ref3_Delays (p:El T_api_Prog) (L:Lt):entryA Go.Proofs.Tryz.prog (clOf t_ref3_Delays) tb_ref3_Delays Go.Proofs.Tryz.f26 c_ref3_Delays L (toForms sg_ref3_Delays (p,()))=(T0_ref3_Delays p).run (fun v=>some (R_ref3_Delays v,tps (toForms sg_ref3_Delays (p,())))) fun j=>L (S_ref3_Delays p j).1 (S_ref3_Delays p j).2:=by kernel_rfl
theorem lp_ref3_Delays (p:El T_api_Prog):∀(L:Lt) (j:J_ref3_Delays),procOf (procsF Go.Proofs.Tryz.prog (clOf t_ref3_Delays) tb_ref3_Delays Go.Proofs.Tryz.f26 c_ref3_Delays (toForms sg_ref3_Delays (p,()))) (S_ref3_Delays p j).1 L (S_ref3_Delays p j).2=(T_ref3_Delays p j).run (fun v=>some (R_ref3_Delays v,tps (toForms sg_ref3_Delays (p,())))) fun j=>L (S_ref3_Delays p j).1 (S_ref3_Delays p j).2 | L,.l5 s out=>by kernel_rfl | L,.l13 behind s r out=>by kernel_rfl
end
end Go.Ev
end

section
open Go
namespace Go.Ev
def stB' (l:List Acc) (s:Nat):Bool:=(accA l s).2.2.2.2.1&& ! (accA l s).2.2.2.2.2
def ldB' (l:List Acc) (s:Nat):Bool:=! (accA l s).2.2.2.2.1&& ! (accA l s).2.2.2.2.2
noncomputable def delB (p:El T_api_Prog) (l:List Acc) (s r:Nat):Bool:=((thA l r==thA l s)&&ldB' l r)&&(fromB (thrOf p l s) (inA l s) (inA l r).toNat&&backB p l r s)
def delPair (l:List Acc) (s r:Nat):El T_api_Pair:=(thA l s,(inA l s,inA l r))
noncomputable def delS (p:El T_api_Prog) (l:List Acc) (s:Nat):List (El T_api_Pair):=if stB' l s then ((List.range' 0 l.length).filter fun r=>delB p l s r).map (delPair l s) else []
noncomputable def delsFrom (p:El T_api_Prog) (l:List Acc) (s:Nat):List (El T_api_Pair):=(List.range' s (l.length - s)).flatMap (delS p l)
noncomputable def v_ref3_Delays (p:El T_api_Prog):List (El T_api_Pair):=delsFrom p (ofC p) 0
def k_ref3_Delays (p:El T_api_Prog):Bool:=smallAll p&&decide ((ofC p).length < 1000000)
theorem delS_len (p:El T_api_Prog) (l:List Acc) (s:Nat):(delS p l s).length≤l.length:=by
 unfold delS
 split
 ·rw[List.length_map]
  have:=List.length_filter_le (fun r=>delB p l s r) (List.range' 0 l.length)
  rw[List.length_range'] at this
  exact this
 ·exact Nat.zero_le _
theorem g_ref3_Delays (p:El T_api_Prog) (hk:k_ref3_Delays p=true):Goes (T_ref3_Delays p) (T0_ref3_Delays p) (v_ref3_Delays p):=by
 unfold k_ref3_Delays at hk
 rw[Bool.and_eq_true] at hk
 obtain ⟨hs,hN⟩:=hk
 have hN:=of_decide_eq_true hN
 have kt:k_ref3_Accesses p=true:=hs
 have vt:v_ref3_Accesses p=ofC p:=rfl
 have facts:=fun i=>acc_facts (i:=i) hs
 have same_th:∀i k,thA (ofC p) k=thA (ofC p) i→thrOf p (ofC p) k=thrOf p (ofC p) i:=fun i k h=>by unfold thrOf;rw[h]
 have kb:∀r,k_ref3_back p (ofC p) r=true:=fun r=>by unfold k_ref3_back;rw[hs,same_iff.2 rfl];rfl
 have vb:∀r:Nat,r < (ofC p).length→v_ref3_back p (ofC p) (r:Int)=rowOf (ofC p).length fun b=>backB p (ofC p) r b:=fun r hr=>by
  unfold v_ref3_back
  rw[Int.toNat_natCast]
  exact rowOf_congr fun i _=>by rw[decide_eq_true ⟨Int.natCast_nonneg r,Int.ofNat_lt.2 hr⟩,Bool.true_and]
 obtain ⟨l,hl⟩:∃l,ofC p=l:=⟨_,rfl⟩
 rw[hl] at hN vt facts kb vb same_th
 have outer:∀s,s≤l.length→∀out:List (El T_api_Pair),out.length≤s*l.length→Goes (T_ref3_Delays p) (.jmp (.l5 (s:Int) out)) (out++delsFrom p l s):=by
  refine down ?_ fun s hsl ih=>?_
  ·intro out ho
   rw[goes_jmp,T_ref3_Delays,vt,goes_br,if_neg (by rw[lt_len_not (Nat.lt_irrefl _)];decide)]
   unfold delsFrom
   rw[Nat.sub_self]
   simp only[List.range'_zero,List.flatMap_nil,List.append_nil]
   exact .leaf
  ·intro out ho
   have e:delsFrom p l s=delS p l s++delsFrom p l (s+1):=by
    unfold delsFrom
    rw[show l.length - s=(l.length - (s+1))+1 by omega,List.range'_succ,List.flatMap_cons]
   have ga:List.getD l s (dflt T_api_Access)=accA l s:=rfl
   have goon:∀o2,o2=out++delS p l s→Goes (T_ref3_Delays p) (.jmp (.l5 (((s+1:Nat)):Int) o2)) (out++delsFrom p l s):=fun o2 ho2=>by
    have:=ih (out++delS p l s) (by
     rw[List.length_append]
     have:=delS_len p l s
     rw[Nat.add_mul];omega)
    rw[e,←List.append_assoc,ho2]
    exact this
   rw[goes_jmp,T_ref3_Delays,vt]
   simp only[goes_br,lt_len hsl,nng,Bool.and_self,if_true,Int.toNat_natCast,ga,wrap_succ (k:=s) (by omega)]
   by_cases c1:(! (accA l s).2.2.2.2.1)=true
   ·rw[if_pos c1]
    refine goon out ?_
    unfold delS stB'
    rw[if_neg (by rw[Bool.not_eq_true'] at c1;rw[c1,Bool.false_and];exact Bool.false_ne_true),List.append_nil]
   rw[if_neg c1]
   by_cases c2:(accA l s).2.2.2.2.2=true
   ·rw[if_pos c2]
    refine goon out ?_
    unfold delS stB'
    rw[if_neg (by rw[c2];simp),List.append_nil]
   rw[if_neg c2]
   have hst:stB' l s=true:=by
    unfold stB'
    cases h1:(accA l s).2.2.2.2.1 <;> cases h2:(accA l s).2.2.2.2.2 <;> simp_all
   have hdel:delS p l s=((List.range' 0 l.length).filter fun r=>delB p l s r).map (delPair l s):=by unfold delS;rw[if_pos hst]
   obtain ⟨t0,t1,hf,i0,i1⟩:=facts s hsl
   have hth:(decide ((0:Int)≤(accA l s).1)&&decide ((accA l s).1 < Int.ofNat p.2.length))=true:=by
    rw[Bool.and_eq_true,decide_eq_true_eq,decide_eq_true_eq];exact ⟨t0,t1⟩
   have kf:k_ref3_from (List.getD p.2 (Int.toNat (accA l s).1) (dflt (.sl T_api_Ins))) (accA l s).2.1=true:=hf
   have vf:v_ref3_from (List.getD p.2 (Int.toNat (accA l s).1) (dflt (.sl T_api_Ins))) (accA l s).2.1=rowOf (thrOf p l s).length (fromB (thrOf p l s) (inA l s)):=rfl
   rw[if_pos hth,if_pos kf,vf]
   have inner:∀r,r≤l.length→∀o2:List (El T_api_Pair),o2.length≤s*l.length+r→o2++((List.range' r (l.length - r)).filter fun r=>delB p l s r).map (delPair l s)=out++delS p l s→
     Goes (T_ref3_Delays p) (.jmp (.l13 (rowOf (thrOf p l s).length (fromB (thrOf p l s) (inA l s))) (s:Int) (r:Int) o2)) (out++delsFrom p l s):=by
    refine down ?_ fun r hr ih2=>?_
    ·intro o2 ho2 he
     rw[goes_jmp,T_ref3_Delays,vt,goes_br,if_neg (by rw[lt_len_not (Nat.lt_irrefl _)];decide),wrap_succ (by omega)]
     rw[Nat.sub_self] at he
     simp only[List.range'_zero,List.filter_nil,List.map_nil,List.append_nil] at he
     exact goon o2 he
    ·intro o2 ho2 he
     have hprod:s*l.length≤1000000*1000000:=Nat.mul_le_mul (by omega) (by omega)
     have b1:Nat.ble ((o2.length+1)*24) limit=true:=Nat.ble_eq_true_of_le (by unfold limit;omega)
     have gr:List.getD l r (dflt T_api_Access)=accA l r:=rfl
     rw[show l.length - r=(l.length - (r+1))+1 by omega,List.range'_succ,List.filter_cons] at he
     have next:∀o3,delB p l s r=false→o3=o2→Goes (T_ref3_Delays p) (.jmp (.l13 (rowOf (thrOf p l s).length (fromB (thrOf p l s) (inA l s))) (s:Int) ((r+1:Nat):Int) o3)) (out++delsFrom p l s):=fun o3 hd h3=>by
      subst h3
      rw[if_neg (by rw[hd];decide)] at he
      exact ih2 o3 (by omega) he
     rw[goes_jmp,T_ref3_Delays,vt]
     simp only[goes_br,lt_len hr,lt_len hsl,nng,Bool.and_self,if_true,Int.toNat_natCast,ga,gr,b1,wrap_succ (k:=r) (by omega)]
     by_cases d1:((accA l r).1==(accA l s).1)=true
     ·rw[if_pos d1]
      by_cases d2:(! (accA l r).2.2.2.2.1)=true
      ·rw[if_pos d2]
       by_cases d3:(! (accA l r).2.2.2.2.2)=true
       ·rw[if_pos d3]
        have eth:thA l r=thA l s:=by simpa[thA] using d1
        obtain ⟨_,_,_,j0,j1⟩:=facts r hr
        rw[same_th s r eth] at j1
        have hin:(decide ((0:Int)≤(accA l r).2.1)&&decide ((accA l r).2.1 < Int.ofNat (rowOf (thrOf p l s).length (fromB (thrOf p l s) (inA l s))).length))=true:=by
         rw[rowOf_length,Bool.and_eq_true,decide_eq_true_eq,decide_eq_true_eq];exact ⟨j0,j1⟩
        have hin':(inA l r).toNat < (thrOf p l s).length:=by omega
        have hg:List.getD (rowOf (thrOf p l s).length (fromB (thrOf p l s) (inA l s))) (Int.toNat (accA l r).2.1) (dflt .bool)=fromB (thrOf p l s) (inA l s) (inA l r).toNat:=rowOf_getD hin'
        rw[if_pos hin,hg]
        have hld:ldB' l r=true:=by unfold ldB';rw[d2,d3];rfl
        have hdb:delB p l s r=(fromB (thrOf p l s) (inA l s) (inA l r).toNat&&backB p l r s):=by
         unfold delB
         rw[hld,show (thA l r==thA l s)=true from d1];rfl
        by_cases d4:fromB (thrOf p l s) (inA l s) (inA l r).toNat=true
        ·rw[if_pos d4,if_pos (kb (r:Int)),vb r hr,rowOf_length,Bool.true_and,if_pos (lt_len hsl),rowOf_getD hsl]
         by_cases d5:backB p l r s=true
         ·rw[if_pos d5]
          rw[if_pos (by rw[hdb,d4,d5];rfl)] at he
          exact ih2 _ (by simp;omega) (by rw[List.append_assoc];exact he)
         ·rw[if_neg d5]
          exact next _ (by rw[hdb];simp[d5]) rfl
        ·rw[if_neg d4]
         exact next _ (by rw[hdb];simp[d4]) rfl
       ·rw[if_neg d3]
        exact next _ (by unfold delB ldB';simp at d3;simp[d3]) rfl
      ·rw[if_neg d2]
       exact next _ (by unfold delB ldB';simp at d2;simp[d2]) rfl
     ·rw[if_neg d1]
      exact next _ (by unfold delB thA;simp at d1;simp[d1]) rfl
   exact inner 0 (Nat.zero_le _) out (by omega) (by rw[hdel];rfl)
 have:=outer 0 (Nat.zero_le _) [] (Nat.zero_le _)
 unfold T0_ref3_Delays v_ref3_Delays
 rw[goes_br,if_pos kt,hl]
 exact this
end Go.Ev
end

section
open Go Go.Ev
namespace Go.Ev
noncomputable section
noncomputable def e_ref3_Delays:Run:=entG sg_ref3_Delays R_ref3_Delays (fun a=>k_ref3_Delays a.1) (fun a=>v_ref3_Delays a.1)
theorem ok_ref3_Delays:EntOK Go.Proofs.Tryz.prog 26 e_ref3_Delays:=entG_ok (tb:=tb_ref3_Delays) (c:=c_ref3_Delays) tk_ref3_Delays (by kernel_rfl) (by kernel_rfl) (by kernel_rfl) (fun a=>by kernel_rfl) fun ⟨p,_⟩ hk=>evF_goes (c:=c_ref3_Delays) (K:=fun v=>(R_ref3_Delays v,tps (toForms sg_ref3_Delays (p,())))) (S:=S_ref3_Delays p) (by kernel_rfl) (en_ref3_Delays p) (lp_ref3_Delays p) (g_ref3_Delays p hk)
end
end Go.Ev
end

section
open Go Go.Ev
namespace Go.Ev
noncomputable section
def sg_book_SamePairs:Sig:=[(false,(.sl T_api_Pair)),(false,(.sl T_api_Pair))]
noncomputable def t_book_SamePairs:Tbl:=[]
theorem tk_book_SamePairs:∀p∈t_book_SamePairs,EntOK Go.Proofs.Tryz.prog p.1 p.2:=tbl_nil
noncomputable def c_book_SamePairs:Code:=Go.Proofs.Tryz.f24.body.getD .skip
def tb_book_SamePairs:Tb:=[(6,⟨[0,1,5],[]⟩)]
inductive J_book_SamePairs where | l6 (i:Int)
def T_book_SamePairs (a:List (El T_api_Pair)) (b:List (El T_api_Pair)):J_book_SamePairs→JT J_book_SamePairs (Bool) |.l6 i=>.br (decide (i < (Int.ofNat (List.length a)))) (.br ((decide ((0:Int)≤i))&&(decide (i < (Int.ofNat (List.length a))))) (.br ((decide ((0:Int)≤i))&&(decide (i < (Int.ofNat (List.length b))))) (.br (! (((List.getD a (Int.toNat i) (dflt T_api_Pair)).1==(List.getD b (Int.toNat i) (dflt T_api_Pair)).1)&&(((List.getD a (Int.toNat i) (dflt T_api_Pair)).2.1==(List.getD b (Int.toNat i) (dflt T_api_Pair)).2.1)&&((List.getD a (Int.toNat i) (dflt T_api_Pair)).2.2==(List.getD b (Int.toNat i) (dflt T_api_Pair)).2.2)))) (.leaf false) (.jmp (.l6 (IntKind.i64.wrap (i+(1:Int)))))) (.no)) (.no)) (.leaf true)
def T0_book_SamePairs (a:List (El T_api_Pair)) (b:List (El T_api_Pair)):JT J_book_SamePairs (Bool):=.br ((Int.ofNat (List.length a)) !=(Int.ofNat (List.length b))) (.leaf false) (.jmp (.l6 (0:Int)))
def R_book_SamePairs:Bool→AV:=fun (r:Bool)=>.d .bool r
def S_book_SamePairs (a:List (El T_api_Pair)) (b:List (El T_api_Pair)):J_book_SamePairs→Nat×St |.l6 i=>(6,⟨mkTm 26 [(0,.d (.sl T_api_Pair) a),(1,.d (.sl T_api_Pair) b),(5,.d (.int .i64) i)],[]⟩)
theorem en_book_SamePairs (a:List (El T_api_Pair)) (b:List (El T_api_Pair)) (L:Lt):entryA Go.Proofs.Tryz.prog (clOf t_book_SamePairs) tb_book_SamePairs Go.Proofs.Tryz.f24 c_book_SamePairs L (toForms sg_book_SamePairs (a,b,()))=(T0_book_SamePairs a b).run (fun v=>some (R_book_SamePairs v,tps (toForms sg_book_SamePairs (a,b,())))) fun j=>L (S_book_SamePairs a b j).1 (S_book_SamePairs a b j).2:=by kernel_rfl
theorem lp_book_SamePairs (a:List (El T_api_Pair)) (b:List (El T_api_Pair)):∀(L:Lt) (j:J_book_SamePairs),procOf (procsF Go.Proofs.Tryz.prog (clOf t_book_SamePairs) tb_book_SamePairs Go.Proofs.Tryz.f24 c_book_SamePairs (toForms sg_book_SamePairs (a,b,()))) (S_book_SamePairs a b j).1 L (S_book_SamePairs a b j).2=(T_book_SamePairs a b j).run (fun v=>some (R_book_SamePairs v,tps (toForms sg_book_SamePairs (a,b,())))) fun j=>L (S_book_SamePairs a b j).1 (S_book_SamePairs a b j).2 | L,.l6 i=>by kernel_rfl
end
end Go.Ev
end

section
open Go
namespace Go.Ev
theorem pairB_eq {a b:El T_api_Pair} :(a.1==b.1&&(a.2.1==b.2.1&&a.2.2==b.2.2))=decide (a=b):=by
 obtain ⟨a1,a2,a3⟩:=a
 obtain ⟨b1,b2,b3⟩:=b
 rw[Bool.eq_iff_iff]
 simp
def v_book_SamePairs (a b:List (El T_api_Pair)):Bool:=decide (a=b)
def k_book_SamePairs (a b:List (El T_api_Pair)):Bool:=decide (a.length < 4611686018427387904)
theorem g_book_SamePairs (a b:List (El T_api_Pair)) (hk:k_book_SamePairs a b=true):Goes (T_book_SamePairs a b) (T0_book_SamePairs a b) (v_book_SamePairs a b):=by
 have hn:a.length < 4611686018427387904:=of_decide_eq_true hk
 have loop:a.length=b.length→∀k,k≤a.length→Goes (T_book_SamePairs a b) (.jmp (.l6 (k:Int))) (decide (a.drop k=b.drop k)):=by
  intro he
  refine down ?_ fun k hk ih=>?_
  ·rw[goes_jmp]
   simp[T_book_SamePairs,goes_br,goes_leaf,he]
  ·rw[goes_jmp]
   have hkb:k < b.length:=he▸hk
   simp only[T_book_SamePairs,goes_br,lt_len hk,lt_len hkb,nng,Bool.and_self,if_true,Int.toNat_natCast,getD_lt hk,getD_lt hkb,wrap_succ (k:=k) (by omega)]
   rw[drop_cons hk,drop_cons hkb]
   split
   ·rename_i h1
    have h2:(! decide (a[k]=b[k]))=true:=(congrArg Bool.not pairB_eq).symm.trans h1
    have h3:¬a[k]=b[k]:=by simpa using h2
    rw[decide_eq_false (fun e=>h3 (List.cons.inj e).1)]
    exact .leaf
   ·rename_i h1
    have h2:¬(! decide (a[k]=b[k]))=true:=fun h=>h1 ((congrArg Bool.not pairB_eq).trans h)
    have h3:a[k]=b[k]:=by simpa using h2
    rw[show decide (a[k] :: List.drop (k+1) a=b[k] :: List.drop (k+1) b)=decide (List.drop (k+1) a=List.drop (k+1) b) from decide_eq_decide.2 ⟨fun e=>(List.cons.inj e).2,fun e=>by rw[h3,e]⟩]
    exact ih
 unfold T0_book_SamePairs v_book_SamePairs
 rw[goes_br]
 by_cases h:a.length=b.length
 ·have:=loop h 0 (Nat.zero_le _)
  simpa[h] using this
 ·have:a≠b:=fun e=>h (congrArg _ e)
  rw[if_pos (by simp;omega),decide_eq_false this]
  exact .leaf
end Go.Ev
end

section
open Go Go.Ev
namespace Go.Ev
noncomputable section
noncomputable def e_book_SamePairs:Run:=entG sg_book_SamePairs R_book_SamePairs (fun a=>k_book_SamePairs a.1 a.2.1) (fun a=>v_book_SamePairs a.1 a.2.1)
theorem ok_book_SamePairs:EntOK Go.Proofs.Tryz.prog 24 e_book_SamePairs:=entG_ok (tb:=tb_book_SamePairs) (c:=c_book_SamePairs) tk_book_SamePairs (by kernel_rfl) (by kernel_rfl) (by kernel_rfl) (fun a=>by kernel_rfl) fun ⟨a,b,_⟩ hk=>evF_goes (c:=c_book_SamePairs) (K:=fun v=>(R_book_SamePairs v,tps (toForms sg_book_SamePairs (a,b,())))) (S:=S_book_SamePairs a b) (by kernel_rfl) (en_book_SamePairs a b) (lp_book_SamePairs a b) (g_book_SamePairs a b hk)
end
end Go.Ev
end

section
open Go Go.Ev
namespace Go.Ev
noncomputable section
def sg_ins_Fence:Sig:=[(true,T_api_Ins)]
noncomputable def t_ins_Fence:Tbl:=[(82,e_ins_Right),(64,e_ins_Locked)]
theorem tk_ins_Fence:∀p∈t_ins_Fence,EntOK Go.Proofs.Tryz.prog p.1 p.2:=tbl_cons ok_ins_Right (tbl_cons ok_ins_Locked (tbl_nil))
noncomputable def c_ins_Fence:Code:=Go.Proofs.Tryz.f98.body.getD .skip
def tb_ins_Fence:Tb:=[]
def T_ins_Fence (i:El T_api_Ins):Empty→JT Empty (Bool):=fun j=>nomatch j
def T0_ins_Fence (i:El T_api_Ins):JT Empty (Bool):=.br (k_ins_Right i) (.br ((v_ins_Right i)==(0:Int)) (.br (i.1==(12:Int)) (.leaf true) (.br (k_ins_Locked i) (.leaf (v_ins_Locked i)) (.no))) (.br (k_ins_Locked i) (.leaf (v_ins_Locked i)) (.no))) (.no)
def v_ins_Fence (i:El T_api_Ins):Bool:=bif (k_ins_Right i) then bif ((v_ins_Right i)==(0:Int)) then bif (i.1==(12:Int)) then true else bif (k_ins_Locked i) then (v_ins_Locked i) else false else bif (k_ins_Locked i) then (v_ins_Locked i) else false else false
def k_ins_Fence (i:El T_api_Ins):Bool:=bif (k_ins_Right i) then bif ((v_ins_Right i)==(0:Int)) then bif (i.1==(12:Int)) then true else bif (k_ins_Locked i) then true else false else bif (k_ins_Locked i) then true else false else false
theorem g_ins_Fence (i:El T_api_Ins) (hk:k_ins_Fence i=true):Goes (T_ins_Fence i) (T0_ins_Fence i) (v_ins_Fence i):=Goes.brk hk (fun hk=>Goes.brk hk (fun hk=>Goes.brk hk (fun hk=>Goes.leaf) (fun hk=>Goes.brk hk (fun hk=>Goes.leaf) (fun hk=>Goes.nok hk))) (fun hk=>Goes.brk hk (fun hk=>Goes.leaf) (fun hk=>Goes.nok hk))) (fun hk=>Goes.nok hk)
def R_ins_Fence:Bool→AV:=fun (r:Bool)=>.d .bool r
def S_ins_Fence (i:El T_api_Ins):Empty→Nat×St:=fun j=>nomatch j
theorem en_ins_Fence (i:El T_api_Ins) (L:Lt):entryA Go.Proofs.Tryz.prog (clOf t_ins_Fence) tb_ins_Fence Go.Proofs.Tryz.f98 c_ins_Fence L (toForms sg_ins_Fence (i,()))=(T0_ins_Fence i).run (fun v=>some (R_ins_Fence v,tps (toForms sg_ins_Fence (i,())))) fun j=>L (S_ins_Fence i j).1 (S_ins_Fence i j).2:=by kernel_rfl
theorem lp_ins_Fence (i:El T_api_Ins):∀(L:Lt) (j:Empty),procOf (procsF Go.Proofs.Tryz.prog (clOf t_ins_Fence) tb_ins_Fence Go.Proofs.Tryz.f98 c_ins_Fence (toForms sg_ins_Fence (i,()))) (S_ins_Fence i j).1 L (S_ins_Fence i j).2=(T_ins_Fence i j).run (fun v=>some (R_ins_Fence v,tps (toForms sg_ins_Fence (i,())))) fun j=>L (S_ins_Fence i j).1 (S_ins_Fence i j).2:=fun L j=>nomatch j
noncomputable def e_ins_Fence:Run:=entG sg_ins_Fence R_ins_Fence (fun a=>k_ins_Fence a.1) (fun a=>v_ins_Fence a.1)
theorem ok_ins_Fence:EntOK Go.Proofs.Tryz.prog 98 e_ins_Fence:=entG_ok (tb:=tb_ins_Fence) (c:=c_ins_Fence) tk_ins_Fence (by kernel_rfl) (by kernel_rfl) (by kernel_rfl) (fun a=>by kernel_rfl) fun ⟨i,_⟩ hk=>evF_goes (c:=c_ins_Fence) (K:=fun v=>(R_ins_Fence v,tps (toForms sg_ins_Fence (i,())))) (S:=S_ins_Fence i) (by kernel_rfl) (en_ins_Fence i) (lp_ins_Fence i) (g_ins_Fence i hk)
end
end Go.Ev
end

section
open Go Go.Ev
namespace Go.Ev
noncomputable section
def sg_road_Ends:Sig:=[(true,(.sl T_api_Ins)),(false,(.sl (.int .i64))),(false,(.int .i64))]
noncomputable def t_road_Ends:Tbl:=[(42,e_bits_New),(44,e_bits_Set_Put),(74,e_flow_Next),(52,e_bits_Set_Has),(98,e_ins_Fence),(46,e_bits_Set_List)]
theorem tk_road_Ends:∀p∈t_road_Ends,EntOK Go.Proofs.Tryz.prog p.1 p.2:=tbl_cons ok_bits_New (tbl_cons ok_bits_Set_Put (tbl_cons ok_flow_Next (tbl_cons ok_bits_Set_Has (tbl_cons ok_ins_Fence (tbl_cons ok_bits_Set_List (tbl_nil))))))
noncomputable def c_road_Ends:Code:=Go.Proofs.Tryz.f76.body.getD .skip
def tb_road_Ends:Tb:=[(4,⟨[2,3,7,8,23,24,25],[]⟩),(11,⟨[3,7,8,11],[(1000000000000000000000000000000000000000000000000000000000012,1)]⟩),(17,⟨[3,7,8,11,51,52,53],[(1000000000000000000000000000000000000000000000000000000000012,1)]⟩)]
inductive J_road_Ends where | l4 (h:Int) (closed:Int) (closed1:List (Int×Int)) | l11 (closed:Int) (closed1:List (Int×Int)) (len:Nat) (seen:Int) (open_:List Int) (seen1:List (Int×Int)) | l17 (closed:Int) (closed1:List (Int×Int)) (len:Nat) (h:Int) (seen:Int) (open_:List Int) (seen1:List (Int×Int)) (h1:Int) (h2:List Int)
def T_road_Ends (t:List (El T_api_Ins)) (points:List Int) (s:Int):J_road_Ends→JT J_road_Ends (List Int) |.l4 h closed closed1=>.br (decide (h < (Int.ofNat (List.length points)))) (.br ((decide ((0:Int)≤h))&&(decide (h < (Int.ofNat (List.length points))))) (.jmp (.l4 (IntKind.i64.wrap (h+(1:Int))) (v_bits_Set_Put (closed,closed1) (List.getD points (Int.toNat h) (dflt (.int .i64)))).2.1 (v_bits_Set_Put (closed,closed1) (List.getD points (Int.toNat h) (dflt (.int .i64)))).2.2)) (.no)) (.jmp (.l11 closed closed1 1 (v_bits_New (Int.ofNat (List.length t))).1 [s] (v_bits_New (Int.ofNat (List.length t))).2)) |.l11 closed closed1 len seen open_ seen1=>.br (decide ((Int.ofNat len) > (0:Int))) (.br ((decide ((0:Int)≤(IntKind.i64.wrap ((Int.ofNat len) - (1:Int)))))&&(decide ((IntKind.i64.wrap ((Int.ofNat len) - (1:Int))) < (Int.ofNat len)))) (.br ((decide ((0:Int)≤(IntKind.i64.wrap ((Int.ofNat len) - (1:Int)))))&&(decide ((IntKind.i64.wrap ((Int.ofNat len) - (1:Int)))≤(Int.ofNat len)))) (.br (k_flow_Next t (List.getD open_ (Int.toNat (IntKind.i64.wrap ((Int.ofNat len) - (1:Int)))) (dflt (.int .i64)))) (.jmp (.l17 closed closed1 (Int.toNat (IntKind.i64.wrap ((Int.ofNat len) - (1:Int)))) (0:Int) seen open_ seen1 (Int.ofNat (List.length (v_flow_Next t (List.getD open_ (Int.toNat (IntKind.i64.wrap ((Int.ofNat len) - (1:Int)))) (dflt (.int .i64)))))) (v_flow_Next t (List.getD open_ (Int.toNat (IntKind.i64.wrap ((Int.ofNat len) - (1:Int)))) (dflt (.int .i64)))))) (.no)) (.no)) (.no)) (.br (k_bits_Set_List (seen,seen1)) (.leaf (v_bits_Set_List (seen,seen1)).1) (.no)) |.l17 closed closed1 len h seen open_ seen1 h1 h2=>.br (decide (h < h1)) (.br ((decide ((0:Int)≤h))&&(decide (h < (Int.ofNat (List.length h2))))) (.br (! (v_bits_Set_Has (closed,closed1) (List.getD h2 (Int.toNat h) (dflt (.int .i64)))).1) (.br (v_bits_Set_Put (seen,seen1) (List.getD h2 (Int.toNat h) (dflt (.int .i64)))).1 (.br ((decide ((0:Int)≤(List.getD h2 (Int.toNat h) (dflt (.int .i64)))))&&(decide ((List.getD h2 (Int.toNat h) (dflt (.int .i64))) < (Int.ofNat (List.length t))))) (.br (k_ins_Fence (List.getD t (Int.toNat (List.getD h2 (Int.toNat h) (dflt (.int .i64)))) (dflt T_api_Ins))) (.br (! (v_ins_Fence (List.getD t (Int.toNat (List.getD h2 (Int.toNat h) (dflt (.int .i64)))) (dflt T_api_Ins)))) (.br (Nat.ble (((List.length (List.take len open_))+1)*8) limit) (.jmp (.l17 (v_bits_Set_Has (closed,closed1) (List.getD h2 (Int.toNat h) (dflt (.int .i64)))).2.1 (v_bits_Set_Has (closed,closed1) (List.getD h2 (Int.toNat h) (dflt (.int .i64)))).2.2 (List.length ((List.take len open_)++[(List.getD h2 (Int.toNat h) (dflt (.int .i64)))])) (IntKind.i64.wrap (h+(1:Int))) (v_bits_Set_Put (seen,seen1) (List.getD h2 (Int.toNat h) (dflt (.int .i64)))).2.1 ((List.take len open_)++[(List.getD h2 (Int.toNat h) (dflt (.int .i64)))]) (v_bits_Set_Put (seen,seen1) (List.getD h2 (Int.toNat h) (dflt (.int .i64)))).2.2 h1 h2)) (.no)) (.jmp (.l17 (v_bits_Set_Has (closed,closed1) (List.getD h2 (Int.toNat h) (dflt (.int .i64)))).2.1 (v_bits_Set_Has (closed,closed1) (List.getD h2 (Int.toNat h) (dflt (.int .i64)))).2.2 len (IntKind.i64.wrap (h+(1:Int))) (v_bits_Set_Put (seen,seen1) (List.getD h2 (Int.toNat h) (dflt (.int .i64)))).2.1 open_ (v_bits_Set_Put (seen,seen1) (List.getD h2 (Int.toNat h) (dflt (.int .i64)))).2.2 h1 h2))) (.no)) (.no)) (.jmp (.l17 (v_bits_Set_Has (closed,closed1) (List.getD h2 (Int.toNat h) (dflt (.int .i64)))).2.1 (v_bits_Set_Has (closed,closed1) (List.getD h2 (Int.toNat h) (dflt (.int .i64)))).2.2 len (IntKind.i64.wrap (h+(1:Int))) (v_bits_Set_Put (seen,seen1) (List.getD h2 (Int.toNat h) (dflt (.int .i64)))).2.1 open_ (v_bits_Set_Put (seen,seen1) (List.getD h2 (Int.toNat h) (dflt (.int .i64)))).2.2 h1 h2))) (.jmp (.l17 (v_bits_Set_Has (closed,closed1) (List.getD h2 (Int.toNat h) (dflt (.int .i64)))).2.1 (v_bits_Set_Has (closed,closed1) (List.getD h2 (Int.toNat h) (dflt (.int .i64)))).2.2 len (IntKind.i64.wrap (h+(1:Int))) seen open_ seen1 h1 h2))) (.no)) (.jmp (.l11 closed closed1 len seen open_ seen1))
def T0_road_Ends (t:List (El T_api_Ins)) (points:List Int) (s:Int):JT J_road_Ends (List Int):=.jmp (.l4 (0:Int) (v_bits_New (Int.ofNat (List.length t))).1 (v_bits_New (Int.ofNat (List.length t))).2)
def R_road_Ends:List Int→AV:=fun (r:List Int)=>.rw 3 (.int .i64) r
def S_road_Ends (t:List (El T_api_Ins)) (points:List Int) (s:Int):J_road_Ends→Nat×St |.l4 h closed closed1=>(4,⟨mkTm 82 [(2,.d (.int .i64) s),(3,.pt 4 0 0),(7,.pt 8 0 0),(8,.pt 9 0 0),(23,.d (.sl (.int .i64)) points),(24,.d (.int .i64) (Int.ofNat (List.length points))),(25,.d (.int .i64) h)],[(4,0,.box 48 [.d (.sl T_api_Ins) t] none),(8,0,.box 102 [.d (.int .i64) closed,.mp 8194 0] none),(9,0,.box 102 [.d (.int .i64) (v_bits_New (Int.ofNat (List.length t))).1,.mp 9218 0] none),(8194,0,.map (.int .i64) (.int .u64) closed1),(9218,0,.map (.int .i64) (.int .u64) (v_bits_New (Int.ofNat (List.length t))).2)]⟩) |.l11 closed closed1 len seen open_ seen1=>(11,⟨mkTm 82 [(3,.pt 4 0 0),(7,.pt 8 0 0),(8,.pt 9 0 0),(11,.own 12 0 (some len))],[(4,0,.box 48 [.d (.sl T_api_Ins) t] none),(8,0,.box 102 [.d (.int .i64) closed,.mp 8194 0] none),(9,0,.box 102 [.d (.int .i64) seen,.mp 9218 0] none),(12,0,.row 3 (.int .i64) open_ false),(8194,0,.map (.int .i64) (.int .u64) closed1),(9218,0,.map (.int .i64) (.int .u64) seen1)]⟩) |.l17 closed closed1 len h seen open_ seen1 h1 h2=>(17,⟨mkTm 82 [(3,.pt 4 0 0),(7,.pt 8 0 0),(8,.pt 9 0 0),(11,.own 12 0 (some len)),(51,.own 52 0 none),(52,.d (.int .i64) h1),(53,.d (.int .i64) h)],[(4,0,.box 48 [.d (.sl T_api_Ins) t] none),(8,0,.box 102 [.d (.int .i64) closed,.mp 8194 0] none),(9,0,.box 102 [.d (.int .i64) seen,.mp 9218 0] none),(12,0,.row 3 (.int .i64) open_ false),(52,0,.row 3 (.int .i64) h2 false),(8194,0,.map (.int .i64) (.int .u64) closed1),(9218,0,.map (.int .i64) (.int .u64) seen1)]⟩)
theorem en_road_Ends (t:List (El T_api_Ins)) (points:List Int) (s:Int) (L:Lt):entryA Go.Proofs.Tryz.prog (clOf t_road_Ends) tb_road_Ends Go.Proofs.Tryz.f76 c_road_Ends L (toForms sg_road_Ends (t,points,s,()))=(T0_road_Ends t points s).run (fun v=>some (R_road_Ends v,tps (toForms sg_road_Ends (t,points,s,())))) fun j=>L (S_road_Ends t points s j).1 (S_road_Ends t points s j).2:=by kernel_rfl
theorem lp_road_Ends (t:List (El T_api_Ins)) (points:List Int) (s:Int):∀(L:Lt) (j:J_road_Ends),procOf (procsF Go.Proofs.Tryz.prog (clOf t_road_Ends) tb_road_Ends Go.Proofs.Tryz.f76 c_road_Ends (toForms sg_road_Ends (t,points,s,()))) (S_road_Ends t points s j).1 L (S_road_Ends t points s j).2=(T_road_Ends t points s j).run (fun v=>some (R_road_Ends v,tps (toForms sg_road_Ends (t,points,s,())))) fun j=>L (S_road_Ends t points s j).1 (S_road_Ends t points s j).2 | L,.l4 h closed closed1=>by kernel_rfl | L,.l11 closed closed1 len seen open_ seen1=>by kernel_rfl | L,.l17 closed closed1 len h seen open_ seen1 h1 h2=>by kernel_rfl
end
end Go.Ev
end

section
open Go
namespace Go.Ev
theorem k_fence {i:El T_api_Ins} (h:smallText i.2.2.2.2.2.1=true):k_ins_Fence i=true:=by
 have h0:k_ins_Right i=true:=h
 have a:k_ins_Locked i=true:=by unfold k_ins_Locked;simp only[h0,cond_true,Bool.cond_self]
 unfold k_ins_Fence
 simp only[h0,a,cond_true,Bool.cond_self]
end Go.Ev
end

section
open Go
namespace Go.Ev
def fenceAtT (t:List (El T_api_Ins)) (k:Nat):Bool:=v_ins_Fence (t.getD k (dflt T_api_Ins))
def stepB (t:List (El T_api_Ins)) (points:List Int) (k j:Nat):Bool:=!fenceAtT t k&&(nextB t (k:Int) j&& !points.contains (j:Int))
def firstB (t:List (El T_api_Ins)) (points:List Int) (s:Int) (j:Nat):Bool:=nextB t s j&& !points.contains (j:Int)
noncomputable def endsB (t:List (El T_api_Ins)) (points:List Int) (s:Int) (j:Nat):Bool:=comeB (stepB t points) (firstB t points s) j
theorem stepB_lt {t:List (El T_api_Ins)} {points:List Int} {k j:Nat} (h:stepB t points k j=true):j < t.length:=by
 unfold stepB at h
 simp only[Bool.and_eq_true] at h
 exact nextB_lt h.2.1
theorem firstB_lt {t:List (El T_api_Ins)} {points:List Int} {s:Int} {j:Nat} (h:firstB t points s j=true):j < t.length:=by
 unfold firstB at h
 simp only[Bool.and_eq_true] at h
 exact nextB_lt h.1
end Go.Ev
end

section
open Go
namespace Go.Ev
noncomputable def v_road_Ends (t:List (El T_api_Ins)) (points:List Int) (s:Int):List Int:=listOf t.length (endsB t points s)
def k_road_Ends (t:List (El T_api_Ins)) (points:List Int) (s:Int):Bool:=flowOK t&&decide (points.length < 4611686018427387904)
def goB (t:List (El T_api_Ins)) (points:List Int) (x:Int) (j:Nat):Bool:=nextB t x j&& !points.contains (j:Int)
def nodeP (t:List (El T_api_Ins)) (s:Int) (M:Nat→Bool) (x:Int):Prop:=x=s∨∃j:Nat,x=(j:Int)∧M j=true∧fenceAtT t j=false
theorem take_pred' {l:List Int} {n:Nat} (h:n+1≤l.length):l.take (n+1)=l.take n++[l.getD n 0]:=by
 have hn:n < l.length:=by omega
 rw[List.take_succ_eq_append_getElem hn,getD_lt hn]
theorem g_road_Ends (t:List (El T_api_Ins)) (points:List Int) (s:Int) (hk:k_road_Ends t points s=true):Goes (T_road_Ends t points s) (T0_road_Ends t points s) (v_road_Ends t points s):=by
 unfold k_road_Ends at hk
 rw[Bool.and_eq_true] at hk
 obtain ⟨hf,hpl⟩:=hk
 have hpl:=of_decide_eq_true hpl
 have hlen:=flowOK_len hf
 generalize hn:t.length=n at hlen
 have kfe:∀k,k < n→k_ins_Fence (List.getD t k (dflt T_api_Ins))=true:=fun k hk=>by
  have hmem:t.getD k (dflt T_api_Ins)∈t:=by rw[getD_lt (by omega)];exact List.getElem_mem (by omega)
  exact k_fence (flowOK_text hf hmem)
 have main:∀(C:Nat→Bool) (cl:Int×List (Int×Int)),SetOK cl n C→(∀j,j < n→C j=points.contains (j:Int))→∀m,∀(M:Nat→Bool) (se:Int×List (Int×Int)) (open_:List Int) (len:Nat),len≤open_.length→2*(n - card n M)+len=m→SetOK se n M→
   (∀j,M j=true→Come (stepB t points) (firstB t points s) j)→(∀x∈open_.take len,nodeP t s M x)→(∀x,nodeP t s M x→x∈open_.take len∨∀j,goB t points x j=true→M j=true)→len≤card n M+1→
   Goes (T_road_Ends t points s) (.jmp (.l11 cl.1 cl.2 len se.1 open_ se.2)) (v_road_Ends t points s):=by
  intro C cl hcl hC m
  induction m using Nat.strongRecOn with
  | _ m ih=>
  intro M se open_ len hl hm hs h1 h2 h3 h5
  cases len with
  | zero=>
   rw[goes_jmp,T_road_Ends,goes_br,if_neg (by decide)]
   have hkl:k_bits_Set_List (se.1,se.2)=true:=Nat.ble_eq_true_of_le (by have:=hs.few;unfold limit;show se.2.length*512≤_;omega)
   rw[goes_br,if_pos hkl]
   have hv:(v_bits_Set_List (se.1,se.2)).1=v_road_Ends t points s:=by
    show listS se=_
    rw[hs.list (by omega)]
    unfold v_road_Ends endsB
    rw[hn]
    refine listOf_congr fun j _=>comeB_eq (fun j hj=>?_) (fun k j hk hj=>?_) h1 j
    ·rcases h3 s (.inl rfl) with h | h
     ·simp at h
     ·exact h j hj
    ·unfold stepB at hj
     rw[Bool.and_eq_true] at hj
     rcases h3 (k:Int) (.inr ⟨k,rfl,hk,by simpa using hj.1⟩) with h | h
     ·simp at h
     ·exact h j hj.2
   rw[hv];exact .leaf
  | succ len=>
   have hc:= @card_le n M
   have e:IntKind.i64.wrap (Int.ofNat (len+1) - 1)=(len:Int):=by
    rw[wrap_i64 (by simp <;> omega) (by simp <;> omega)];simp
   have g1:decide (Int.ofNat (len+1) > (0:Int))=true:=decide_eq_true (by simp <;> omega)
   have g2:(decide ((0:Int)≤(len:Int))&&decide ((len:Int) < Int.ofNat (len+1)))=true:=bound_len (by omega)
   have g3:(decide ((0:Int)≤(len:Int))&&decide ((len:Int)≤Int.ofNat (len+1)))=true:=by simp;omega
   rw[goes_jmp,T_road_Ends,e,goes_br,if_pos g1,goes_br,if_pos g2,goes_br,if_pos g3,Int.toNat_natCast]
   have htk:=take_pred' hl
   generalize hx0:open_.getD len 0=x0 at htk
   have hd:open_.getD len (dflt (.int .i64))=x0:=hx0
   rw[hd]
   have kn:k_flow_Next t x0=true:=hf
   rw[goes_br,if_pos kn]
   have hnode:=h2 x0 (by rw[htk];simp)
   generalize hr:v_flow_Next t x0=r
   have hrm:∀y∈r,∃j:Nat,j < n∧nextB t x0 j=true∧y=(j:Int):=fun y hy=>by
    rw[←hr] at hy
    unfold v_flow_Next at hy
    rw[hn] at hy
    exact listOf_mem.1 hy
   have hrl:r.length≤n:=by rw[←hr];unfold v_flow_Next;rw[listOf_length,hn];exact card_le
   have hin:∀j:Nat,nextB t x0 j=true→(j:Int)∈r:=fun j hj=>by rw[←hr];exact listOf_mem.2 ⟨j,nextB_lt hj,hj,rfl⟩
   have inner:∀h,h≤r.length→∀(M1:Nat→Bool) (se1:Int×List (Int×Int)) (op1:List Int) (len1:Nat),len1≤op1.length→2*(n - card n M1)+len1 < m→SetOK se1 n M1→nodeP t s M1 x0→
     (∀j,M1 j=true→Come (stepB t points) (firstB t points s) j)→(∀x∈op1.take len1,nodeP t s M1 x)→(∀x,nodeP t s M1 x→x∈op1.take len1∨∀j,goB t points x j=true→M1 j=true∨(x=x0∧(j:Int)∈r.drop h))→len1≤card n M1+1→
     Goes (T_road_Ends t points s) (.jmp (.l17 cl.1 cl.2 len1 (h:Int) se1.1 op1 se1.2 (Int.ofNat r.length) r)) (v_road_Ends t points s):=by
    refine down ?_ fun h hh ih2=>?_
    ·intro M1 se1 op1 len1 i1 i2 i3 i4 i5 i6 i7 i8
     rw[goes_jmp,T_road_Ends,goes_br,if_neg (by rw[lt_len_not (Nat.lt_irrefl _)];decide)]
     refine ih _ i2 M1 se1 op1 len1 i1 rfl i3 i5 i6 (fun x hx=>(i7 x hx).imp id fun h j hj=>(h j hj).resolve_right (by simp)) i8
    ·intro M1 se1 op1 len1 i1 i2 i3 i4 i5 i6 i7 i8
     obtain ⟨y,hy,hyN,hxy⟩:=hrm r[h] (List.getElem_mem hh)
     have hdy:List.getD r h (dflt (.int .i64))=(y:Int):=by rw[←hxy];exact getD_lt hh
     have hhas:(v_bits_Set_Has (cl.1,cl.2) (y:Int)).1=points.contains (y:Int):=by
      show hasS cl (y:Int)=_
      rw[hcl.has (by omega),Int.toNat_natCast,decide_eq_true (by omega),Bool.true_and,hC y hy]
     have hhas2:(v_bits_Set_Has (cl.1,cl.2) (y:Int)).2=cl:=rfl
     have hput:v_bits_Set_Put (se1.1,se1.2) (y:Int)=putS se1 (y:Int):=rfl
     have hdr:∀z,z∈r.drop h↔z=(y:Int)∨z∈r.drop (h+1):=fun z=>by rw[drop_cons hh,List.mem_cons,hxy]
     rw[goes_jmp,T_road_Ends,goes_br,if_pos (lt_len hh),goes_br,if_pos (bound_len hh),goes_br,Int.toNat_natCast,hdy,hhas,hhas2,hput,wrap_succ (by omega)]
     have skip:(goB t points x0 y=true→M1 y=true)→Goes (T_road_Ends t points s) (.jmp (.l17 cl.1 cl.2 len1 ((h+1:Nat):Int) se1.1 op1 se1.2 (Int.ofNat r.length) r)) (v_road_Ends t points s):=fun hsk=>
      ih2 M1 se1 op1 len1 i1 i2 i3 i4 i5 i6 (fun x hx=>(i7 x hx).imp id fun hg j hj=>by
       rcases hg j hj with h | ⟨hx0,h⟩
       ·exact .inl h
       ·rcases (hdr _).1 h with h | h
        ·have:j=y:=by omega
         subst this
         rw[hx0] at hj
         exact .inl (hsk hj)
        ·exact .inr ⟨hx0,h⟩) i8
     cases hpt:points.contains (y:Int) with
     | true=>
      rw[if_neg (by decide)]
      exact skip fun h=>by unfold goB at h;rw[hpt,Bool.not_true,Bool.and_false] at h;cases h
     | false=>
      rw[if_pos (by decide),goes_br]
      cases hMy:M1 y with
      | true=>
       have hno:=i3.put_no (by omega) (i:=(y:Int)) (fun h=>by rw[Int.toNat_natCast,hMy] at h;cases h.2.2)
       rw[hno,if_neg (by simp)]
       exact skip fun _=>hMy
      | false=>
       obtain ⟨p1,p2⟩:=i3.put (by omega) hy hMy
       have hgo:goB t points x0 y=true:=by unfold goB;rw[hyN,hpt];rfl
       have hcome:Come (stepB t points) (firstB t points s) y:=by
        rcases i4 with h | ⟨k,hk,hMk,hfk⟩
        ·subst h;exact .start hgo
        ·subst hk;exact .step (i5 k hMk) (by unfold stepB;rw[hfk];exact hgo)
       have hcard:=card_add hMy hy
       have hcl2:= @card_le n (fun k=>M1 k || (k==y))
       have mono:∀x,nodeP t s M1 x→nodeP t s (fun k=>M1 k || (k==y)) x:=fun x hx=>hx.imp id fun ⟨k,h1,h2,h3⟩=>⟨k,h1,by show (M1 k || (k==y))=true;rw[h2];rfl,h3⟩
       have hcc:∀k,(M1 k || (k==y))=true→Come (stepB t points) (firstB t points s) k:=fun k hk=>by
        simp only[Bool.or_eq_true,beq_iff_eq] at hk
        rcases hk with hk | hk
        ·exact i5 k hk
        ·subst hk;exact hcome
       have keep:∀(o:List Int),(∀x∈op1.take len1,x∈o)→(fenceAtT t y=false→(y:Int)∈o)→∀x,nodeP t s (fun k=>M1 k || (k==y)) x→x∈o∨∀j,goB t points x j=true→(M1 j || (j==y))=true∨(x=x0∧(j:Int)∈r.drop (h+1)):=fun o ho hyo x hx=>by
        have old:nodeP t s M1 x→x∈o∨∀j,goB t points x j=true→(M1 j || (j==y))=true∨(x=x0∧(j:Int)∈r.drop (h+1)):=fun hx=>by
         rcases i7 x hx with h | h
         ·exact .inl (ho x h)
         ·refine .inr fun j hj=>?_
          rcases h j hj with h | ⟨hx0,h⟩
          ·exact .inl (by rw[h];rfl)
          ·rcases (hdr _).1 h with h | h
           ·have:j=y:=by omega
            subst this;exact .inl (by simp)
           ·exact .inr ⟨hx0,h⟩
        rcases hx with hx | ⟨k,hk,hMk,hfk⟩
        ·exact old (.inl hx)
        ·have hMk:(M1 k || (k==y))=true:=hMk
         simp only[Bool.or_eq_true,beq_iff_eq] at hMk
         rcases hMk with hMk | hMk
         ·exact old (.inr ⟨k,hk,hMk,hfk⟩)
         ·subst hMk;subst hk;exact .inl (hyo hfk)
       have vf:v_ins_Fence (List.getD t y (dflt T_api_Ins))=fenceAtT t y:=rfl
       rw[p1,if_pos rfl,goes_br,hn,if_pos (bound_len hy),goes_br,Int.toNat_natCast,if_pos (kfe y hy),goes_br,vf]
       cases hfy:fenceAtT t y with
       | true=>
        rw[if_neg (by decide)]
        exact ih2 _ _ op1 len1 i1 (by omega) p2 (mono x0 i4) hcc (fun x hx=>mono x (i6 x hx)) (keep _ (fun x hx=>hx) (fun h=>by rw[hfy] at h;cases h)) (by omega)
       | false=>
        have htl:(op1.take len1).length=len1:=by rw[List.length_take];omega
        rw[if_pos (by decide),goes_br,if_pos (Nat.ble_eq_true_of_le (by rw[htl];unfold limit;omega))]
        have htake:(op1.take len1++[(y:Int)]).take (op1.take len1++[(y:Int)]).length=op1.take len1++[(y:Int)]:=List.take_length
        have hl2:(op1.take len1++[(y:Int)]).length=len1+1:=by rw[List.length_append,htl];rfl
        refine ih2 _ _ (op1.take len1++[(y:Int)]) _ (Nat.le_refl _) (by omega) p2 (mono x0 i4) hcc (fun x hx=>?_) ?_ (by omega)
        ·rw[htake,List.mem_append] at hx
         rcases hx with hx | hx
         ·exact mono x (i6 x hx)
         ·simp only[List.mem_singleton] at hx
          exact .inr ⟨y,hx,by simp,hfy⟩
        ·rw[htake]
         exact keep _ (fun x hx=>List.mem_append_left _ hx) (fun _=>List.mem_append_right _ (by simp))
   refine inner 0 (Nat.zero_le _) M se open_ len (by omega) (by omega) hs hnode h1 (fun x hx=>h2 x (by rw[htk];simp[hx])) (fun x hx=>?_) (by omega)
   rcases h3 x hx with h | h
   ·rw[htk,List.mem_append] at h
    rcases h with h | h
    ·exact .inl h
    ·simp only[List.mem_singleton] at h
     refine .inr fun j hj=>.inr ⟨h,?_⟩
     subst h
     unfold goB at hj
     rw[Bool.and_eq_true] at hj
     rw[List.drop_zero]
     exact hin j hj.1
   ·exact .inr fun j hj=>.inl (h j hj)
 have hnew:v_bits_New (Int.ofNat (List.length t))=((n:Int),[]):=by
  rw[hn]
  unfold v_bits_New
  simp
  omega
 have first:∀h,h≤points.length→∀(C:Nat→Bool) (cl:Int×List (Int×Int)),SetOK cl n C→(∀j:Nat,j < n→((C j=true∨(j:Int)∈points.drop h)↔(j:Int)∈points))→Goes (T_road_Ends t points s) (.jmp (.l4 (h:Int) cl.1 cl.2)) (v_road_Ends t points s):=by
  refine down ?_ fun h hh ih=>?_
  ·intro C cl hcl hC
   rw[goes_jmp,T_road_Ends,goes_br,if_neg (by rw[lt_len_not (Nat.lt_irrefl _)];decide),hnew]
   refine main C cl hcl (fun j hj=>?_) _ (fun _=>false) ((n:Int),[]) [s] 1 (by simp) rfl (SetOK.new n) (fun j h=>by cases h) (fun x hx=>.inl (by simpa using hx)) (fun x hx=>.inl ?_) (by omega)
   ·have:=hC j hj
    rw[List.drop_length] at this
    rw[Bool.eq_iff_iff,List.contains_iff_mem,←this]
    simp
   ·rcases hx with hx | ⟨j,_,h,_⟩
    ·simpa using hx
    ·cases h
  ·intro C cl hcl hC
   rw[goes_jmp,T_road_Ends,goes_br,if_pos (lt_len hh),goes_br,if_pos (bound_len hh),Int.toNat_natCast,wrap_succ (by omega)]
   have hd:points.getD h (dflt (.int .i64))=points[h]:=getD_lt hh
   rw[hd]
   have hput:v_bits_Set_Put (cl.1,cl.2) points[h]=putS cl points[h]:=rfl
   rw[hput]
   have hdr:∀z,z∈points.drop h↔z=points[h]∨z∈points.drop (h+1):=fun z=>by rw[drop_cons hh,List.mem_cons]
   generalize points[h]=x at hdr
   by_cases hx:0≤x∧x < n∧C x.toNat=false
   ·obtain ⟨y,rfl⟩:=Int.eq_ofNat_of_zero_le hx.1
    rw[Int.toNat_natCast] at hx
    obtain ⟨_,p2⟩:=hcl.put (by omega) (show y < n by omega) hx.2.2
    refine ih _ _ p2 fun j hj=>?_
    rw[←hC j hj,hdr]
    simp only[Bool.or_eq_true,beq_iff_eq]
    constructor
    ·rintro ((h | h) | h)
     ·exact .inl h
     ·exact .inr (.inl (by omega))
     ·exact .inr (.inr h)
    ·rintro (h | h | h)
     ·exact .inl (.inl h)
     ·exact .inl (.inr (by omega))
     ·exact .inr h
   ·rw[hcl.put_no (by omega) hx]
    refine ih C cl hcl fun j hj=>?_
    rw[←hC j hj,hdr]
    constructor
    ·rintro (h | h)
     ·exact .inl h
     ·exact .inr (.inr h)
    ·rintro (h | h | h)
     ·exact .inl h
     ·left
      cases hCj:C j with
      | true=>rfl
      | false=>exact absurd ⟨by omega,by omega,by rw[←h,Int.toNat_natCast];exact hCj⟩ hx
     ·exact .inr h
 unfold T0_road_Ends
 rw[hnew]
 exact first 0 (Nat.zero_le _) (fun _=>false) ((n:Int),[]) (SetOK.new n) fun j _=>by simp
end Go.Ev
end

section
open Go Go.Ev
namespace Go.Ev
noncomputable section
noncomputable def e_road_Ends:Run:=entG sg_road_Ends R_road_Ends (fun a=>k_road_Ends a.1 a.2.1 a.2.2.1) (fun a=>v_road_Ends a.1 a.2.1 a.2.2.1)
theorem ok_road_Ends:EntOK Go.Proofs.Tryz.prog 76 e_road_Ends:=entG_ok (tb:=tb_road_Ends) (c:=c_road_Ends) tk_road_Ends (by kernel_rfl) (by kernel_rfl) (by kernel_rfl) (fun a=>by kernel_rfl) fun ⟨t,points,s,_⟩ hk=>evF_goes (c:=c_road_Ends) (K:=fun v=>(R_road_Ends v,tps (toForms sg_road_Ends (t,points,s,())))) (S:=S_road_Ends t points s) (by kernel_rfl) (en_road_Ends t points s) (lp_road_Ends t points s) (g_road_Ends t points s hk)
end
end Go.Ev
end

section
open Go Go.Ev
namespace Go.Ev
noncomputable section
def sg_slices_Index___int_int_:Sig:=[(false,(.sl (.int .i64))),(false,(.int .i64))]
noncomputable def t_slices_Index___int_int_:Tbl:=[]
theorem tk_slices_Index___int_int_:∀p∈t_slices_Index___int_int_,EntOK Go.Proofs.Tryz.prog p.1 p.2:=tbl_nil
noncomputable def c_slices_Index___int_int_:Code:=Go.Proofs.Tryz.f97.body.getD .skip
def tb_slices_Index___int_int_:Tb:=[(3,⟨[0,1,7,8],[]⟩)]
inductive J_slices_Index___int_int_ where | l3 (h:Int)
def T_slices_Index___int_int_ (s:List Int) (v_:Int):J_slices_Index___int_int_→JT J_slices_Index___int_int_ (Int) |.l3 h=>.br (decide (h < (Int.ofNat (List.length s)))) (.br ((decide ((0:Int)≤h))&&(decide (h < (Int.ofNat (List.length s))))) (.br (v_==(List.getD s (Int.toNat h) (dflt (.int .i64)))) (.leaf h) (.jmp (.l3 (IntKind.i64.wrap (h+(1:Int)))))) (.no)) (.leaf (-1:Int))
def T0_slices_Index___int_int_ (s:List Int) (v_:Int):JT J_slices_Index___int_int_ (Int):=.jmp (.l3 (0:Int))
def R_slices_Index___int_int_:Int→AV:=fun (r:Int)=>.d (.int .i64) r
def S_slices_Index___int_int_ (s:List Int) (v_:Int):J_slices_Index___int_int_→Nat×St |.l3 h=>(3,⟨mkTm 19 [(0,.d (.sl (.int .i64)) s),(1,.d (.int .i64) v_),(7,.d (.int .i64) (Int.ofNat (List.length s))),(8,.d (.int .i64) h)],[]⟩)
theorem en_slices_Index___int_int_ (s:List Int) (v_:Int) (L:Lt):entryA Go.Proofs.Tryz.prog (clOf t_slices_Index___int_int_) tb_slices_Index___int_int_ Go.Proofs.Tryz.f97 c_slices_Index___int_int_ L (toForms sg_slices_Index___int_int_ (s,v_,()))=(T0_slices_Index___int_int_ s v_).run (fun v=>some (R_slices_Index___int_int_ v,tps (toForms sg_slices_Index___int_int_ (s,v_,())))) fun j=>L (S_slices_Index___int_int_ s v_ j).1 (S_slices_Index___int_int_ s v_ j).2:=by kernel_rfl
theorem lp_slices_Index___int_int_ (s:List Int) (v_:Int):∀(L:Lt) (j:J_slices_Index___int_int_),procOf (procsF Go.Proofs.Tryz.prog (clOf t_slices_Index___int_int_) tb_slices_Index___int_int_ Go.Proofs.Tryz.f97 c_slices_Index___int_int_ (toForms sg_slices_Index___int_int_ (s,v_,()))) (S_slices_Index___int_int_ s v_ j).1 L (S_slices_Index___int_int_ s v_ j).2=(T_slices_Index___int_int_ s v_ j).run (fun v=>some (R_slices_Index___int_int_ v,tps (toForms sg_slices_Index___int_int_ (s,v_,())))) fun j=>L (S_slices_Index___int_int_ s v_ j).1 (S_slices_Index___int_int_ s v_ j).2 | L,.l3 h=>by kernel_rfl
end
end Go.Ev
end

section
open Go
namespace Go.Ev
def indexI (v:Int):List Int→Nat→Int
 | [],_=> -1
 | x :: r,k=>if v=x then (k:Int) else indexI v r (k+1)
theorem indexI_ge {v:Int} :∀ {l:List Int} {k:Nat},decide (indexI v l k≥0)=l.contains v
 | [],k=>rfl
 | x :: r,k=>by
  unfold indexI
  rw[List.contains_cons]
  by_cases h:v=x
  ·subst h;rw[if_pos rfl];simp
  ·rw[if_neg h,indexI_ge]
   have:(v==x)=false:=by simpa using h
   rw[this,Bool.false_or]
def v_slices_Index___int_int_ (s:List Int) (v:Int):Int:=indexI v s 0
def k_slices_Index___int_int_ (s:List Int) (v:Int):Bool:=decide (s.length < 4611686018427387904)
theorem g_slices_Index___int_int_ (s:List Int) (v:Int) (hk:k_slices_Index___int_int_ s v=true):Goes (T_slices_Index___int_int_ s v) (T0_slices_Index___int_int_ s v) (v_slices_Index___int_int_ s v):=by
 have hn:s.length < 4611686018427387904:=of_decide_eq_true hk
 have loop:∀k,k≤s.length→Goes (T_slices_Index___int_int_ s v) (.jmp (.l3 (k:Int))) (indexI v (s.drop k) k):=by
  refine down ?_ fun k hk ih=>?_
  ·rw[goes_jmp,T_slices_Index___int_int_,goes_br,if_neg (by rw[lt_len_not (Nat.lt_irrefl _)];decide),List.drop_length]
   exact .leaf
  ·have hd:s.getD k (dflt (.int .i64))=s[k]:=getD_lt hk
   rw[goes_jmp,T_slices_Index___int_int_,goes_br,if_pos (lt_len hk),goes_br,if_pos (bound_len hk),goes_br,Int.toNat_natCast,hd,drop_cons hk,indexI,wrap_succ (by omega)]
   by_cases h:v=s[k]
   ·rw[if_pos h,if_pos (by simpa using h)];exact .leaf
   ·rw[if_neg h,if_neg (by simpa using h)];exact ih
 exact loop 0 (Nat.zero_le _)
end Go.Ev
end

section
open Go Go.Ev
namespace Go.Ev
noncomputable section
noncomputable def e_slices_Index___int_int_:Run:=entG sg_slices_Index___int_int_ R_slices_Index___int_int_ (fun a=>k_slices_Index___int_int_ a.1 a.2.1) (fun a=>v_slices_Index___int_int_ a.1 a.2.1)
theorem ok_slices_Index___int_int_:EntOK Go.Proofs.Tryz.prog 97 e_slices_Index___int_int_:=entG_ok (tb:=tb_slices_Index___int_int_) (c:=c_slices_Index___int_int_) tk_slices_Index___int_int_ (by kernel_rfl) (by kernel_rfl) (by kernel_rfl) (fun a=>by kernel_rfl) fun ⟨s,v_,_⟩ hk=>evF_goes (c:=c_slices_Index___int_int_) (K:=fun v=>(R_slices_Index___int_int_ v,tps (toForms sg_slices_Index___int_int_ (s,v_,())))) (S:=S_slices_Index___int_int_ s v_) (by kernel_rfl) (en_slices_Index___int_int_ s v_) (lp_slices_Index___int_int_ s v_) (g_slices_Index___int_int_ s v_ hk)
end
end Go.Ev
end

section
open Go Go.Ev
namespace Go.Ev
noncomputable section
def sg_slices_Contains___int_int_:Sig:=[(false,(.sl (.int .i64))),(false,(.int .i64))]
noncomputable def t_slices_Contains___int_int_:Tbl:=[(97,e_slices_Index___int_int_)]
theorem tk_slices_Contains___int_int_:∀p∈t_slices_Contains___int_int_,EntOK Go.Proofs.Tryz.prog p.1 p.2:=tbl_cons ok_slices_Index___int_int_ (tbl_nil)
noncomputable def c_slices_Contains___int_int_:Code:=Go.Proofs.Tryz.f75.body.getD .skip
def tb_slices_Contains___int_int_:Tb:=[]
def T_slices_Contains___int_int_ (s:List Int) (v_:Int):Empty→JT Empty (Bool):=fun j=>nomatch j
def T0_slices_Contains___int_int_ (s:List Int) (v_:Int):JT Empty (Bool):=.br (k_slices_Index___int_int_ s v_) (.leaf (decide ((v_slices_Index___int_int_ s v_)≥(0:Int)))) (.no)
def v_slices_Contains___int_int_ (s:List Int) (v_:Int):Bool:=bif (k_slices_Index___int_int_ s v_) then (decide ((v_slices_Index___int_int_ s v_)≥(0:Int))) else false
def k_slices_Contains___int_int_ (s:List Int) (v_:Int):Bool:=bif (k_slices_Index___int_int_ s v_) then true else false
theorem g_slices_Contains___int_int_ (s:List Int) (v_:Int) (hk:k_slices_Contains___int_int_ s v_=true):Goes (T_slices_Contains___int_int_ s v_) (T0_slices_Contains___int_int_ s v_) (v_slices_Contains___int_int_ s v_):=Goes.brk hk (fun hk=>Goes.leaf) (fun hk=>Goes.nok hk)
def R_slices_Contains___int_int_:Bool→AV:=fun (r:Bool)=>.d .bool r
def S_slices_Contains___int_int_ (s:List Int) (v_:Int):Empty→Nat×St:=fun j=>nomatch j
theorem en_slices_Contains___int_int_ (s:List Int) (v_:Int) (L:Lt):entryA Go.Proofs.Tryz.prog (clOf t_slices_Contains___int_int_) tb_slices_Contains___int_int_ Go.Proofs.Tryz.f75 c_slices_Contains___int_int_ L (toForms sg_slices_Contains___int_int_ (s,v_,()))=(T0_slices_Contains___int_int_ s v_).run (fun v=>some (R_slices_Contains___int_int_ v,tps (toForms sg_slices_Contains___int_int_ (s,v_,())))) fun j=>L (S_slices_Contains___int_int_ s v_ j).1 (S_slices_Contains___int_int_ s v_ j).2:=by kernel_rfl
theorem lp_slices_Contains___int_int_ (s:List Int) (v_:Int):∀(L:Lt) (j:Empty),procOf (procsF Go.Proofs.Tryz.prog (clOf t_slices_Contains___int_int_) tb_slices_Contains___int_int_ Go.Proofs.Tryz.f75 c_slices_Contains___int_int_ (toForms sg_slices_Contains___int_int_ (s,v_,()))) (S_slices_Contains___int_int_ s v_ j).1 L (S_slices_Contains___int_int_ s v_ j).2=(T_slices_Contains___int_int_ s v_ j).run (fun v=>some (R_slices_Contains___int_int_ v,tps (toForms sg_slices_Contains___int_int_ (s,v_,())))) fun j=>L (S_slices_Contains___int_int_ s v_ j).1 (S_slices_Contains___int_int_ s v_ j).2:=fun L j=>nomatch j
noncomputable def e_slices_Contains___int_int_:Run:=entG sg_slices_Contains___int_int_ R_slices_Contains___int_int_ (fun a=>k_slices_Contains___int_int_ a.1 a.2.1) (fun a=>v_slices_Contains___int_int_ a.1 a.2.1)
theorem ok_slices_Contains___int_int_:EntOK Go.Proofs.Tryz.prog 75 e_slices_Contains___int_int_:=entG_ok (tb:=tb_slices_Contains___int_int_) (c:=c_slices_Contains___int_int_) tk_slices_Contains___int_int_ (by kernel_rfl) (by kernel_rfl) (by kernel_rfl) (fun a=>by kernel_rfl) fun ⟨s,v_,_⟩ hk=>evF_goes (c:=c_slices_Contains___int_int_) (K:=fun v=>(R_slices_Contains___int_int_ v,tps (toForms sg_slices_Contains___int_int_ (s,v_,())))) (S:=S_slices_Contains___int_int_ s v_) (by kernel_rfl) (en_slices_Contains___int_int_ s v_) (lp_slices_Contains___int_int_ s v_) (g_slices_Contains___int_int_ s v_ hk)
end
end Go.Ev
end

section
open Go Go.Ev
namespace Go.Ev
noncomputable section
def sg_road_Free:Sig:=[(true,(.sl T_api_Ins)),(false,(.sl (.int .i64))),(false,(.int .i64)),(false,(.int .i64))]
noncomputable def t_road_Free:Tbl:=[(76,e_road_Ends),(75,e_slices_Contains___int_int_)]
theorem tk_road_Free:∀p∈t_road_Free,EntOK Go.Proofs.Tryz.prog p.1 p.2:=tbl_cons ok_road_Ends (tbl_cons ok_slices_Contains___int_int_ (tbl_nil))
noncomputable def c_road_Free:Code:=Go.Proofs.Tryz.f53.body.getD .skip
def tb_road_Free:Tb:=[]
def T_road_Free (t:List (El T_api_Ins)) (points:List Int) (s:Int) (l:Int):Empty→JT Empty (Bool):=fun j=>nomatch j
def T0_road_Free (t:List (El T_api_Ins)) (points:List Int) (s:Int) (l:Int):JT Empty (Bool):=.br (k_road_Ends t points s) (.br (k_slices_Contains___int_int_ (v_road_Ends t points s) l) (.leaf (v_slices_Contains___int_int_ (v_road_Ends t points s) l)) (.no)) (.no)
def v_road_Free (t:List (El T_api_Ins)) (points:List Int) (s:Int) (l:Int):Bool:=bif (k_road_Ends t points s) then bif (k_slices_Contains___int_int_ (v_road_Ends t points s) l) then (v_slices_Contains___int_int_ (v_road_Ends t points s) l) else false else false
def k_road_Free (t:List (El T_api_Ins)) (points:List Int) (s:Int) (l:Int):Bool:=bif (k_road_Ends t points s) then bif (k_slices_Contains___int_int_ (v_road_Ends t points s) l) then true else false else false
theorem g_road_Free (t:List (El T_api_Ins)) (points:List Int) (s:Int) (l:Int) (hk:k_road_Free t points s l=true):Goes (T_road_Free t points s l) (T0_road_Free t points s l) (v_road_Free t points s l):=Goes.brk hk (fun hk=>Goes.brk hk (fun hk=>Goes.leaf) (fun hk=>Goes.nok hk)) (fun hk=>Goes.nok hk)
def R_road_Free:Bool→AV:=fun (r:Bool)=>.d .bool r
def S_road_Free (t:List (El T_api_Ins)) (points:List Int) (s:Int) (l:Int):Empty→Nat×St:=fun j=>nomatch j
theorem en_road_Free (t:List (El T_api_Ins)) (points:List Int) (s:Int) (l:Int) (L:Lt):entryA Go.Proofs.Tryz.prog (clOf t_road_Free) tb_road_Free Go.Proofs.Tryz.f53 c_road_Free L (toForms sg_road_Free (t,points,s,l,()))=(T0_road_Free t points s l).run (fun v=>some (R_road_Free v,tps (toForms sg_road_Free (t,points,s,l,())))) fun j=>L (S_road_Free t points s l j).1 (S_road_Free t points s l j).2:=by kernel_rfl
theorem lp_road_Free (t:List (El T_api_Ins)) (points:List Int) (s:Int) (l:Int):∀(L:Lt) (j:Empty),procOf (procsF Go.Proofs.Tryz.prog (clOf t_road_Free) tb_road_Free Go.Proofs.Tryz.f53 c_road_Free (toForms sg_road_Free (t,points,s,l,()))) (S_road_Free t points s l j).1 L (S_road_Free t points s l j).2=(T_road_Free t points s l j).run (fun v=>some (R_road_Free v,tps (toForms sg_road_Free (t,points,s,l,())))) fun j=>L (S_road_Free t points s l j).1 (S_road_Free t points s l j).2:=fun L j=>nomatch j
noncomputable def e_road_Free:Run:=entG sg_road_Free R_road_Free (fun a=>k_road_Free a.1 a.2.1 a.2.2.1 a.2.2.2.1) (fun a=>v_road_Free a.1 a.2.1 a.2.2.1 a.2.2.2.1)
theorem ok_road_Free:EntOK Go.Proofs.Tryz.prog 53 e_road_Free:=entG_ok (tb:=tb_road_Free) (c:=c_road_Free) tk_road_Free (by kernel_rfl) (by kernel_rfl) (by kernel_rfl) (fun a=>by kernel_rfl) fun ⟨t,points,s,l,_⟩ hk=>evF_goes (c:=c_road_Free) (K:=fun v=>(R_road_Free v,tps (toForms sg_road_Free (t,points,s,l,())))) (S:=S_road_Free t points s l) (by kernel_rfl) (en_road_Free t points s l) (lp_road_Free t points s l) (g_road_Free t points s l hk)
end
end Go.Ev
end

section
open Go Go.Ev
namespace Go.Ev
noncomputable section
def sg_delay_Open:Sig:=[(true,T_api_Prog)]
noncomputable def t_delay_Open:Tbl:=[(25,e_delay_Pairs),(53,e_road_Free)]
theorem tk_delay_Open:∀p∈t_delay_Open,EntOK Go.Proofs.Tryz.prog p.1 p.2:=tbl_cons ok_delay_Pairs (tbl_cons ok_road_Free (tbl_nil))
noncomputable def c_delay_Open:Code:=Go.Proofs.Tryz.f27.body.getD .skip
def tb_delay_Open:Tb:=[(4,⟨[1,3,7,8,9],[(4,104)]⟩)]
inductive J_delay_Open where | l4 (h:Int) (out:List (El T_api_Pair))
def T_delay_Open (p:El T_api_Prog):J_delay_Open→JT J_delay_Open (List (El T_api_Pair)) |.l4 h out=>.br (decide (h < (Int.ofNat (List.length (v_delay_Pairs p))))) (.br ((decide ((0:Int)≤h))&&(decide (h < (Int.ofNat (List.length (v_delay_Pairs p)))))) (.br ((decide ((0:Int)≤(List.getD (v_delay_Pairs p) (Int.toNat h) (dflt T_api_Pair)).1))&&(decide ((List.getD (v_delay_Pairs p) (Int.toNat h) (dflt T_api_Pair)).1 < (Int.ofNat (List.length p.2))))) (.br (k_road_Free (List.getD p.2 (Int.toNat (List.getD (v_delay_Pairs p) (Int.toNat h) (dflt T_api_Pair)).1) (dflt (.sl T_api_Ins))) [] (List.getD (v_delay_Pairs p) (Int.toNat h) (dflt T_api_Pair)).2.1 (List.getD (v_delay_Pairs p) (Int.toNat h) (dflt T_api_Pair)).2.2) (.br (v_road_Free (List.getD p.2 (Int.toNat (List.getD (v_delay_Pairs p) (Int.toNat h) (dflt T_api_Pair)).1) (dflt (.sl T_api_Ins))) [] (List.getD (v_delay_Pairs p) (Int.toNat h) (dflt T_api_Pair)).2.1 (List.getD (v_delay_Pairs p) (Int.toNat h) (dflt T_api_Pair)).2.2) (.br (Nat.ble (((List.length out)+1)*24) limit) (.jmp (.l4 (IntKind.i64.wrap (h+(1:Int))) (out++[(List.getD (v_delay_Pairs p) (Int.toNat h) (dflt T_api_Pair))]))) (.no)) (.jmp (.l4 (IntKind.i64.wrap (h+(1:Int))) out))) (.no)) (.no)) (.no)) (.leaf out)
def T0_delay_Open (p:El T_api_Prog):JT J_delay_Open (List (El T_api_Pair)):=.br (k_delay_Pairs p) (.jmp (.l4 (0:Int) [])) (.no)
def R_delay_Open:List (El T_api_Pair)→AV:=fun (r:List (El T_api_Pair))=>.rw 56 T_api_Pair r
def S_delay_Open (p:El T_api_Prog):J_delay_Open→Nat×St |.l4 h out=>(4,⟨mkTm 30 [(1,.pt 2 0 0),(3,.own 4 0 none),(7,.own 8 0 none),(8,.d (.int .i64) (Int.ofNat (List.length (v_delay_Pairs p)))),(9,.d (.int .i64) h)],[(2,0,.box 26 [.d (.sl T_api_Sym) p.1,.d (.sl (.sl T_api_Ins)) p.2] none),(4,0,.row 56 T_api_Pair out false),(8,0,.row 56 T_api_Pair (v_delay_Pairs p) false)]⟩)
theorem en_delay_Open (p:El T_api_Prog) (L:Lt):entryA Go.Proofs.Tryz.prog (clOf t_delay_Open) tb_delay_Open Go.Proofs.Tryz.f27 c_delay_Open L (toForms sg_delay_Open (p,()))=(T0_delay_Open p).run (fun v=>some (R_delay_Open v,tps (toForms sg_delay_Open (p,())))) fun j=>L (S_delay_Open p j).1 (S_delay_Open p j).2:=by kernel_rfl
theorem lp_delay_Open (p:El T_api_Prog):∀(L:Lt) (j:J_delay_Open),procOf (procsF Go.Proofs.Tryz.prog (clOf t_delay_Open) tb_delay_Open Go.Proofs.Tryz.f27 c_delay_Open (toForms sg_delay_Open (p,()))) (S_delay_Open p j).1 L (S_delay_Open p j).2=(T_delay_Open p j).run (fun v=>some (R_delay_Open v,tps (toForms sg_delay_Open (p,())))) fun j=>L (S_delay_Open p j).1 (S_delay_Open p j).2 | L,.l4 h out=>by kernel_rfl
end
end Go.Ev
end

section
open Go
namespace Go.Ev
noncomputable def openB (p:El T_api_Prog) (x:El T_api_Pair):Bool:=v_road_Free (List.getD p.2 (Int.toNat x.1) (dflt (.sl T_api_Ins))) [] x.2.1 x.2.2
noncomputable def openK (p:El T_api_Prog) (x:El T_api_Pair):Bool:=(decide ((0:Int)≤x.1)&&decide (x.1 < Int.ofNat (List.length p.2)))&&k_road_Free (List.getD p.2 (Int.toNat x.1) (dflt (.sl T_api_Ins))) [] x.2.1 x.2.2
noncomputable def v_delay_Open (p:El T_api_Prog):List (El T_api_Pair):=(v_delay_Pairs p).filter (openB p)
noncomputable def k_delay_Open (p:El T_api_Prog):Bool:=k_delay_Pairs p&&(decide ((v_delay_Pairs p).length < 10000000000)&&(v_delay_Pairs p).all (openK p))
theorem g_delay_Open (p:El T_api_Prog) (hk:k_delay_Open p=true):Goes (T_delay_Open p) (T0_delay_Open p) (v_delay_Open p):=by
 unfold k_delay_Open at hk
 rw[Bool.and_eq_true,Bool.and_eq_true] at hk
 obtain ⟨k1,k2,k3⟩:=hk
 have hN:=of_decide_eq_true k2
 unfold T0_delay_Open v_delay_Open
 rw[goes_br,if_pos k1]
 obtain ⟨l,hl⟩:∃l,v_delay_Pairs p=l:=⟨_,rfl⟩
 rw[hl] at hN k3
 rw[hl]
 have loop:∀k,k≤l.length→∀out:List (El T_api_Pair),out.length≤k→Goes (T_delay_Open p) (.jmp (.l4 (k:Int) out)) (out++(l.drop k).filter (openB p)):=by
  refine down ?_ fun k hk ih=>?_
  ·intro out ho
   rw[goes_jmp,T_delay_Open,hl,goes_br,if_neg (by rw[lt_len_not (Nat.lt_irrefl _)];decide),List.drop_length]
   simp only[List.filter_nil,List.append_nil]
   exact .leaf
  ·intro out ho
   have b1:Nat.ble ((out.length+1)*24) limit=true:=Nat.ble_eq_true_of_le (by unfold limit;omega)
   have hx:=List.all_eq_true.1 k3 l[k] (List.getElem_mem hk)
   unfold openK at hx
   rw[Bool.and_eq_true] at hx
   rw[goes_jmp,T_delay_Open,hl,drop_cons hk,List.filter_cons]
   simp only[goes_br,lt_len hk,nng,Bool.and_self,if_true,Int.toNat_natCast,getD_lt hk,b1,wrap_succ (k:=k) (by omega)]
   rw[if_pos hx.1,if_pos hx.2]
   by_cases c:openB p l[k]=true
   ·have c':=c
    unfold openB at c'
    rw[if_pos c',if_pos c]
    have:=ih (out++[l[k]]) (by simp;omega)
    rw[List.append_assoc] at this
    exact this
   ·have c':=c
    unfold openB at c'
    rw[if_neg c',if_neg c]
    exact ih out (by omega)
 have:=loop 0 (Nat.zero_le _) [] (Nat.zero_le _)
 rw[List.nil_append,List.drop_zero] at this
 exact this
end Go.Ev
end

section
open Go Go.Ev
namespace Go.Ev
noncomputable section
noncomputable def e_delay_Open:Run:=entG sg_delay_Open R_delay_Open (fun a=>k_delay_Open a.1) (fun a=>v_delay_Open a.1)
theorem ok_delay_Open:EntOK Go.Proofs.Tryz.prog 27 e_delay_Open:=entG_ok (tb:=tb_delay_Open) (c:=c_delay_Open) tk_delay_Open (by kernel_rfl) (by kernel_rfl) (by kernel_rfl) (fun a=>by kernel_rfl) fun ⟨p,_⟩ hk=>evF_goes (c:=c_delay_Open) (K:=fun v=>(R_delay_Open v,tps (toForms sg_delay_Open (p,())))) (S:=S_delay_Open p) (by kernel_rfl) (en_delay_Open p) (lp_delay_Open p) (g_delay_Open p hk)
end
end Go.Ev
end

section
open Go Go.Ev
namespace Go.Ev
noncomputable section
def sg_ref3_In:Sig:=[(false,(.sl (.int .i64))),(false,(.int .i64))]
noncomputable def t_ref3_In:Tbl:=[]
theorem tk_ref3_In:∀p∈t_ref3_In,EntOK Go.Proofs.Tryz.prog p.1 p.2:=tbl_nil
noncomputable def c_ref3_In:Code:=Go.Proofs.Tryz.f21.body.getD .skip
def tb_ref3_In:Tb:=[(3,⟨[0,1,5],[]⟩)]
inductive J_ref3_In where | l3 (i:Int)
def T_ref3_In (l:List Int) (n:Int):J_ref3_In→JT J_ref3_In (Bool) |.l3 i=>.br (decide (i < (Int.ofNat (List.length l)))) (.br ((decide ((0:Int)≤i))&&(decide (i < (Int.ofNat (List.length l))))) (.br ((List.getD l (Int.toNat i) (dflt (.int .i64)))==n) (.leaf true) (.jmp (.l3 (IntKind.i64.wrap (i+(1:Int)))))) (.no)) (.leaf false)
def T0_ref3_In (l:List Int) (n:Int):JT J_ref3_In (Bool):=.jmp (.l3 (0:Int))
def R_ref3_In:Bool→AV:=fun (r:Bool)=>.d .bool r
def S_ref3_In (l:List Int) (n:Int):J_ref3_In→Nat×St |.l3 i=>(3,⟨mkTm 18 [(0,.d (.sl (.int .i64)) l),(1,.d (.int .i64) n),(5,.d (.int .i64) i)],[]⟩)
theorem en_ref3_In (l:List Int) (n:Int) (L:Lt):entryA Go.Proofs.Tryz.prog (clOf t_ref3_In) tb_ref3_In Go.Proofs.Tryz.f21 c_ref3_In L (toForms sg_ref3_In (l,n,()))=(T0_ref3_In l n).run (fun v=>some (R_ref3_In v,tps (toForms sg_ref3_In (l,n,())))) fun j=>L (S_ref3_In l n j).1 (S_ref3_In l n j).2:=by kernel_rfl
theorem lp_ref3_In (l:List Int) (n:Int):∀(L:Lt) (j:J_ref3_In),procOf (procsF Go.Proofs.Tryz.prog (clOf t_ref3_In) tb_ref3_In Go.Proofs.Tryz.f21 c_ref3_In (toForms sg_ref3_In (l,n,()))) (S_ref3_In l n j).1 L (S_ref3_In l n j).2=(T_ref3_In l n j).run (fun v=>some (R_ref3_In v,tps (toForms sg_ref3_In (l,n,())))) fun j=>L (S_ref3_In l n j).1 (S_ref3_In l n j).2 | L,.l3 i=>by kernel_rfl
end
end Go.Ev
end

section
open Go
namespace Go.Ev
def v_ref3_In (l:List Int) (n:Int):Bool:=l.contains n
def k_ref3_In (l:List Int) (n:Int):Bool:=decide (l.length < 4611686018427387904)
theorem g_ref3_In (l:List Int) (n:Int) (hk:k_ref3_In l n=true):Goes (T_ref3_In l n) (T0_ref3_In l n) (v_ref3_In l n):=by
 have hn:l.length < 4611686018427387904:=of_decide_eq_true hk
 have loop:∀k,k≤l.length→Goes (T_ref3_In l n) (.jmp (.l3 (k:Int))) ((l.drop k).contains n):=by
  refine down ?_ fun k hk ih=>?_
  ·rw[goes_jmp]
   simp only[T_ref3_In,goes_br,lt_len_not (Nat.lt_irrefl _),goes_leaf,List.drop_length]
   simp
  ·rw[goes_jmp]
   simp only[T_ref3_In,goes_br,lt_len hk,nng,Bool.and_self,if_true,Int.toNat_natCast,getD_lt hk,wrap_succ (k:=k) (by omega)]
   rw[drop_cons hk,List.contains_cons]
   cases h:(l[k]==n) with
   | true=>
    have:(n==l[k])=true:=by simp at h ⊢;exact h.symm
    rw[this];simp[goes_leaf]
   | false=>
    have:(n==l[k])=false:=by simp at h ⊢;exact fun e=>h e.symm
    rw[this];simpa using ih
 unfold T0_ref3_In v_ref3_In
 simpa using loop 0 (Nat.zero_le _)
end Go.Ev
end

section
open Go Go.Ev
namespace Go.Ev
noncomputable section
noncomputable def e_ref3_In:Run:=entG sg_ref3_In R_ref3_In (fun a=>k_ref3_In a.1 a.2.1) (fun a=>v_ref3_In a.1 a.2.1)
theorem ok_ref3_In:EntOK Go.Proofs.Tryz.prog 21 e_ref3_In:=entG_ok (tb:=tb_ref3_In) (c:=c_ref3_In) tk_ref3_In (by kernel_rfl) (by kernel_rfl) (by kernel_rfl) (fun a=>by kernel_rfl) fun ⟨l,n,_⟩ hk=>evF_goes (c:=c_ref3_In) (K:=fun v=>(R_ref3_In v,tps (toForms sg_ref3_In (l,n,())))) (S:=S_ref3_In l n) (by kernel_rfl) (en_ref3_In l n) (lp_ref3_In l n) (g_ref3_In l n hk)
end
end Go.Ev
end

section
open Go Go.Ev
namespace Go.Ev
noncomputable section
def sg_ref1_Fence:Sig:=[(true,T_api_Ins)]
noncomputable def t_ref1_Fence:Tbl:=[(57,e_ref1_InsRight),(41,e_ref1_Locked)]
theorem tk_ref1_Fence:∀p∈t_ref1_Fence,EntOK Go.Proofs.Tryz.prog p.1 p.2:=tbl_cons ok_ref1_InsRight (tbl_cons ok_ref1_Locked (tbl_nil))
noncomputable def c_ref1_Fence:Code:=Go.Proofs.Tryz.f99.body.getD .skip
def tb_ref1_Fence:Tb:=[]
def T_ref1_Fence (i:El T_api_Ins):Empty→JT Empty (Bool):=fun j=>nomatch j
def T0_ref1_Fence (i:El T_api_Ins):JT Empty (Bool):=.br (k_ref1_InsRight i) (.br ((v_ref1_InsRight i)==(0:Int)) (.br (i.1==(12:Int)) (.leaf true) (.br (k_ref1_Locked i) (.leaf (v_ref1_Locked i)) (.no))) (.br (k_ref1_Locked i) (.leaf (v_ref1_Locked i)) (.no))) (.no)
def v_ref1_Fence (i:El T_api_Ins):Bool:=bif (k_ref1_InsRight i) then bif ((v_ref1_InsRight i)==(0:Int)) then bif (i.1==(12:Int)) then true else bif (k_ref1_Locked i) then (v_ref1_Locked i) else false else bif (k_ref1_Locked i) then (v_ref1_Locked i) else false else false
def k_ref1_Fence (i:El T_api_Ins):Bool:=bif (k_ref1_InsRight i) then bif ((v_ref1_InsRight i)==(0:Int)) then bif (i.1==(12:Int)) then true else bif (k_ref1_Locked i) then true else false else bif (k_ref1_Locked i) then true else false else false
theorem g_ref1_Fence (i:El T_api_Ins) (hk:k_ref1_Fence i=true):Goes (T_ref1_Fence i) (T0_ref1_Fence i) (v_ref1_Fence i):=Goes.brk hk (fun hk=>Goes.brk hk (fun hk=>Goes.brk hk (fun hk=>Goes.leaf) (fun hk=>Goes.brk hk (fun hk=>Goes.leaf) (fun hk=>Goes.nok hk))) (fun hk=>Goes.brk hk (fun hk=>Goes.leaf) (fun hk=>Goes.nok hk))) (fun hk=>Goes.nok hk)
def R_ref1_Fence:Bool→AV:=fun (r:Bool)=>.d .bool r
def S_ref1_Fence (i:El T_api_Ins):Empty→Nat×St:=fun j=>nomatch j
theorem en_ref1_Fence (i:El T_api_Ins) (L:Lt):entryA Go.Proofs.Tryz.prog (clOf t_ref1_Fence) tb_ref1_Fence Go.Proofs.Tryz.f99 c_ref1_Fence L (toForms sg_ref1_Fence (i,()))=(T0_ref1_Fence i).run (fun v=>some (R_ref1_Fence v,tps (toForms sg_ref1_Fence (i,())))) fun j=>L (S_ref1_Fence i j).1 (S_ref1_Fence i j).2:=by kernel_rfl
theorem lp_ref1_Fence (i:El T_api_Ins):∀(L:Lt) (j:Empty),procOf (procsF Go.Proofs.Tryz.prog (clOf t_ref1_Fence) tb_ref1_Fence Go.Proofs.Tryz.f99 c_ref1_Fence (toForms sg_ref1_Fence (i,()))) (S_ref1_Fence i j).1 L (S_ref1_Fence i j).2=(T_ref1_Fence i j).run (fun v=>some (R_ref1_Fence v,tps (toForms sg_ref1_Fence (i,())))) fun j=>L (S_ref1_Fence i j).1 (S_ref1_Fence i j).2:=fun L j=>nomatch j
noncomputable def e_ref1_Fence:Run:=entG sg_ref1_Fence R_ref1_Fence (fun a=>k_ref1_Fence a.1) (fun a=>v_ref1_Fence a.1)
theorem ok_ref1_Fence:EntOK Go.Proofs.Tryz.prog 99 e_ref1_Fence:=entG_ok (tb:=tb_ref1_Fence) (c:=c_ref1_Fence) tk_ref1_Fence (by kernel_rfl) (by kernel_rfl) (by kernel_rfl) (fun a=>by kernel_rfl) fun ⟨i,_⟩ hk=>evF_goes (c:=c_ref1_Fence) (K:=fun v=>(R_ref1_Fence v,tps (toForms sg_ref1_Fence (i,())))) (S:=S_ref1_Fence i) (by kernel_rfl) (en_ref1_Fence i) (lp_ref1_Fence i) (g_ref1_Fence i hk)
end
end Go.Ev
end

section
open Go Go.Ev
namespace Go.Ev
noncomputable section
def sg_ref3_ends:Sig:=[(true,(.sl T_api_Ins)),(false,(.sl (.int .i64))),(false,(.int .i64))]
noncomputable def t_ref3_ends:Tbl:=[(73,e_ref3_next),(21,e_ref3_In),(99,e_ref1_Fence)]
theorem tk_ref3_ends:∀p∈t_ref3_ends,EntOK Go.Proofs.Tryz.prog p.1 p.2:=tbl_cons ok_ref3_next (tbl_cons ok_ref3_In (tbl_cons ok_ref1_Fence (tbl_nil)))
noncomputable def c_ref3_ends:Code:=Go.Proofs.Tryz.f77.body.getD .skip
def tb_ref3_ends:Tb:=[(4,⟨[1,3,7,8],[]⟩),(10,⟨[1,3,7,9],[]⟩),(15,⟨[1,3,7,9,10],[]⟩),(23,⟨[1,3,7,9,10,11,12],[]⟩)]
inductive J_ref3_ends where | l4 (i:Int) (is:List Bool) | l10 (is:List Bool) (moved:Bool) | l15 (is:List Bool) (k:Int) (moved:Bool) | l23 (is:List Bool) (k:Int) (more:List Bool) (moved:Bool) (j_:Int)
def T_ref3_ends (t:List (El T_api_Ins)) (points:List Int) (s:Int):J_ref3_ends→JT J_ref3_ends (List Bool) |.l4 i is=>.br (decide (i < (Int.ofNat (List.length is)))) (.br ((decide ((0:Int)≤i))&&(decide (i < (Int.ofNat (List.length is))))) (.br (List.getD is (Int.toNat i) (dflt .bool)) (.br (k_ref3_In points i) (.br ((decide ((0:Int)≤i))&&(decide (i < (Int.ofNat (List.length is))))) (.jmp (.l4 (IntKind.i64.wrap (i+(1:Int))) (List.set is (Int.toNat i) (! (v_ref3_In points i))))) (.no)) (.no)) (.br ((decide ((0:Int)≤i))&&(decide (i < (Int.ofNat (List.length is))))) (.jmp (.l4 (IntKind.i64.wrap (i+(1:Int))) (List.set is (Int.toNat i) false))) (.no))) (.no)) (.jmp (.l10 is true)) |.l10 is moved=>.br moved (.jmp (.l15 is (0:Int) false)) (.leaf is) |.l15 is k moved=>.br (decide (k < (Int.ofNat (List.length is)))) (.br ((decide ((0:Int)≤k))&&(decide (k < (Int.ofNat (List.length is))))) (.br (! (List.getD is (Int.toNat k) (dflt .bool))) (.jmp (.l15 is (IntKind.i64.wrap (k+(1:Int))) moved)) (.br ((decide ((0:Int)≤k))&&(decide (k < (Int.ofNat (List.length t))))) (.br (k_ref1_Fence (List.getD t (Int.toNat k) (dflt T_api_Ins))) (.br (v_ref1_Fence (List.getD t (Int.toNat k) (dflt T_api_Ins))) (.jmp (.l15 is (IntKind.i64.wrap (k+(1:Int))) moved)) (.br (k_ref3_next t k) (.jmp (.l23 is k (v_ref3_next t k) moved (0:Int))) (.no))) (.no)) (.no))) (.no)) (.jmp (.l10 is moved)) |.l23 is k more moved j_=>.br (decide (j_ < (Int.ofNat (List.length is)))) (.br ((decide ((0:Int)≤j_))&&(decide (j_ < (Int.ofNat (List.length more))))) (.br (List.getD more (Int.toNat j_) (dflt .bool)) (.br ((decide ((0:Int)≤j_))&&(decide (j_ < (Int.ofNat (List.length is))))) (.br (! (List.getD is (Int.toNat j_) (dflt .bool))) (.br (k_ref3_In points j_) (.br (! (v_ref3_In points j_)) (.br ((decide ((0:Int)≤j_))&&(decide (j_ < (Int.ofNat (List.length is))))) (.jmp (.l23 (List.set is (Int.toNat j_) true) k more true (IntKind.i64.wrap (j_+(1:Int))))) (.no)) (.jmp (.l23 is k more moved (IntKind.i64.wrap (j_+(1:Int)))))) (.no)) (.jmp (.l23 is k more moved (IntKind.i64.wrap (j_+(1:Int)))))) (.no)) (.jmp (.l23 is k more moved (IntKind.i64.wrap (j_+(1:Int)))))) (.no)) (.jmp (.l15 is (IntKind.i64.wrap (k+(1:Int))) moved))
def T0_ref3_ends (t:List (El T_api_Ins)) (points:List Int) (s:Int):JT J_ref3_ends (List Bool):=.br (k_ref3_next t s) (.jmp (.l4 (0:Int) (v_ref3_next t s))) (.no)
def R_ref3_ends:List Bool→AV:=fun (r:List Bool)=>.rw 4 .bool r
def S_ref3_ends (t:List (El T_api_Ins)) (points:List Int) (s:Int):J_ref3_ends→Nat×St |.l4 i is=>(4,⟨mkTm 85 [(1,.d (.sl (.int .i64)) points),(3,.pt 4 0 0),(7,.own 8 0 none),(8,.d (.int .i64) i)],[(4,0,.box 48 [.d (.sl T_api_Ins) t] none),(8,0,.row 4 .bool is false)]⟩) |.l10 is moved=>(10,⟨mkTm 85 [(1,.d (.sl (.int .i64)) points),(3,.pt 4 0 0),(7,.own 8 0 none),(9,.d .bool moved)],[(4,0,.box 48 [.d (.sl T_api_Ins) t] none),(8,0,.row 4 .bool is false)]⟩) |.l15 is k moved=>(15,⟨mkTm 85 [(1,.d (.sl (.int .i64)) points),(3,.pt 4 0 0),(7,.own 8 0 none),(9,.d .bool moved),(10,.d (.int .i64) k)],[(4,0,.box 48 [.d (.sl T_api_Ins) t] none),(8,0,.row 4 .bool is false)]⟩) |.l23 is k more moved j_=>(23,⟨mkTm 85 [(1,.d (.sl (.int .i64)) points),(3,.pt 4 0 0),(7,.own 8 0 none),(9,.d .bool moved),(10,.d (.int .i64) k),(11,.own 12 0 none),(12,.d (.int .i64) j_)],[(4,0,.box 48 [.d (.sl T_api_Ins) t] none),(8,0,.row 4 .bool is false),(12,0,.row 4 .bool more false)]⟩)
theorem en_ref3_ends (t:List (El T_api_Ins)) (points:List Int) (s:Int) (L:Lt):entryA Go.Proofs.Tryz.prog (clOf t_ref3_ends) tb_ref3_ends Go.Proofs.Tryz.f77 c_ref3_ends L (toForms sg_ref3_ends (t,points,s,()))=(T0_ref3_ends t points s).run (fun v=>some (R_ref3_ends v,tps (toForms sg_ref3_ends (t,points,s,())))) fun j=>L (S_ref3_ends t points s j).1 (S_ref3_ends t points s j).2:=by kernel_rfl
theorem lp_ref3_ends (t:List (El T_api_Ins)) (points:List Int) (s:Int):∀(L:Lt) (j:J_ref3_ends),procOf (procsF Go.Proofs.Tryz.prog (clOf t_ref3_ends) tb_ref3_ends Go.Proofs.Tryz.f77 c_ref3_ends (toForms sg_ref3_ends (t,points,s,()))) (S_ref3_ends t points s j).1 L (S_ref3_ends t points s j).2=(T_ref3_ends t points s j).run (fun v=>some (R_ref3_ends v,tps (toForms sg_ref3_ends (t,points,s,())))) fun j=>L (S_ref3_ends t points s j).1 (S_ref3_ends t points s j).2 | L,.l4 i is=>by kernel_rfl | L,.l10 is moved=>by kernel_rfl | L,.l15 is k moved=>by kernel_rfl | L,.l23 is k more moved j_=>by kernel_rfl
end
end Go.Ev
end

section
open Go
namespace Go.Ev
theorem k_fence' {i:El T_api_Ins} (h:smallText i.2.2.2.2.2.1=true):k_ins_Fence i=true∧k_ref1_Fence i=true:=by
 have h0:k_ins_Right i=true:=h
 have h1:k_ref1_InsRight i=true:=h
 have a:k_ins_Locked i=true:=by unfold k_ins_Locked;simp only[h0,cond_true,Bool.cond_self]
 have b:k_ref1_Locked i=true:=by unfold k_ref1_Locked;simp only[h1,cond_true,Bool.cond_self]
 unfold k_ins_Fence k_ref1_Fence
 simp only[h0,h1,a,b,cond_true,Bool.cond_self,and_self]
theorem fence_eq' {i:El T_api_Ins} (h:smallText i.2.2.2.2.2.1=true):v_ref1_Fence i=v_ins_Fence i:=by
 have h0:k_ins_Right i=true:=h
 have h1:k_ref1_InsRight i=true:=h
 have a:k_ins_Locked i=true:=by unfold k_ins_Locked;simp only[h0,cond_true,Bool.cond_self]
 have b:k_ref1_Locked i=true:=by unfold k_ref1_Locked;simp only[h1,cond_true,Bool.cond_self]
 have c:v_ref1_Locked i=v_ins_Locked i:=by
  unfold v_ref1_Locked v_ins_Locked v_ref1_InsRight
  simp only[h0,h1]
 unfold v_ref1_Fence v_ins_Fence v_ref1_InsRight
 simp only[h0,h1,a,b,c]
end Go.Ev
end

section
open Go
namespace Go.Ev
noncomputable def v_ref3_ends (t:List (El T_api_Ins)) (points:List Int) (s:Int):List Bool:=rowOf t.length (endsB t points s)
def k_ref3_ends (t:List (El T_api_Ins)) (points:List Int) (s:Int):Bool:=flowOK t&&decide (points.length < 4611686018427387904)
theorem g_ref3_ends (t:List (El T_api_Ins)) (points:List Int) (s:Int) (hk:k_ref3_ends t points s=true):Goes (T_ref3_ends t points s) (T0_ref3_ends t points s) (v_ref3_ends t points s):=by
 unfold k_ref3_ends at hk
 rw[Bool.and_eq_true] at hk
 obtain ⟨hf,hpl⟩:=hk
 have hlen:=flowOK_len hf
 have kIn:∀x,k_ref3_In points x=true:=fun x=>hpl
 have vIn:∀x,v_ref3_In points x=points.contains x:=fun x=>rfl
 generalize hn:t.length=n at hlen
 have kfe:∀k,k < n→k_ref1_Fence (List.getD t k (dflt T_api_Ins))=true∧v_ref1_Fence (List.getD t k (dflt T_api_Ins))=fenceAtT t k:=fun k hk=>by
  have hmem:t.getD k (dflt T_api_Ins)∈t:=by rw[getD_lt (by omega)];exact List.getElem_mem (by omega)
  have hs:=flowOK_text hf hmem
  exact ⟨(k_fence' hs).2,fence_eq' hs⟩
 let OK:(Nat→Bool)→(Nat→Bool)→Bool→Prop:=fun M0 M moved=>(∀j,firstB t points s j=true→M j=true)∧(∀j,M j=true→Come (stepB t points) (firstB t points s) j)∧(moved=false→M=M0)∧(moved=true→card n M0 < card n M)
 have hltM:∀ {M0 M moved},OK M0 M moved→∀j,M j=true→j < n:=fun h j hj=>by
  have:=come_lt (n:=t.length) (fun j=>firstB_lt) (fun k j=>stepB_lt) (h.2.1 j hj)
  omega
 have loop:∀m,∀M:Nat→Bool,n - card n M=m→(∀j,firstB t points s j=true→M j=true)→(∀j,M j=true→Come (stepB t points) (firstB t points s) j)→Goes (T_ref3_ends t points s) (.jmp (.l10 (rowOf n M) true)) (v_ref3_ends t points s):=by
  intro m
  induction m using Nat.strongRecOn with
  | _ m ih=>
  intro M0 hm hA hC
  have inner:∀k,k < n→fenceAtT t k=false→∀Z:Prop,(∀M moved,OK M0 M moved→(moved=false→Z∧∀j,stepB t points k j=true→M0 j=true)→Goes (T_ref3_ends t points s) (.jmp (.l15 (rowOf n M) ((k+1:Nat):Int) moved)) (v_ref3_ends t points s))→
    ∀j,j≤n→∀M moved,M k=true→OK M0 M moved→(moved=false→Z∧∀x,x < j→stepB t points k x=true→M0 x=true)→Goes (T_ref3_ends t points s) (.jmp (.l23 (rowOf n M) (k:Int) (rowOf n (nextB t (k:Int))) moved (j:Int))) (v_ref3_ends t points s):=by
   intro k hkn hfk Z hz
   have hst:∀x,stepB t points k x=(nextB t (k:Int) x&& !points.contains (x:Int)):=fun x=>by unfold stepB;rw[hfk];rfl
   refine down ?_ fun j hj ih2=>?_
   ·intro M moved hMk hok hcl
    rw[goes_jmp,T_ref3_ends,goes_br,rowOf_length,if_neg (by rw[lt_len_not (Nat.lt_irrefl _)];decide),wrap_succ (by omega)]
    exact hz M moved hok fun hm=>⟨(hcl hm).1,fun j hj=>(hcl hm).2 j (by have:=stepB_lt hj;omega) hj⟩
   ·intro M moved hMk hok hcl
    rw[goes_jmp,T_ref3_ends,goes_br,rowOf_length,if_pos (lt_len hj),goes_br,rowOf_length,if_pos (bound_len hj),goes_br,Int.toNat_natCast,rowOf_getD hj,wrap_succ (by omega)]
    have skip:(stepB t points k j=true→moved=false→M0 j=true)→Goes (T_ref3_ends t points s) (.jmp (.l23 (rowOf n M) (k:Int) (rowOf n (nextB t (k:Int))) moved ((j+1:Nat):Int))) (v_ref3_ends t points s):=fun hsk=>by
     refine ih2 M moved hMk hok fun hm=>⟨(hcl hm).1,fun x hx hxN=>?_⟩
     by_cases hxj:x=j
     ·subst hxj;exact hsk hxN hm
     ·exact (hcl hm).2 x (by omega) hxN
    by_cases hN:nextB t (k:Int) j=true
    ·rw[if_pos hN,goes_br,if_pos (bound_len hj),goes_br,rowOf_getD hj]
     cases hMj:M j with
     | true=>
      rw[if_neg (by decide)]
      exact skip fun _ hm=>by rw[←hok.2.2.1 hm];exact hMj
     | false=>
      rw[if_pos (by decide),goes_br,if_pos (kIn _),goes_br,vIn]
      cases hpt:points.contains (j:Int) with
      | true=>
       rw[if_neg (by decide)]
       exact skip fun h _=>by rw[hst,hpt,Bool.not_true,Bool.and_false] at h;cases h
      | false=>
       rw[if_pos (by decide),goes_br,if_pos (bound_len hj),rowOf_set]
       have hca:=card_add hMj hj
       refine ih2 (fun x=>M x || (x==j)) true (by rw[hMk];rfl) ⟨fun x hx=>(show (M x || (x==j))=true by rw[hok.1 x hx];rfl),fun x hx=>?_,fun h=>(by cases h),fun _=>?_⟩ (fun h=>by cases h)
       ·simp only[Bool.or_eq_true,beq_iff_eq] at hx
        rcases hx with hx | hx
        ·exact hok.2.1 x hx
        ·subst hx;exact .step (hok.2.1 k hMk) (by rw[hst,hN,hpt];rfl)
       ·cases moved with
        | true=>have:=hok.2.2.2 rfl;omega
        | false=>rw[hok.2.2.1 rfl] at hca;rw[hok.2.2.1 rfl];omega
    ·rw[if_neg hN]
     exact skip fun h _=>by rw[hst] at h;simp only[Bool.and_eq_true] at h;exact absurd h.1 hN
  have pass:∀k,k≤n→∀M moved,OK M0 M moved→(moved=false→∀k' j,k' < k→M0 k'=true→stepB t points k' j=true→M0 j=true)→Goes (T_ref3_ends t points s) (.jmp (.l15 (rowOf n M) (k:Int) moved)) (v_ref3_ends t points s):=by
   refine down ?_ fun k hkn ih2=>?_
   ·intro M moved hok hcl
    rw[goes_jmp,T_ref3_ends,goes_br,rowOf_length,if_neg (by rw[lt_len_not (Nat.lt_irrefl _)];decide)]
    cases moved with
    | true=>
     have h1:=hok.2.2.2 rfl
     have h2:= @card_le n M
     exact ih (n - card n M) (by omega) M rfl hok.1 hok.2.1
    | false=>
     have e:=hok.2.2.1 rfl
     subst e
     rw[goes_jmp,T_ref3_ends,goes_br,if_neg (by decide)]
     have hv:rowOf n M=v_ref3_ends t points s:=by
      unfold v_ref3_ends endsB
      rw[hn]
      exact rowOf_congr fun j _=>comeB_eq hok.1 (fun k j hk hj=>hcl rfl k j (hltM hok k hk) hk hj) hok.2.1 j
     rw[hv];exact .leaf
   ·intro M moved hok hcl
    rw[goes_jmp,T_ref3_ends,goes_br,rowOf_length,if_pos (lt_len hkn),goes_br,if_pos (bound_len hkn),goes_br,Int.toNat_natCast,rowOf_getD hkn]
    cases hMk:M k with
    | false=>
     rw[if_pos (by decide),wrap_succ (by omega)]
     refine ih2 M moved hok fun hm k' j hk' hk1 hj=>?_
     by_cases e:k'=k
     ·subst e;rw[←hok.2.2.1 hm,hMk] at hk1;cases hk1
     ·exact hcl hm k' j (by omega) hk1 hj
    | true=>
     have kn:k_ref3_next t (k:Int)=true:=hf
     obtain ⟨kf1,vf1⟩:=kfe k hkn
     rw[if_neg (by decide),goes_br,hn,if_pos (bound_len hkn),goes_br,if_pos kf1,goes_br,vf1]
     cases hfk:fenceAtT t k with
     | true=>
      rw[if_pos rfl,wrap_succ (by omega)]
      refine ih2 M moved hok fun hm k' j hk' hk1 hj=>?_
      by_cases e:k'=k
      ·subst e;unfold stepB at hj;rw[hfk] at hj;cases hj
      ·exact hcl hm k' j (by omega) hk1 hj
     | false=>
      rw[if_neg (by decide),goes_br,if_pos kn]
      have hvn:v_ref3_next t (k:Int)=rowOf n (nextB t (k:Int)):=by unfold v_ref3_next;rw[hn]
      rw[hvn]
      refine inner k hkn hfk (∀k' j,k' < k→M0 k'=true→stepB t points k' j=true→M0 j=true) (fun M' moved' hok' hcl'=>ih2 M' moved' hok' fun hm k' j hk' hk1 hj=>?_) 0 (Nat.zero_le _) M moved hMk hok (fun hm=>⟨hcl hm,fun x hx=>by omega⟩)
      by_cases e:k'=k
      ·subst e;exact (hcl' hm).2 j hj
      ·exact (hcl' hm).1 k' j (by omega) hk1 hj
  rw[goes_jmp,T_ref3_ends,goes_br,if_pos rfl]
  exact pass 0 (Nat.zero_le _) M0 false ⟨hA,hC,fun _=>rfl,fun h=>by cases h⟩ fun _ k' j h=>by omega
 have kn:k_ref3_next t s=true:=hf
 unfold T0_ref3_ends
 rw[goes_br,if_pos kn]
 have hvn:v_ref3_next t s=rowOf n fun j=>if j < 0 then firstB t points s j else nextB t s j:=by
  unfold v_ref3_next;rw[hn]
  exact rowOf_congr fun j _=>by rw[if_neg (by omega)]
 rw[hvn]
 have first:∀k,k≤n→Goes (T_ref3_ends t points s) (.jmp (.l4 (k:Int) (rowOf n fun j=>if j < k then firstB t points s j else nextB t s j))) (v_ref3_ends t points s):=by
  refine down ?_ fun k hkn ih=>?_
  ·rw[goes_jmp,T_ref3_ends,goes_br,rowOf_length,if_neg (by rw[lt_len_not (Nat.lt_irrefl _)];decide)]
   rw[show (rowOf n fun j=>if j < n then firstB t points s j else nextB t s j)=rowOf n (firstB t points s) from rowOf_congr fun j hj=>by rw[if_pos hj]]
   exact loop _ (firstB t points s) rfl (fun j h=>h) (fun j h=>.start h)
  ·have nx:∀b,b=firstB t points s k→Goes (T_ref3_ends t points s) (.jmp (.l4 ((k+1:Nat):Int) ((rowOf n fun j=>if j < k then firstB t points s j else nextB t s j).set k b))) (v_ref3_ends t points s):=fun b hb=>by
    rw[rowOf_put]
    rw[show (rowOf n fun j=>if j=k then b else if j < k then firstB t points s j else nextB t s j)=rowOf n fun j=>if j < k+1 then firstB t points s j else nextB t s j from rowOf_congr fun j _=>by
     by_cases h1:j=k
     ·subst h1;rw[if_pos rfl,if_pos (by omega),hb]
     ·rw[if_neg h1]
      by_cases h2:j < k
      ·rw[if_pos h2,if_pos (by omega)]
      ·rw[if_neg h2,if_neg (by omega)]]
    exact ih
   rw[goes_jmp,T_ref3_ends,goes_br,rowOf_length,if_pos (lt_len hkn),goes_br,if_pos (bound_len hkn),goes_br,Int.toNat_natCast,rowOf_getD hkn,if_neg (c:=k < k) (Nat.lt_irrefl k),wrap_succ (by omega)]
   cases hN:nextB t s k with
   | true=>
    rw[if_pos rfl,goes_br,if_pos (kIn _),goes_br,if_pos (bound_len hkn),vIn]
    exact nx _ (by unfold firstB;rw[hN,Bool.true_and])
   | false=>
    rw[if_neg (by decide),goes_br,if_pos (bound_len hkn)]
    exact nx false (by unfold firstB;rw[hN,Bool.false_and])
 exact first 0 (Nat.zero_le _)
end Go.Ev
end

section
open Go Go.Ev
namespace Go.Ev
noncomputable section
noncomputable def e_ref3_ends:Run:=entG sg_ref3_ends R_ref3_ends (fun a=>k_ref3_ends a.1 a.2.1 a.2.2.1) (fun a=>v_ref3_ends a.1 a.2.1 a.2.2.1)
theorem ok_ref3_ends:EntOK Go.Proofs.Tryz.prog 77 e_ref3_ends:=entG_ok (tb:=tb_ref3_ends) (c:=c_ref3_ends) tk_ref3_ends (by kernel_rfl) (by kernel_rfl) (by kernel_rfl) (fun a=>by kernel_rfl) fun ⟨t,points,s,_⟩ hk=>evF_goes (c:=c_ref3_ends) (K:=fun v=>(R_ref3_ends v,tps (toForms sg_ref3_ends (t,points,s,())))) (S:=S_ref3_ends t points s) (by kernel_rfl) (en_ref3_ends t points s) (lp_ref3_ends t points s) (g_ref3_ends t points s hk)
end
end Go.Ev
end

section
open Go Go.Ev
namespace Go.Ev
noncomputable section
def sg_ref3_Free:Sig:=[(true,(.sl T_api_Ins)),(false,(.sl (.int .i64))),(false,(.int .i64)),(false,(.int .i64))]
noncomputable def t_ref3_Free:Tbl:=[(77,e_ref3_ends)]
theorem tk_ref3_Free:∀p∈t_ref3_Free,EntOK Go.Proofs.Tryz.prog p.1 p.2:=tbl_cons ok_ref3_ends (tbl_nil)
noncomputable def c_ref3_Free:Code:=Go.Proofs.Tryz.f54.body.getD .skip
def tb_ref3_Free:Tb:=[]
def T_ref3_Free (t:List (El T_api_Ins)) (points:List Int) (s:Int) (l:Int):Empty→JT Empty (Bool):=fun j=>nomatch j
def T0_ref3_Free (t:List (El T_api_Ins)) (points:List Int) (s:Int) (l:Int):JT Empty (Bool):=.br (decide (l≥(0:Int))) (.br (decide (l < (Int.ofNat (List.length t)))) (.br (k_ref3_ends t points s) (.br ((decide ((0:Int)≤l))&&(decide (l < (Int.ofNat (List.length (v_ref3_ends t points s)))))) (.leaf (List.getD (v_ref3_ends t points s) (Int.toNat l) (dflt .bool))) (.no)) (.no)) (.leaf false)) (.leaf false)
def v_ref3_Free (t:List (El T_api_Ins)) (points:List Int) (s:Int) (l:Int):Bool:=bif (decide (l≥(0:Int))) then bif (decide (l < (Int.ofNat (List.length t)))) then bif (k_ref3_ends t points s) then bif ((decide ((0:Int)≤l))&&(decide (l < (Int.ofNat (List.length (v_ref3_ends t points s)))))) then (List.getD (v_ref3_ends t points s) (Int.toNat l) (dflt .bool)) else false else false else false else false
def k_ref3_Free (t:List (El T_api_Ins)) (points:List Int) (s:Int) (l:Int):Bool:=bif (decide (l≥(0:Int))) then bif (decide (l < (Int.ofNat (List.length t)))) then bif (k_ref3_ends t points s) then bif ((decide ((0:Int)≤l))&&(decide (l < (Int.ofNat (List.length (v_ref3_ends t points s)))))) then true else false else false else true else true
theorem g_ref3_Free (t:List (El T_api_Ins)) (points:List Int) (s:Int) (l:Int) (hk:k_ref3_Free t points s l=true):Goes (T_ref3_Free t points s l) (T0_ref3_Free t points s l) (v_ref3_Free t points s l):=Goes.brk hk (fun hk=>Goes.brk hk (fun hk=>Goes.brk hk (fun hk=>Goes.brk hk (fun hk=>Goes.leaf) (fun hk=>Goes.nok hk)) (fun hk=>Goes.nok hk)) (fun hk=>Goes.leaf)) (fun hk=>Goes.leaf)
def R_ref3_Free:Bool→AV:=fun (r:Bool)=>.d .bool r
def S_ref3_Free (t:List (El T_api_Ins)) (points:List Int) (s:Int) (l:Int):Empty→Nat×St:=fun j=>nomatch j
theorem en_ref3_Free (t:List (El T_api_Ins)) (points:List Int) (s:Int) (l:Int) (L:Lt):entryA Go.Proofs.Tryz.prog (clOf t_ref3_Free) tb_ref3_Free Go.Proofs.Tryz.f54 c_ref3_Free L (toForms sg_ref3_Free (t,points,s,l,()))=(T0_ref3_Free t points s l).run (fun v=>some (R_ref3_Free v,tps (toForms sg_ref3_Free (t,points,s,l,())))) fun j=>L (S_ref3_Free t points s l j).1 (S_ref3_Free t points s l j).2:=by kernel_rfl
theorem lp_ref3_Free (t:List (El T_api_Ins)) (points:List Int) (s:Int) (l:Int):∀(L:Lt) (j:Empty),procOf (procsF Go.Proofs.Tryz.prog (clOf t_ref3_Free) tb_ref3_Free Go.Proofs.Tryz.f54 c_ref3_Free (toForms sg_ref3_Free (t,points,s,l,()))) (S_ref3_Free t points s l j).1 L (S_ref3_Free t points s l j).2=(T_ref3_Free t points s l j).run (fun v=>some (R_ref3_Free v,tps (toForms sg_ref3_Free (t,points,s,l,())))) fun j=>L (S_ref3_Free t points s l j).1 (S_ref3_Free t points s l j).2:=fun L j=>nomatch j
noncomputable def e_ref3_Free:Run:=entG sg_ref3_Free R_ref3_Free (fun a=>k_ref3_Free a.1 a.2.1 a.2.2.1 a.2.2.2.1) (fun a=>v_ref3_Free a.1 a.2.1 a.2.2.1 a.2.2.2.1)
theorem ok_ref3_Free:EntOK Go.Proofs.Tryz.prog 54 e_ref3_Free:=entG_ok (tb:=tb_ref3_Free) (c:=c_ref3_Free) tk_ref3_Free (by kernel_rfl) (by kernel_rfl) (by kernel_rfl) (fun a=>by kernel_rfl) fun ⟨t,points,s,l,_⟩ hk=>evF_goes (c:=c_ref3_Free) (K:=fun v=>(R_ref3_Free v,tps (toForms sg_ref3_Free (t,points,s,l,())))) (S:=S_ref3_Free t points s l) (by kernel_rfl) (en_ref3_Free t points s l) (lp_ref3_Free t points s l) (g_ref3_Free t points s l hk)
end
end Go.Ev
end

section
open Go Go.Ev
namespace Go.Ev
noncomputable section
def sg_ref3_Open:Sig:=[(true,T_api_Prog)]
noncomputable def t_ref3_Open:Tbl:=[(26,e_ref3_Delays),(54,e_ref3_Free)]
theorem tk_ref3_Open:∀p∈t_ref3_Open,EntOK Go.Proofs.Tryz.prog p.1 p.2:=tbl_cons ok_ref3_Delays (tbl_cons ok_ref3_Free (tbl_nil))
noncomputable def c_ref3_Open:Code:=Go.Proofs.Tryz.f28.body.getD .skip
def tb_ref3_Open:Tb:=[(5,⟨[1,3,4,5],[(5,104)]⟩)]
inductive J_ref3_Open where | l5 (i:Int) (out:List (El T_api_Pair))
def T_ref3_Open (p:El T_api_Prog):J_ref3_Open→JT J_ref3_Open (List (El T_api_Pair)) |.l5 i out=>.br (decide (i < (Int.ofNat (List.length (v_ref3_Delays p))))) (.br ((decide ((0:Int)≤i))&&(decide (i < (Int.ofNat (List.length (v_ref3_Delays p)))))) (.br ((decide ((0:Int)≤(List.getD (v_ref3_Delays p) (Int.toNat i) (dflt T_api_Pair)).1))&&(decide ((List.getD (v_ref3_Delays p) (Int.toNat i) (dflt T_api_Pair)).1 < (Int.ofNat (List.length p.2))))) (.br ((decide ((0:Int)≤i))&&(decide (i < (Int.ofNat (List.length (v_ref3_Delays p)))))) (.br ((decide ((0:Int)≤i))&&(decide (i < (Int.ofNat (List.length (v_ref3_Delays p)))))) (.br (k_ref3_Free (List.getD p.2 (Int.toNat (List.getD (v_ref3_Delays p) (Int.toNat i) (dflt T_api_Pair)).1) (dflt (.sl T_api_Ins))) [] (List.getD (v_ref3_Delays p) (Int.toNat i) (dflt T_api_Pair)).2.1 (List.getD (v_ref3_Delays p) (Int.toNat i) (dflt T_api_Pair)).2.2) (.br (v_ref3_Free (List.getD p.2 (Int.toNat (List.getD (v_ref3_Delays p) (Int.toNat i) (dflt T_api_Pair)).1) (dflt (.sl T_api_Ins))) [] (List.getD (v_ref3_Delays p) (Int.toNat i) (dflt T_api_Pair)).2.1 (List.getD (v_ref3_Delays p) (Int.toNat i) (dflt T_api_Pair)).2.2) (.br ((decide ((0:Int)≤i))&&(decide (i < (Int.ofNat (List.length (v_ref3_Delays p)))))) (.br (Nat.ble (((List.length out)+1)*24) limit) (.jmp (.l5 (IntKind.i64.wrap (i+(1:Int))) (out++[(List.getD (v_ref3_Delays p) (Int.toNat i) (dflt T_api_Pair))]))) (.no)) (.no)) (.jmp (.l5 (IntKind.i64.wrap (i+(1:Int))) out))) (.no)) (.no)) (.no)) (.no)) (.no)) (.leaf out)
def T0_ref3_Open (p:El T_api_Prog):JT J_ref3_Open (List (El T_api_Pair)):=.br (k_ref3_Delays p) (.jmp (.l5 (0:Int) [])) (.no)
def R_ref3_Open:List (El T_api_Pair)→AV:=fun (r:List (El T_api_Pair))=>.rw 56 T_api_Pair r
def S_ref3_Open (p:El T_api_Prog):J_ref3_Open→Nat×St |.l5 i out=>(5,⟨mkTm 42 [(1,.pt 2 0 0),(3,.own 4 0 none),(4,.own 5 0 none),(5,.d (.int .i64) i)],[(2,0,.box 26 [.d (.sl T_api_Sym) p.1,.d (.sl (.sl T_api_Ins)) p.2] none),(4,0,.row 56 T_api_Pair (v_ref3_Delays p) false),(5,0,.row 56 T_api_Pair out false)]⟩)
theorem en_ref3_Open (p:El T_api_Prog) (L:Lt):entryA Go.Proofs.Tryz.prog (clOf t_ref3_Open) tb_ref3_Open Go.Proofs.Tryz.f28 c_ref3_Open L (toForms sg_ref3_Open (p,()))=(T0_ref3_Open p).run (fun v=>some (R_ref3_Open v,tps (toForms sg_ref3_Open (p,())))) fun j=>L (S_ref3_Open p j).1 (S_ref3_Open p j).2:=by kernel_rfl
theorem lp_ref3_Open (p:El T_api_Prog):∀(L:Lt) (j:J_ref3_Open),procOf (procsF Go.Proofs.Tryz.prog (clOf t_ref3_Open) tb_ref3_Open Go.Proofs.Tryz.f28 c_ref3_Open (toForms sg_ref3_Open (p,()))) (S_ref3_Open p j).1 L (S_ref3_Open p j).2=(T_ref3_Open p j).run (fun v=>some (R_ref3_Open v,tps (toForms sg_ref3_Open (p,())))) fun j=>L (S_ref3_Open p j).1 (S_ref3_Open p j).2 | L,.l5 i out=>by kernel_rfl
end
end Go.Ev
end

section
open Go
namespace Go.Ev
noncomputable def openR (p:El T_api_Prog) (x:El T_api_Pair):Bool:=v_ref3_Free (List.getD p.2 (Int.toNat x.1) (dflt (.sl T_api_Ins))) [] x.2.1 x.2.2
noncomputable def openRK (p:El T_api_Prog) (x:El T_api_Pair):Bool:=(decide ((0:Int)≤x.1)&&decide (x.1 < Int.ofNat (List.length p.2)))&&k_ref3_Free (List.getD p.2 (Int.toNat x.1) (dflt (.sl T_api_Ins))) [] x.2.1 x.2.2
noncomputable def v_ref3_Open (p:El T_api_Prog):List (El T_api_Pair):=(v_ref3_Delays p).filter (openR p)
noncomputable def k_ref3_Open (p:El T_api_Prog):Bool:=k_ref3_Delays p&&(decide ((v_ref3_Delays p).length < 10000000000)&&(v_ref3_Delays p).all (openRK p))
theorem g_ref3_Open (p:El T_api_Prog) (hk:k_ref3_Open p=true):Goes (T_ref3_Open p) (T0_ref3_Open p) (v_ref3_Open p):=by
 unfold k_ref3_Open at hk
 rw[Bool.and_eq_true,Bool.and_eq_true] at hk
 obtain ⟨k1,k2,k3⟩:=hk
 have hN:=of_decide_eq_true k2
 unfold T0_ref3_Open v_ref3_Open
 rw[goes_br,if_pos k1]
 obtain ⟨l,hl⟩:∃l,v_ref3_Delays p=l:=⟨_,rfl⟩
 rw[hl] at hN k3
 rw[hl]
 have loop:∀k,k≤l.length→∀out:List (El T_api_Pair),out.length≤k→Goes (T_ref3_Open p) (.jmp (.l5 (k:Int) out)) (out++(l.drop k).filter (openR p)):=by
  refine down ?_ fun k hk ih=>?_
  ·intro out ho
   rw[goes_jmp,T_ref3_Open,hl,goes_br,if_neg (by rw[lt_len_not (Nat.lt_irrefl _)];decide),List.drop_length]
   simp only[List.filter_nil,List.append_nil]
   exact .leaf
  ·intro out ho
   have b1:Nat.ble ((out.length+1)*24) limit=true:=Nat.ble_eq_true_of_le (by unfold limit;omega)
   have hx:=List.all_eq_true.1 k3 l[k] (List.getElem_mem hk)
   unfold openRK at hx
   rw[Bool.and_eq_true] at hx
   rw[goes_jmp,T_ref3_Open,hl,drop_cons hk,List.filter_cons]
   simp only[goes_br,lt_len hk,nng,Bool.and_self,if_true,Int.toNat_natCast,getD_lt hk,b1,wrap_succ (k:=k) (by omega)]
   rw[if_pos hx.1,if_pos hx.2]
   by_cases c:openR p l[k]=true
   ·have c':=c
    unfold openR at c'
    rw[if_pos c',if_pos c]
    have:=ih (out++[l[k]]) (by simp;omega)
    rw[List.append_assoc] at this
    exact this
   ·have c':=c
    unfold openR at c'
    rw[if_neg c',if_neg c]
    exact ih out (by omega)
 have:=loop 0 (Nat.zero_le _) [] (Nat.zero_le _)
 rw[List.nil_append,List.drop_zero] at this
 exact this
end Go.Ev
end

section
open Go Go.Ev
namespace Go.Ev
noncomputable section
noncomputable def e_ref3_Open:Run:=entG sg_ref3_Open R_ref3_Open (fun a=>k_ref3_Open a.1) (fun a=>v_ref3_Open a.1)
theorem ok_ref3_Open:EntOK Go.Proofs.Tryz.prog 28 e_ref3_Open:=entG_ok (tb:=tb_ref3_Open) (c:=c_ref3_Open) tk_ref3_Open (by kernel_rfl) (by kernel_rfl) (by kernel_rfl) (fun a=>by kernel_rfl) fun ⟨p,_⟩ hk=>evF_goes (c:=c_ref3_Open) (K:=fun v=>(R_ref3_Open v,tps (toForms sg_ref3_Open (p,())))) (S:=S_ref3_Open p) (by kernel_rfl) (en_ref3_Open p) (lp_ref3_Open p) (g_ref3_Open p hk)
end
end Go.Ev
end

section
open Go Go.Ev
namespace Go.Ev
noncomputable section
def sg_law24_both:Sig:=[]
noncomputable def t_law24_both:Tbl:=[]
theorem tk_law24_both:∀p∈t_law24_both,EntOK Go.Proofs.Tryz.prog p.1 p.2:=tbl_nil
noncomputable def c_law24_both:Code:=Go.Proofs.Tryz.f55.body.getD .skip
def tb_law24_both:Tb:=[]
def T_law24_both:Empty→JT Empty (El T_api_Prog):=fun j=>nomatch j
def T0_law24_both:JT Empty (El T_api_Prog):=.leaf ([((bs [120]),((1:Int),[])),((bs [121]),((1:Int),[]))],[[((1:Int),(false,((0:Int),(((3:Int),((0:Int),((0:Int),(0:Int)))),(((2:Int),((0:Int),((0:Int),(1:Int)))),((bs []),[])))))),((1:Int),(false,((0:Int),(((1:Int),((0:Int),((0:Int),(0:Int)))),(((3:Int),((0:Int),((1:Int),(0:Int)))),((bs []),[])))))),((14:Int),(false,((0:Int),(((0:Int),((0:Int),((0:Int),(0:Int)))),(((0:Int),((0:Int),((0:Int),(0:Int)))),((bs []),[]))))))],[((1:Int),(false,((0:Int),(((3:Int),((0:Int),((1:Int),(0:Int)))),(((2:Int),((0:Int),((0:Int),(1:Int)))),((bs []),[])))))),((1:Int),(false,((0:Int),(((1:Int),((0:Int),((0:Int),(0:Int)))),(((3:Int),((0:Int),((0:Int),(0:Int)))),((bs []),[])))))),((14:Int),(false,((0:Int),(((0:Int),((0:Int),((0:Int),(0:Int)))),(((0:Int),((0:Int),((0:Int),(0:Int)))),((bs []),[]))))))]])
def v_law24_both:El T_api_Prog:=([((bs [120]),((1:Int),[])),((bs [121]),((1:Int),[]))],[[((1:Int),(false,((0:Int),(((3:Int),((0:Int),((0:Int),(0:Int)))),(((2:Int),((0:Int),((0:Int),(1:Int)))),((bs []),[])))))),((1:Int),(false,((0:Int),(((1:Int),((0:Int),((0:Int),(0:Int)))),(((3:Int),((0:Int),((1:Int),(0:Int)))),((bs []),[])))))),((14:Int),(false,((0:Int),(((0:Int),((0:Int),((0:Int),(0:Int)))),(((0:Int),((0:Int),((0:Int),(0:Int)))),((bs []),[]))))))],[((1:Int),(false,((0:Int),(((3:Int),((0:Int),((1:Int),(0:Int)))),(((2:Int),((0:Int),((0:Int),(1:Int)))),((bs []),[])))))),((1:Int),(false,((0:Int),(((1:Int),((0:Int),((0:Int),(0:Int)))),(((3:Int),((0:Int),((0:Int),(0:Int)))),((bs []),[])))))),((14:Int),(false,((0:Int),(((0:Int),((0:Int),((0:Int),(0:Int)))),(((0:Int),((0:Int),((0:Int),(0:Int)))),((bs []),[]))))))]])
theorem g_law24_both:Goes (T_law24_both) (T0_law24_both) (v_law24_both):=Goes.leaf
def R_law24_both:El T_api_Prog→AV:=fun (r:El T_api_Prog)=>.ag [.rw 67 T_api_Sym r.1,.rw 48 (.sl T_api_Ins) r.2]
def S_law24_both:Empty→Nat×St:=fun j=>nomatch j
theorem en_law24_both (L:Lt):entryA Go.Proofs.Tryz.prog (clOf t_law24_both) tb_law24_both Go.Proofs.Tryz.f55 c_law24_both L (toForms sg_law24_both (()))=(T0_law24_both).run (fun v=>some (R_law24_both v,tps (toForms sg_law24_both (())))) fun j=>L (S_law24_both j).1 (S_law24_both j).2:=by kernel_rfl
theorem lp_law24_both:∀(L:Lt) (j:Empty),procOf (procsF Go.Proofs.Tryz.prog (clOf t_law24_both) tb_law24_both Go.Proofs.Tryz.f55 c_law24_both (toForms sg_law24_both (()))) (S_law24_both j).1 L (S_law24_both j).2=(T_law24_both j).run (fun v=>some (R_law24_both v,tps (toForms sg_law24_both (())))) fun j=>L (S_law24_both j).1 (S_law24_both j).2:=fun L j=>nomatch j
noncomputable def e_law24_both:Run:=entT sg_law24_both R_law24_both (fun a=>v_law24_both)
theorem ok_law24_both:EntOK Go.Proofs.Tryz.prog 55 e_law24_both:=entT_ok (tb:=tb_law24_both) (c:=c_law24_both) tk_law24_both (by kernel_rfl) (by kernel_rfl) (by kernel_rfl) (fun a=>by kernel_rfl) fun _=>evF_goes (c:=c_law24_both) (K:=fun v=>(R_law24_both v,tps (toForms sg_law24_both (())))) (S:=S_law24_both) (by kernel_rfl) (en_law24_both) (lp_law24_both) (g_law24_both)
end
end Go.Ev
end

section
open Go Go.Ev
namespace Go.Ev
noncomputable section
def sg_law24_alive:Sig:=[]
noncomputable def t_law24_alive:Tbl:=[(55,e_law24_both),(25,e_delay_Pairs),(24,e_book_SamePairs),(27,e_delay_Open)]
theorem tk_law24_alive:∀p∈t_law24_alive,EntOK Go.Proofs.Tryz.prog p.1 p.2:=tbl_cons ok_law24_both (tbl_cons ok_delay_Pairs (tbl_cons ok_book_SamePairs (tbl_cons ok_delay_Open (tbl_nil))))
noncomputable def c_law24_alive:Code:=Go.Proofs.Tryz.f29.body.getD .skip
def tb_law24_alive:Tb:=[]
def T_law24_alive:Empty→JT Empty (Bool):=fun j=>nomatch j
def T0_law24_alive:JT Empty (Bool):=.br (k_delay_Pairs v_law24_both) (.br (k_book_SamePairs (v_delay_Pairs v_law24_both) [((0:Int),((0:Int),(1:Int))),((1:Int),((0:Int),(1:Int)))]) (.br (v_book_SamePairs (v_delay_Pairs v_law24_both) [((0:Int),((0:Int),(1:Int))),((1:Int),((0:Int),(1:Int)))]) (.br (k_delay_Open v_law24_both) (.br (k_book_SamePairs (v_delay_Open v_law24_both) [((0:Int),((0:Int),(1:Int))),((1:Int),((0:Int),(1:Int)))]) (.br (v_book_SamePairs (v_delay_Open v_law24_both) [((0:Int),((0:Int),(1:Int))),((1:Int),((0:Int),(1:Int)))]) (.br (k_delay_Pairs ([],[])) (.leaf ((Int.ofNat (List.length (v_delay_Pairs ([],[]))))==(0:Int))) (.no)) (.leaf false)) (.no)) (.no)) (.leaf false)) (.no)) (.no)
def v_law24_alive:Bool:=bif (k_delay_Pairs v_law24_both) then bif (k_book_SamePairs (v_delay_Pairs v_law24_both) [((0:Int),((0:Int),(1:Int))),((1:Int),((0:Int),(1:Int)))]) then bif (v_book_SamePairs (v_delay_Pairs v_law24_both) [((0:Int),((0:Int),(1:Int))),((1:Int),((0:Int),(1:Int)))]) then bif (k_delay_Open v_law24_both) then bif (k_book_SamePairs (v_delay_Open v_law24_both) [((0:Int),((0:Int),(1:Int))),((1:Int),((0:Int),(1:Int)))]) then bif (v_book_SamePairs (v_delay_Open v_law24_both) [((0:Int),((0:Int),(1:Int))),((1:Int),((0:Int),(1:Int)))]) then bif (k_delay_Pairs ([],[])) then ((Int.ofNat (List.length (v_delay_Pairs ([],[]))))==(0:Int)) else false else false else false else false else false else false else false
def k_law24_alive:Bool:=bif (k_delay_Pairs v_law24_both) then bif (k_book_SamePairs (v_delay_Pairs v_law24_both) [((0:Int),((0:Int),(1:Int))),((1:Int),((0:Int),(1:Int)))]) then bif (v_book_SamePairs (v_delay_Pairs v_law24_both) [((0:Int),((0:Int),(1:Int))),((1:Int),((0:Int),(1:Int)))]) then bif (k_delay_Open v_law24_both) then bif (k_book_SamePairs (v_delay_Open v_law24_both) [((0:Int),((0:Int),(1:Int))),((1:Int),((0:Int),(1:Int)))]) then bif (v_book_SamePairs (v_delay_Open v_law24_both) [((0:Int),((0:Int),(1:Int))),((1:Int),((0:Int),(1:Int)))]) then bif (k_delay_Pairs ([],[])) then true else false else true else false else false else true else false else false
theorem g_law24_alive (hk:k_law24_alive=true):Goes (T_law24_alive) (T0_law24_alive) (v_law24_alive):=Goes.brk hk (fun hk=>Goes.brk hk (fun hk=>Goes.brk hk (fun hk=>Goes.brk hk (fun hk=>Goes.brk hk (fun hk=>Goes.brk hk (fun hk=>Goes.brk hk (fun hk=>Goes.leaf) (fun hk=>Goes.nok hk)) (fun hk=>Goes.leaf)) (fun hk=>Goes.nok hk)) (fun hk=>Goes.nok hk)) (fun hk=>Goes.leaf)) (fun hk=>Goes.nok hk)) (fun hk=>Goes.nok hk)
def R_law24_alive:Bool→AV:=fun (r:Bool)=>.d .bool r
def S_law24_alive:Empty→Nat×St:=fun j=>nomatch j
theorem en_law24_alive (L:Lt):entryA Go.Proofs.Tryz.prog (clOf t_law24_alive) tb_law24_alive Go.Proofs.Tryz.f29 c_law24_alive L (toForms sg_law24_alive (()))=(T0_law24_alive).run (fun v=>some (R_law24_alive v,tps (toForms sg_law24_alive (())))) fun j=>L (S_law24_alive j).1 (S_law24_alive j).2:=by kernel_rfl
theorem lp_law24_alive:∀(L:Lt) (j:Empty),procOf (procsF Go.Proofs.Tryz.prog (clOf t_law24_alive) tb_law24_alive Go.Proofs.Tryz.f29 c_law24_alive (toForms sg_law24_alive (()))) (S_law24_alive j).1 L (S_law24_alive j).2=(T_law24_alive j).run (fun v=>some (R_law24_alive v,tps (toForms sg_law24_alive (())))) fun j=>L (S_law24_alive j).1 (S_law24_alive j).2:=fun L j=>nomatch j
noncomputable def e_law24_alive:Run:=entG sg_law24_alive R_law24_alive (fun a=>k_law24_alive) (fun a=>v_law24_alive)
theorem ok_law24_alive:EntOK Go.Proofs.Tryz.prog 29 e_law24_alive:=entG_ok (tb:=tb_law24_alive) (c:=c_law24_alive) tk_law24_alive (by kernel_rfl) (by kernel_rfl) (by kernel_rfl) (fun a=>by kernel_rfl) fun _ hk=>evF_goes (c:=c_law24_alive) (K:=fun v=>(R_law24_alive v,tps (toForms sg_law24_alive (())))) (S:=S_law24_alive) (by kernel_rfl) (en_law24_alive) (lp_law24_alive) (g_law24_alive hk)
end
end Go.Ev
end

section
open Go Go.Ev
namespace Go.Ev
noncomputable section
def sg_law24_DelayTells:Sig:=[(false,(.sl (.sl T_book_Act)))]
noncomputable def t_law24_DelayTells:Tbl:=[(11,e_book_Prog),(25,e_delay_Pairs),(26,e_ref3_Delays),(24,e_book_SamePairs),(27,e_delay_Open),(28,e_ref3_Open),(29,e_law24_alive)]
theorem tk_law24_DelayTells:∀p∈t_law24_DelayTells,EntOK Go.Proofs.Tryz.prog p.1 p.2:=tbl_cons ok_book_Prog (tbl_cons ok_delay_Pairs (tbl_cons ok_ref3_Delays (tbl_cons ok_book_SamePairs (tbl_cons ok_delay_Open (tbl_cons ok_ref3_Open (tbl_cons ok_law24_alive (tbl_nil)))))))
noncomputable def c_law24_DelayTells:Code:=Go.Proofs.Tryz.f7.body.getD .skip
def tb_law24_DelayTells:Tb:=[]
def T_law24_DelayTells (l:List (List (El T_book_Act))):Empty→JT Empty (Bool):=fun j=>nomatch j
def T0_law24_DelayTells (l:List (List (El T_book_Act))):JT Empty (Bool):=
 .br (k_book_Prog l (4:Int) (5:Int))
  (.br (k_delay_Pairs (v_book_Prog l (4:Int) (5:Int)))
   (.br (k_ref3_Delays (v_book_Prog l (4:Int) (5:Int)))
    (.br (k_book_SamePairs (v_delay_Pairs (v_book_Prog l (4:Int) (5:Int))) (v_ref3_Delays (v_book_Prog l (4:Int) (5:Int))))
     (.br (v_book_SamePairs (v_delay_Pairs (v_book_Prog l (4:Int) (5:Int))) (v_ref3_Delays (v_book_Prog l (4:Int) (5:Int))))
      (.br (k_delay_Open (v_book_Prog l (4:Int) (5:Int)))
       (.br (k_ref3_Open (v_book_Prog l (4:Int) (5:Int)))
        (.br (k_book_SamePairs (v_delay_Open (v_book_Prog l (4:Int) (5:Int))) (v_ref3_Open (v_book_Prog l (4:Int) (5:Int))))
         (.br (v_book_SamePairs (v_delay_Open (v_book_Prog l (4:Int) (5:Int))) (v_ref3_Open (v_book_Prog l (4:Int) (5:Int))))
          (.br k_law24_alive
           (.leaf v_law24_alive)
          (.no))
         (.leaf false))
        (.no))
       (.no))
      (.no))
     (.leaf false))
    (.no))
   (.no))
  (.no))
 (.no)
def v_law24_DelayTells (l:List (List (El T_book_Act))):Bool:=
 bif (k_book_Prog l (4:Int) (5:Int)) then
  bif (k_delay_Pairs (v_book_Prog l (4:Int) (5:Int))) then
   bif (k_ref3_Delays (v_book_Prog l (4:Int) (5:Int))) then
    bif (k_book_SamePairs (v_delay_Pairs (v_book_Prog l (4:Int) (5:Int))) (v_ref3_Delays (v_book_Prog l (4:Int) (5:Int)))) then
     bif (v_book_SamePairs (v_delay_Pairs (v_book_Prog l (4:Int) (5:Int))) (v_ref3_Delays (v_book_Prog l (4:Int) (5:Int)))) then
      bif (k_delay_Open (v_book_Prog l (4:Int) (5:Int))) then
       bif (k_ref3_Open (v_book_Prog l (4:Int) (5:Int))) then
        bif (k_book_SamePairs (v_delay_Open (v_book_Prog l (4:Int) (5:Int))) (v_ref3_Open (v_book_Prog l (4:Int) (5:Int)))) then
         bif (v_book_SamePairs (v_delay_Open (v_book_Prog l (4:Int) (5:Int))) (v_ref3_Open (v_book_Prog l (4:Int) (5:Int)))) then
          bif k_law24_alive then
           v_law24_alive
          else false
         else false
        else false
       else false
      else false
     else false
    else false
   else false
  else false
 else false
def k_law24_DelayTells (l:List (List (El T_book_Act))):Bool:=
 bif (k_book_Prog l (4:Int) (5:Int)) then
  bif (k_delay_Pairs (v_book_Prog l (4:Int) (5:Int))) then
   bif (k_ref3_Delays (v_book_Prog l (4:Int) (5:Int))) then
    bif (k_book_SamePairs (v_delay_Pairs (v_book_Prog l (4:Int) (5:Int))) (v_ref3_Delays (v_book_Prog l (4:Int) (5:Int)))) then
     bif (v_book_SamePairs (v_delay_Pairs (v_book_Prog l (4:Int) (5:Int))) (v_ref3_Delays (v_book_Prog l (4:Int) (5:Int)))) then
      bif (k_delay_Open (v_book_Prog l (4:Int) (5:Int))) then
       bif (k_ref3_Open (v_book_Prog l (4:Int) (5:Int))) then
        bif (k_book_SamePairs (v_delay_Open (v_book_Prog l (4:Int) (5:Int))) (v_ref3_Open (v_book_Prog l (4:Int) (5:Int)))) then
         bif (v_book_SamePairs (v_delay_Open (v_book_Prog l (4:Int) (5:Int))) (v_ref3_Open (v_book_Prog l (4:Int) (5:Int)))) then
          bif k_law24_alive then
           true
          else false
         else true
        else false
       else false
      else false
     else true
    else false
   else false
  else false
 else false
theorem g_law24_DelayTells (l:List (List (El T_book_Act))) (hk:k_law24_DelayTells l=true):Goes (T_law24_DelayTells l) (T0_law24_DelayTells l) (v_law24_DelayTells l):=
 Goes.brk hk (fun hk=>
  Goes.brk hk (fun hk=>
   Goes.brk hk (fun hk=>
    Goes.brk hk (fun hk=>
     Goes.brk hk (fun hk=>
      Goes.brk hk (fun hk=>
       Goes.brk hk (fun hk=>
        Goes.brk hk (fun hk=>
         Goes.brk hk (fun hk=>
          Goes.brk hk (fun hk=>
           Goes.leaf) (fun hk=>
           Goes.nok hk)) (fun hk=>
          Goes.leaf)) (fun hk=>
         Goes.nok hk)) (fun hk=>
        Goes.nok hk)) (fun hk=>
       Goes.nok hk)) (fun hk=>
      Goes.leaf)) (fun hk=>
     Goes.nok hk)) (fun hk=>
    Goes.nok hk)) (fun hk=>
   Goes.nok hk)) (fun hk=>
  Goes.nok hk)
def R_law24_DelayTells:Bool→AV:=fun (r:Bool)=>.d .bool r
def S_law24_DelayTells (l:List (List (El T_book_Act))):Empty→Nat×St:=fun j=>nomatch j
theorem en_law24_DelayTells (l:List (List (El T_book_Act))) (L:Lt):entryA Go.Proofs.Tryz.prog (clOf t_law24_DelayTells) tb_law24_DelayTells Go.Proofs.Tryz.f7 c_law24_DelayTells L (toForms sg_law24_DelayTells (l,()))=(T0_law24_DelayTells l).run (fun v=>some (R_law24_DelayTells v,tps (toForms sg_law24_DelayTells (l,())))) fun j=>L (S_law24_DelayTells l j).1 (S_law24_DelayTells l j).2:=by kernel_rfl
theorem lp_law24_DelayTells (l:List (List (El T_book_Act))):∀(L:Lt) (j:Empty),procOf (procsF Go.Proofs.Tryz.prog (clOf t_law24_DelayTells) tb_law24_DelayTells Go.Proofs.Tryz.f7 c_law24_DelayTells (toForms sg_law24_DelayTells (l,()))) (S_law24_DelayTells l j).1 L (S_law24_DelayTells l j).2=(T_law24_DelayTells l j).run (fun v=>some (R_law24_DelayTells v,tps (toForms sg_law24_DelayTells (l,())))) fun j=>L (S_law24_DelayTells l j).1 (S_law24_DelayTells l j).2:=fun L j=>nomatch j
theorem co_law24_DelayTells (l:List (List (El T_book_Act))) (hk:k_law24_DelayTells l=true):CallOK Go.Proofs.Tryz.prog 7 (toForms sg_law24_DelayTells (l,())) (R_law24_DelayTells (v_law24_DelayTells l),tps (toForms sg_law24_DelayTells (l,()))):=by
 obtain ⟨h1,h2⟩:=clOf_ok tk_law24_DelayTells
 obtain ⟨n,hn⟩:=evF_goes (c:=c_law24_DelayTells) (K:=fun v=>(R_law24_DelayTells v,tps (toForms sg_law24_DelayTells (l,())))) (S:=S_law24_DelayTells l) (by kernel_rfl) (en_law24_DelayTells l) (lp_law24_DelayTells l) (g_law24_DelayTells l hk)
 exact evF_sound (f:=7) (c:=c_law24_DelayTells) h1 h2 (by kernel_rfl) (by kernel_rfl) (by kernel_rfl) hn
end
end Go.Ev
end

section
open Go
namespace Go.Ev
theorem putAll_ok {n:Nat} (hn:n < 4611686018427387904) {B:Nat→Bool} :∀(xs:List Nat) (d:SetD) (M:Nat→Bool),(∀x∈xs,x < n)→SetOK d n M→SetOK (putAll d (xs.map Int.ofNat)) n fun k=>M k || xs.contains k
 | [],d,M,_,h=>h.congr' fun j=>by simp
 | x :: xs,d,M,hx,h=>by
  have h1:=(h.putO hn (hx x (by simp))).2
  have h2:=putAll_ok (B:=B) hn xs _ _ (fun y hy=>hx y (by simp[hy])) h1
  refine h2.congr' fun j=>?_
  rw[List.contains_cons,Bool.or_assoc]
theorem putAll_list {n:Nat} (hn:n < 4611686018427387904) {B:Nat→Bool} :SetOK (putAll ((n:Int),[]) (listOf n B)) n fun k=>decide (k < n)&&B k:=by
 have:=putAll_ok (B:=B) hn ((List.range n).filter B) ((n:Int),[]) _ (fun x hx=>List.mem_range.1 (List.mem_filter.1 hx).1) (SetOK.new n)
 refine this.congr' fun j=>?_
 rw[Bool.false_or,Bool.eq_iff_iff,List.contains_iff_mem,List.mem_filter,List.mem_range,Bool.and_eq_true,decide_eq_true_eq]
theorem new_eq {n:Nat} (hn:n < 4611686018427387904):v_bits_New (Int.ofNat n)=((n:Int),[]):=by
 unfold v_bits_New
 simp
 omega
section
variable {p:El T_api_Prog}
theorem back_ok (hk:k_delay_Pairs p=true) {r:Nat} (hr:r < (ofC p).length):SetOK (dBack p (ofC p) (r:Int)) (ofC p).length fun k=>decide (k < (ofC p).length)&&backB p (ofC p) r k:=by
 obtain ⟨hs,hd⟩:=delayOK hk
 have hn:(ofC p).length < 4611686018427387904:=Nat.lt_trans hd.len (by decide)
 unfold dBack
 rw[new_eq hn]
 unfold v_clash_Back
 rw[if_pos ⟨Int.natCast_nonneg r,Int.ofNat_lt.2 hr⟩,Int.toNat_natCast]
 exact putAll_list hn
theorem hit_eq (hk:k_delay_Pairs p=true) {s r:Nat} (hs:s < (ofC p).length) (hr:r < (ofC p).length) (ht:thA (ofC p) r=thA (ofC p) s):
  hitP p (ofC p) (s:Int) (frS p (ofC p) (thA (ofC p) s) (s:Int)) (r:Int)=(fromB (thrOf p (ofC p) s) (inA (ofC p) s) (inA (ofC p) r).toNat&&backB p (ofC p) r s):=by
 obtain ⟨hsm,hd⟩:=delayOK hk
 have hn:(ofC p).length < 4611686018427387904:=Nat.lt_trans hd.len (by decide)
 obtain ⟨t0,t1,hf,i0,i1⟩:=acc_facts hsm hs
 obtain ⟨_,_,_,j0,j1⟩:=acc_facts hsm hr
 have et:thrOf p (ofC p) r=thrOf p (ofC p) s:=by unfold thrOf;rw[ht]
 rw[et] at j1
 have hlen:(thrOf p (ofC p) s).length < 4611686018427387904:=Nat.lt_trans (flowOK_len hf) (by decide)
 have e1:frS p (ofC p) (thA (ofC p) s) (s:Int)=putAll (((thrOf p (ofC p) s).length:Int),[]) (listOf (thrOf p (ofC p) s).length (fromB (thrOf p (ofC p) s) (inA (ofC p) s))):=by
  unfold frS
  rw[show insP p (thA (ofC p) s)=thrOf p (ofC p) s from rfl,new_eq hlen]
  rfl
 have h1:=putAll_list hlen (B:=fromB (thrOf p (ofC p) s) (inA (ofC p) s))
 rw[←e1] at h1
 have h2:=back_ok hk hr
 have e2:∀(x:SetD) (i:Int),(v_bits_Set_Has x i).1=hasS x i:=fun _ _=>rfl
 have g1:(v_bits_Set_Has (frS p (ofC p) (thA (ofC p) s) (s:Int)) (inA (ofC p) r)).1=fromB (thrOf p (ofC p) s) (inA (ofC p) s) (inA (ofC p) r).toNat:=by
  rw[e2,h1.has hlen,decide_eq_true j0,decide_eq_true (show (inA (ofC p) r).toNat < (thrOf p (ofC p) s).length by omega),Bool.true_and,Bool.true_and]
 have g2:(v_bits_Set_Has (dBack p (ofC p) (r:Int)) (s:Int)).1=backB p (ofC p) r s:=by
  rw[e2,h2.has hn,decide_eq_true (Int.natCast_nonneg s),Int.toNat_natCast,decide_eq_true hs,Bool.true_and,Bool.true_and]
 unfold hitP
 rw[g2]
 have:(v_bits_Set_Has (frS p (ofC p) (thA (ofC p) s) (s:Int)) (List.getD (ofC p) (Int.toNat (r:Int)) (dflt T_api_Access)).2.1).1=fromB (thrOf p (ofC p) s) (inA (ofC p) s) (inA (ofC p) r).toNat:=by
  rw[Int.toNat_natCast]
  exact g1
 rw[this]
end
theorem flatMap_eqX {α β:Type} {f g:α→List β} {l:List α} (h:∀x∈l,f x=g x):l.flatMap f=l.flatMap g:=by
 rw[List.flatMap_def,List.flatMap_def,List.map_congr_left h]
theorem by_key {α β:Type} {key:α→Nat} {D:α→List β} :∀(T:Nat) (L:List α),L.Pairwise (fun a b=>key a≤key b)→(∀x∈L,key x < T)→((List.range T).flatMap fun t=>(L.filter fun x=>key x==t).flatMap D)=L.flatMap D
 | 0,L,_,h=>by
  cases L with
  | nil=>rfl
  | cons x L=>exact absurd (h x (by simp)) (Nat.not_lt_zero _)
 | T+1,L,hp,h=>by
  have split:∀L:List α,L.Pairwise (fun a b=>key a≤key b)→(∀x∈L,key x < T+1)→L=(L.filter fun x=>decide (key x < T))++L.filter fun x=>key x==T:=by
   intro L
   induction L with
   | nil=>intros;rfl
   | cons x L ih=>
    intro hp h
    obtain ⟨p1,p2⟩:=List.pairwise_cons.1 hp
    have ih:=ih p2 fun y hy=>h y (by simp[hy])
    by_cases hx:key x < T
    ·have hx':(key x==T)=false:=by rw[beq_eq_false_iff_ne];omega
     rw[List.filter_cons_of_pos (by simpa using hx),List.filter_cons_of_neg (by rw[hx'];exact Bool.false_ne_true),List.cons_append,←ih]
    ·have hk:key x=T:=by have:=h x (by simp);omega
     have hnone:L.filter (fun x=>decide (key x < T))=[]:=List.filter_eq_nil_iff.2 fun y hy=>by have:=p1 y hy;simp;omega
     rw[List.filter_cons_of_neg (by simpa using hx),List.filter_cons_of_pos (by simpa using hk),hnone,List.nil_append]
     rw[hnone,List.nil_append] at ih
     rw[←ih]
  have e:=split L hp h
  rw[List.range_succ,List.flatMap_append]
  have h1:((List.range T).flatMap fun t=>(L.filter fun x=>key x==t).flatMap D)=(L.filter fun x=>decide (key x < T)).flatMap D:=by
   rw[←by_key T (L.filter fun x=>decide (key x < T)) (hp.sublist List.filter_sublist) fun x hx=>by simpa using (List.mem_filter.1 hx).2]
   refine flatMap_eqX fun t ht=>?_
   rw[List.filter_filter]
   congr 1
   refine List.filter_congr fun x hx=>?_
   have:=List.mem_range.1 ht
   by_cases hk:key x=t
   ·simp[hk,this]
   ·simp[hk]
  rw[h1]
  simp only[List.flatMap_cons,List.flatMap_nil,List.append_nil]
  rw[←List.flatMap_append,←e]
theorem flat_if {α β γ:Type} {g:β→List γ} {f:α→β} {P H:α→Bool} {q:α→γ} :∀(l:List α),(∀x∈l,P x=true→g (f x)=if H x=true then [q x] else [])→((l.filter P).map f).flatMap g=(l.filter fun x=>P x&&H x).map q
 | [],_=>rfl
 | x :: l,h=>by
  have ih:=flat_if l fun y hy=>h y (by simp[hy])
  cases hP:P x with
  | false=>rw[List.filter_cons_of_neg (by simp[hP]),List.filter_cons_of_neg (by simp[hP]),ih]
  | true=>
   rw[List.filter_cons_of_pos hP,List.map_cons,List.flatMap_cons,h x (by simp) hP,ih]
   cases hH:H x with
   | false=>rw[List.filter_cons_of_neg (by simp[hP,hH])];simp
   | true=>rw[List.filter_cons_of_pos (by simp[hP,hH])];simp
theorem flat_filter {α β:Type} {P:α→Bool} {D:α→List β} :∀(l:List α),(l.flatMap fun x=>if P x=true then D x else [])=(l.filter P).flatMap D
 | []=>rfl
 | x :: l=>by
  cases hP:P x with
  | false=>rw[List.filter_cons_of_neg (by simp[hP]),List.flatMap_cons,flat_filter l];simp[hP]
  | true=>rw[List.filter_cons_of_pos hP,List.flatMap_cons,List.flatMap_cons,flat_filter l];simp[hP]
theorem key_le {p:El T_api_Prog} {a b:Nat} (ha:a < (ofC p).length) (hb:b < (ofC p).length) (h:a < b):thA (ofC p) a≤thA (ofC p) b:=by
 have ho:=List.pairwise_iff_getElem.1 (ofC_ord p) a b ha hb h
 have ga:accA (ofC p) a=(ofC p)[a]:=by unfold accA;rw[getD_lt ha]
 have gb:accA (ofC p) b=(ofC p)[b]:=by unfold accA;rw[getD_lt hb]
 rw[←ga,←gb] at ho
 have:∀t k q t' k' q':Int,ltNX t k q t' k' q'→t≤t':=fun t k q t' k' q' h=>by
  rcases h with h | ⟨h,_⟩ <;> omega
 exact this _ _ _ _ _ _ ho
theorem delays_eq {p:El T_api_Prog} (hk:k_delay_Pairs p=true):v_delay_Pairs p=v_ref3_Delays p:=by
 obtain ⟨hsm,hd⟩:=delayOK hk
 have facts:=fun i=>acc_facts (i:=i) hsm
 have hits:=fun s r=>hit_eq (s:=s) (r:=r) hk
 have keys:=fun a b=>key_le (p:=p) (a:=a) (b:=b)
 unfold v_delay_Pairs v_ref3_Delays delsFrom outN
 generalize ofC p=l at facts hits keys
 rw[Nat.sub_zero,←List.range_eq_range']
 have hD:∀s,delS p l s=if stB' l s=true then ((List.range l.length).filter fun r=>delB p l s r).map (delPair l s) else []:=fun s=>by
  unfold delS
  rw[←List.range_eq_range']
 rw[flatMap_eqX fun s _=>hD s,flat_filter]
 refine Eq.trans ?_ (by_key (key:=fun s=>(thA l s).toNat) p.2.length ((List.range l.length).filter fun s=>stB' l s) ?_ ?_)
 ·refine flatMap_eqX fun t ht=>?_
  have ht:=List.mem_range.1 ht
  rw[List.filter_filter]
  unfold outT v_delay_plain listOf
  rw[List.flatMap_map]
  have hf:(List.range l.length).filter (plB l (t:Int) true)=(List.range l.length).filter fun s=>((thA l s).toNat==t)&&stB' l s:=by
   refine List.filter_congr fun s hs=>?_
   obtain ⟨t0,_⟩:=facts s (List.mem_range.1 hs)
   unfold plB stB'
   rw[Bool.and_assoc]
   have e:(((List.getD l s (dflt T_api_Access)).1:Int)==(t:Int))=((thA l s).toNat==t):=by
    show (thA l s==(t:Int))=_
    rw[Bool.eq_iff_iff,beq_iff_eq,beq_iff_eq]
    omega
   have e2:((List.getD l s (dflt T_api_Access)).2.2.2.2.1==true)=(accA l s).2.2.2.2.1:=by
    show ((accA l s).2.2.2.2.1==true)=_
    cases (accA l s).2.2.2.2.1 <;> rfl
   rw[e2]
   exact congrArg (· &&_) e
  rw[hf]
  refine flatMap_eqX fun s hs=>?_
  obtain ⟨hs1,hs2⟩:=List.mem_filter.1 hs
  have hsN:=List.mem_range.1 hs1
  rw[Bool.and_eq_true,beq_iff_eq] at hs2
  obtain ⟨t0,_⟩:=facts s hsN
  have hth:thA l s=(t:Int):=by have:=hs2.1;omega
  unfold outS v_delay_plain listOf
  rw[flat_if (H:=fun r=>fromB (thrOf p l s) (inA l s) (inA l r).toNat&&backB p l r s) (q:=delPair l s)]
  ·congr 1
   refine List.filter_congr fun r hr=>?_
   unfold plB delB ldB'
   have e1:(((List.getD l r (dflt T_api_Access)).1:Int)==(t:Int))=(thA l r==thA l s):=by rw[hth];rfl
   have e2:((List.getD l r (dflt T_api_Access)).2.2.2.2.1==false)=! (accA l r).2.2.2.2.1:=by
    show ((accA l r).2.2.2.2.1==false)=_
    cases (accA l r).2.2.2.2.1 <;> rfl
   rw[e2,←Bool.and_assoc (thA l r==thA l s)]
   exact congrArg (fun x=>x&&_&&_&&_) e1
  ·intro r hr hP
   have hrN:=List.mem_range.1 hr
   unfold plB at hP
   rw[Bool.and_eq_true,Bool.and_eq_true] at hP
   have hth2:thA l r=(t:Int):=by have:=hP.1.1;exact eq_of_beq this
   have:=hits s r hsN hrN (hth2.trans hth.symm)
   rw[hth] at this
   show oneP p l (t:Int) (s:Int) (frS p l (t:Int) (s:Int)) (r:Int)=_
   unfold oneP
   rw[this]
   unfold delPair
   rw[hth]
   rfl
 ·refine List.Pairwise.filter _ ?_
  refine List.pairwise_lt_range.imp_of_mem fun {a b} ha hb h=>?_
  have:=keys a b (List.mem_range.1 ha) (List.mem_range.1 hb) h
  omega
 ·intro s hs
  obtain ⟨t0,t1,_⟩:=facts s (List.mem_range.1 (List.mem_filter.1 hs).1)
  omega
end Go.Ev
end

section
namespace Go.Ev
open Go
theorem setL_right (i:El T_api_Ins) (ls:List ByteArray):v_ins_Right (setL i ls)=v_ins_Right i:=rfl
theorem setL_to (i:El T_api_Ins) (ls:List ByteArray):(setL i ls).2.2.2.2.2.1=i.2.2.2.2.2.1:=rfl
theorem place_book {th:List (List (El T_api_Ins))} {k r s n:Int} (h:k=3∨k=4→placeOK k s n=true):placeC (symsB,th) (k,(r,(s,n)))=0:=by
 show placeN 3 _ k s n=0
 unfold placeN
 by_cases hk:k=3∨k=4
 ·rw[if_pos hk]
  have:=h hk
  unfold placeOK at this
  simp only[Bool.and_eq_true,decide_eq_true_eq,Bool.or_eq_true,beq_iff_eq] at this
  obtain ⟨h0,h3,hn⟩:=this
  rw[if_neg (by omega)]
  have hs:s=0∨s=1∨s=2:=by omega
  rcases hs with rfl | rfl | rfl
  ·rw[if_neg]
   rintro ⟨h1,h2⟩
   have h2:(1:Int)≤n:=h2
   rcases hn with hn | hn
   ·omega
   ·have hn:n < (1:Int):=hn
    omega
  ·rw[if_neg]
   rintro ⟨h1,h2⟩
   have h2:(2:Int)≤n:=h2
   rcases hn with hn | hn
   ·omega
   ·have hn:n < (2:Int):=hn
    omega
  ·rw[if_neg]
   rintro ⟨h1,h2⟩
   have h2:(1:Int)≤n:=h2
   rcases hn with hn | hn
   ·omega
   ·have hn:n < (1:Int):=hn
    omega
 ·rw[if_neg hk]
theorem insC_book {th:List (List (El T_api_Ins))} {many:Int} {i:El T_api_Ins} (h:BookOK many i) (ls:List ByteArray):insC (symsB,th) (setL i ls)=0:=by
 have hA:placeC (symsB,th) i.2.2.2.1=0:=place_book (k:=i.2.2.2.1.1) (r:=i.2.2.2.1.2.1) (s:=i.2.2.2.1.2.2.1) (n:=i.2.2.2.1.2.2.2) h.placeA
 have hB:placeC (symsB,th) i.2.2.2.2.1=0:=place_book (k:=i.2.2.2.2.1.1) (r:=i.2.2.2.2.1.2.1) (s:=i.2.2.2.2.1.2.2.1) (n:=i.2.2.2.2.1.2.2.2) h.placeB
 unfold insC
 rw[setL_right,h.right]
 show (if (0:Int)≠0 then _ else if placeC (symsB,th) i.2.2.2.1≠0 then _ else placeC (symsB,th) i.2.2.2.2.1)=0
 rw[hA,hB]
 rfl
theorem scanI_lab {p:El T_api_Prog} {K:List ByteArray→Int} :∀(x:List (El T_api_Ins)) (k:Nat) (seen:List ByteArray),
  (∀(j:Nat) (i:El T_api_Ins),x[j]? =some i→(i.2.2.2.2.2.2=[]∨i.2.2.2.2.2.2=[v_book_label ((k+j:Nat):Int)])∧insC p i=0)→(∀l∈seen,∃k',k' < k∧l=v_book_label (k':Int))→k+x.length≤100→scanI p K seen x=K (seen++labels x)
 | [],k,seen,_,_,_=>by simp[scanI,labels]
 | i :: r,k,seen,h,hs,hk=>by
  obtain ⟨hl,hi⟩:=h 0 i rfl
  rw[List.length_cons] at hk
  have hr:=fun seen' hs'=>scanI_lab (K:=K) r (k+1) seen' (fun j y hy=>by
   have:=h (j+1) y (by simpa using hy)
   rwa[show k+(j+1)=k+1+j by omega] at this) hs' (by omega)
  unfold scanI
  rcases hl with hl | hl
  ·rw[hl]
   unfold scanL
   rw[hi]
   simp only[ne_eq,not_true_eq_false,if_false]
   rw[hr seen fun l hl=>by obtain ⟨k',h1,h2⟩:=hs l hl;exact ⟨k',by omega,h2⟩]
   unfold labels
   rw[List.flatMap_cons,hl,List.nil_append]
  ·rw[hl,Nat.add_zero]
   unfold scanL
   rw[if_neg (by rw[(label_right (k:=(k:Int)) (by omega) (by omega)).1];decide)]
   have hns:seen.contains (v_book_label (k:Int))=false:=by
    rw[Bool.eq_false_iff]
    intro hc
    rw[List.contains_iff_mem] at hc
    obtain ⟨k',h1,h2⟩:=hs _ hc
    have:=label_inj (by omega) (by omega) h2
    omega
   rw[if_neg (by rw[hns];decide)]
   unfold scanL
   rw[hi]
   simp only[ne_eq,not_true_eq_false,if_false]
   rw[hr _ fun l hl=>by
    rcases List.mem_append.1 hl with hl | hl
    ·obtain ⟨k',h1,h2⟩:=hs l hl;exact ⟨k',by omega,h2⟩
    ·rw[List.mem_singleton] at hl;exact ⟨k,by omega,hl⟩]
   unfold labels
   rw[List.flatMap_cons,hl,Nat.add_zero,List.append_assoc]
theorem jumpC_lab {seen:List ByteArray} :∀ {x:List (El T_api_Ins)},(∀i∈x,((i.1==(10:Int)) || (i.1==(11:Int)))=true→seen.contains i.2.2.2.2.2.1=true)→jumpC seen x=0
 | [],_=>rfl
 | i :: r,h=>by
  unfold jumpC
  have ih:=jumpC_lab fun j hj=>h j (List.mem_cons_of_mem _ hj)
  by_cases hj:((i.1==(10:Int)) || (i.1==(11:Int)))=true
  ·rw[if_pos hj,if_pos (h i (List.mem_cons_self ..) hj)];exact ih
  ·rw[if_neg hj];exact ih
theorem threadB_get {a:List (El T_book_Act)} {n:Nat} (hn:n≤90) (ha:n≤a.length) {k:Nat} {i:El T_api_Ins} (h:(threadB a n)[k]? =some i):
  (k < n∧∃x,(baseT a n)[k]? =some x∧BookOK ((n+1:Nat):Int) x∧i=setL x (if sAt (baseT a n) n k then [v_book_label (k:Int)] else []))∨(k=n∧i=setL (bare 14) (if sAt (baseT a n) n k then [v_book_label (k:Int)] else [])):=by
 have hl:=baseT_len a n ha
 obtain ⟨hk,he⟩:=List.getElem?_eq_some_iff.1 h
 unfold threadB at hk he
 rw[withL_get hk] at he
 rw[withL_len,hl] at hk
 by_cases hkn:k < n
 ·obtain ⟨x,h1,h2⟩:=baseT_book hn hkn ha
  obtain ⟨h3,h4⟩:=List.getElem?_eq_some_iff.1 h1
  rw[h4] at he
  exact .inl ⟨hkn,_,h1,h2,he.symm⟩
 ·have hkn:k=n:=by omega
  subst hkn
  have:(baseT a k)[k]'(by omega)=bare 14:=by
   unfold baseT
   rw[List.getElem_append_right (by simp;omega)]
   simp
  rw[this] at he
  exact .inr ⟨rfl,he.symm⟩
theorem bare14_book (many:Int) (ls:List ByteArray) {th:List (List (El T_api_Ins))} :insC (symsB,th) (setL (bare 14) ls)=0:=by
 unfold insC
 rw[setL_right,bare_right (.inr (.inr rfl))]
 rfl
theorem labels_get {x:List (El T_api_Ins)} {k:Nat} {i:El T_api_Ins} {l:ByteArray} (h:x[k]? =some i) (hl:l∈i.2.2.2.2.2.2):(labels x).contains l=true:=by
 rw[List.contains_iff_mem]
 unfold labels
 exact List.mem_flatMap.2 ⟨i,List.mem_of_getElem? h,hl⟩
theorem threadC_book {a:List (El T_book_Act)} {n:Nat} (hn:n≤90) (ha:n≤a.length) {th:List (List (El T_api_Ins))} :threadC (symsB,th) (threadB a n)=0:=by
 have hlen:(threadB a n).length=n+1:=by unfold threadB;rw[withL_len,baseT_len a n ha]
 unfold threadC
 have hc:=countM_le (threadB a n)
 rw[if_neg (by omega),scanI_lab (threadB a n) 0 [] (fun j i h=>by
  rw[Nat.zero_add]
  rcases threadB_get hn ha h with ⟨_,x,_,hx,rfl⟩ | ⟨_,rfl⟩
  ·refine ⟨?_,insC_book hx _⟩
   show (if _ then [v_book_label (j:Int)] else [])=[]∨(if _ then [v_book_label (j:Int)] else [])=[v_book_label (j:Int)]
   split
   ·exact .inr rfl
   ·exact .inl rfl
  ·refine ⟨?_,bare14_book 0 _⟩
   show (if _ then [v_book_label (j:Int)] else [])=[]∨(if _ then [v_book_label (j:Int)] else [])=[v_book_label (j:Int)]
   split
   ·exact .inr rfl
   ·exact .inl rfl) (fun l hl=>by cases hl) (by omega)]
 rw[List.nil_append,endC_eq (by omega)]
 have hlast:(threadB a n)[(threadB a n).length - 1]? =some ((threadB a n)[(threadB a n).length - 1]'(by omega)):=List.getElem?_eq_getElem (by omega)
 have h14:(((threadB a n)[(threadB a n).length - 1]'(by omega)).1==(10:Int) || ((threadB a n)[(threadB a n).length - 1]'(by omega)).1==(14:Int))=true:=by
  rcases threadB_get hn ha hlast with ⟨h1,_⟩ | ⟨_,h2⟩
  ·omega
  ·rw[h2];rfl
 rw[if_pos h14]
 refine jumpC_lab fun i hi hj=>?_
 obtain ⟨k,hk⟩:=List.getElem?_of_mem hi
 rcases threadB_get hn ha hk with ⟨hkn,x,hx,hb,rfl⟩ | ⟨_,rfl⟩
 ·rw[setL_to]
  rcases hb.to with ⟨h1,h2,_⟩ | ⟨_,m,m0,m1,e⟩
  ·exfalso
   have hj:((x.1==(10:Int)) || (x.1==(11:Int)))=true:=hj
   simp only[Bool.or_eq_true,beq_iff_eq] at hj
   rcases hj with hj | hj
   ·exact h1 hj
   ·exact h2 hj
  ·rw[e]
   obtain ⟨q,rfl⟩:∃q:Nat,m=(q:Int):=⟨m.toNat,by omega⟩
   have hqn:q < n+1:=by omega
   have hq:(threadB a n)[q]? =some ((threadB a n)[q]'(by omega)):=List.getElem?_eq_getElem (by omega)
   have hs:sAt (baseT a n) n q=true:=by
    unfold sAt
    rw[List.any_eq_true]
    exact ⟨x,List.mem_of_getElem? (i:=k) (by rw[List.getElem?_take,if_pos hkn];exact hx),decide_eq_true e⟩
   refine labels_get hq ?_
   rcases threadB_get hn ha hq with ⟨_,y,_,_,h2⟩ | ⟨_,h2⟩
   ·rw[h2,hs];exact List.mem_singleton.2 rfl
   ·rw[h2,hs];exact List.mem_singleton.2 rfl
 ·cases hj
theorem small_book {a:List (El T_book_Act)} {n:Nat} (hn:n≤90) (ha:n≤a.length):smallThread (threadB a n)=true:=by
 have hlen:(threadB a n).length=n+1:=by unfold threadB;rw[withL_len,baseT_len a n ha]
 have hlab:∀i∈threadB a n,smallText i.2.2.2.2.2.1=true∧i.2.2.2.2.2.2.length≤1∧∀l∈i.2.2.2.2.2.2,smallText l=true:=fun i hi=>by
  obtain ⟨k,hk⟩:=List.getElem?_of_mem hi
  have hkl:=(List.getElem?_eq_some_iff.1 hk).1
  have hls:∀b:Bool,(if b=true then [v_book_label (k:Int)] else []).length≤1∧∀l∈(if b=true then [v_book_label (k:Int)] else []),smallText l=true:=fun b=>by
   cases b with
   | false=>exact ⟨by simp,fun l hl=>by simp at hl⟩
   | true=>exact ⟨by simp,fun l hl=>by
     rw[if_pos rfl,List.mem_singleton] at hl
     rw[hl];exact (label_right (by omega) (by omega)).2⟩
  rcases threadB_get hn ha hk with ⟨hkn,x,hx,hb,rfl⟩ | ⟨_,rfl⟩
  ·exact ⟨hb.small (by omega),hls _⟩
  ·exact ⟨(by decide:smallText (bs [])=true),hls _⟩
 have:=labels_le (t:=threadB a n) (n:=1) fun i hi=>(hlab i hi).2.1
 unfold smallThread
 simp only[Bool.and_eq_true,decide_eq_true_eq,List.all_eq_true]
 exact ⟨by omega,by omega,fun i hi=>⟨(hlab i hi).1,(hlab i hi).2.2⟩⟩
theorem symsC_book (K:Int):symsC K [] symsB=K:=by kernel_rfl
theorem thsC_zero {p:El T_api_Prog} :∀ {th:List (List (El T_api_Ins))},(∀t∈th,threadC p t=0)→thsC p th=0
 | [],_=>rfl
 | t :: r,h=>by
  unfold thsC
  rw[h t (List.mem_cons_self ..)]
  simp only[ne_eq,not_true_eq_false,if_false]
  exact thsC_zero fun x hx=>h x (List.mem_cons_of_mem _ hx)
theorem book_valid (l:List (List (El T_book_Act))) {threads many:Int} (h0:0≤threads) (h1:threads≤64) (m0:0≤many) (m1:many≤90):checkC (v_book_Prog l threads many)=0∧smallProg (v_book_Prog l threads many)=true∧k_book_Prog l threads many=true:=by
 refine ⟨?_,?_,?_⟩
 ·unfold checkC v_book_Prog
  show (if 64 < symsB.length∨64 < ((l.take threads.toNat).map fun a=>threadB a (min a.length many.toNat)).length then (10:Int) else symsC (thsC _ ((l.take threads.toNat).map fun a=>threadB a (min a.length many.toNat))) [] symsB)=0
  rw[if_neg,symsC_book]
  ·exact thsC_zero fun t ht=>by
    obtain ⟨a,_,rfl⟩:=List.mem_map.1 ht
    exact threadC_book (by omega) (by omega)
  ·rw[List.length_map,List.length_take]
   have:symsB.length=3:=rfl
   omega
 ·unfold smallProg v_book_Prog
  simp only[Bool.and_eq_true,List.all_eq_true]
  refine ⟨?_,fun t ht=>?_⟩
  ·have:symsB.all (fun s=>smallText s.1)=true:=by decide+kernel
   rw[List.all_eq_true] at this
   exact this
  ·obtain ⟨a,_,rfl⟩:=List.mem_map.1 ht
   exact small_book (by omega) (by omega)
 ·unfold k_book_Prog
  simp only[Bool.and_eq_true,decide_eq_true_eq]
  omega
end Go.Ev
end

section
open Go
namespace Go.Ev
end Go.Ev
end

section
open Go Go.Ev
namespace Go.Ev
noncomputable section
end
end Go.Ev
end

section
open Go
namespace Go.Ev
def v_book_SameInts (a b:List Int):Bool:=decide (a=b)
def k_book_SameInts (a b:List Int):Bool:=decide (a.length < 4611686018427387904)
end Go.Ev
end

section
open Go
namespace Go.Ev
theorem listOf_le {n:Nat} {M:Nat→Bool} :(listOf n M).length≤n:=by rw[listOf_length];exact card_le
theorem listOf_contains {n:Nat} {M:Nat→Bool} {x:Int} :(listOf n M).contains x=(decide (0≤x∧x < (n:Int))&&M x.toNat):=by
 rw[Bool.eq_iff_iff,List.contains_iff_mem,listOf_mem]
 simp only[Bool.and_eq_true,decide_eq_true_eq]
 constructor
 ·rintro ⟨i,h1,h2,rfl⟩;exact ⟨by omega,by rw[Int.toNat_natCast];exact h2⟩
 ·rintro ⟨h1,h2⟩;exact ⟨x.toNat,by omega,h2,by omega⟩
theorem same_self {l:List Int} (h:l.length < 1099511627776):k_book_SameInts l l=true∧v_book_SameInts l l=true:=⟨decide_eq_true (by omega),decide_eq_true rfl⟩
theorem ends_road {t:List (El T_api_Ins)} {points:List Int} (h:flowOK t=true) (hp:points.length < 4611686018427387904) (s:Int):
  k_road_Ends t points s=true∧k_book_SameInts (v_road_Ends t points s) (v_road_Ends t points s)=true∧v_book_SameInts (v_road_Ends t points s) (v_road_Ends t points s)=true:=by
 have k1:k_road_Ends t points s=true:=by unfold k_road_Ends;rw[h,decide_eq_true hp];rfl
 have hl:=flowOK_len h
 exact ⟨k1,same_self (by unfold v_road_Ends;have:= @listOf_le t.length (endsB t points s);omega)⟩
theorem free_road {t:List (El T_api_Ins)} {points:List Int} (h:flowOK t=true) (hp:points.length < 4611686018427387904) (s l:Int):
  k_road_Free t points s l=true∧v_road_Free t points s l=(decide (0≤l∧l < (t.length:Int))&&endsB t points s l.toNat):=by
 obtain ⟨k1,_⟩:=ends_road h hp s
 have hl:=flowOK_len h
 have ki:k_slices_Index___int_int_ (v_road_Ends t points s) l=true:=decide_eq_true (by unfold v_road_Ends;have:= @listOf_le t.length (endsB t points s);omega)
 have vr:v_road_Free t points s l=(decide (0≤l∧l < (t.length:Int))&&endsB t points s l.toNat):=by
  unfold v_road_Free k_slices_Contains___int_int_ v_slices_Contains___int_int_
  rw[k1,ki]
  simp only[cond_true]
  unfold v_slices_Index___int_int_
  rw[indexI_ge]
  unfold v_road_Ends
  exact listOf_contains
 refine ⟨?_,vr⟩
 unfold k_road_Free k_slices_Contains___int_int_;rw[k1,ki];rfl
end Go.Ev
end

section
namespace Go.Ev
open Go
end Go.Ev
end

section
namespace Go.Ev
open Go
end Go.Ev
end

section
open Go
namespace Go.Ev
theorem free_eqO {t:List (El T_api_Ins)} {points:List Int} (h:flowOK t=true) (hp:points.length < 4611686018427387904) (s l:Int):
  k_road_Free t points s l=true∧k_ref3_Free t points s l=true∧v_ref3_Free t points s l=v_road_Free t points s l∧v_road_Free t points s l=(decide (0≤l∧l < (t.length:Int))&&endsB t points s l.toNat):=by
 have hl:=flowOK_len h
 have k4:k_ref3_ends t points s=true:=by unfold k_ref3_ends;rw[h,decide_eq_true hp];rfl
 obtain ⟨kr,vr⟩:=free_road h hp s l
 refine ⟨kr,?_,?_,vr⟩
 ·unfold k_ref3_Free
  by_cases h0:l≥0
  ·rw[decide_eq_true h0,cond_true]
   by_cases h1:l < Int.ofNat t.length
   ·have h2:decide (l < Int.ofNat (v_ref3_ends t points s).length)=true:=by
     unfold v_ref3_ends
     rw[rowOf_length];exact decide_eq_true h1
    simp only[decide_eq_true h1,k4,h2,Bool.and_self,Bool.true_and,cond_true]
   ·rw[decide_eq_false h1];rfl
  ·rw[decide_eq_false h0];rfl
 ·rw[vr]
  unfold v_ref3_Free
  by_cases h0:l≥0
  ·rw[decide_eq_true h0,cond_true]
   by_cases h1:l < Int.ofNat t.length
   ·have h2:decide (l < Int.ofNat (v_ref3_ends t points s).length)=true:=by
     unfold v_ref3_ends
     rw[rowOf_length];exact decide_eq_true h1
    simp only[decide_eq_true h1,k4,h2,Bool.and_self,Bool.true_and,cond_true]
    rw[decide_eq_true (show 0≤l∧l < (t.length:Int) from ⟨h0,h1⟩),Bool.true_and]
    unfold v_ref3_ends
    obtain ⟨j,rfl⟩:=Int.eq_ofNat_of_zero_le h0
    rw[Int.toNat_natCast,rowOf_getD (by have:(j:Int) < (t.length:Int):=h1;omega)]
   ·rw[decide_eq_false h1,decide_eq_false (show ¬(0≤l∧l < (t.length:Int)) from fun h=>h1 h.2)];rfl
  ·rw[decide_eq_false h0,decide_eq_false (show ¬(0≤l∧l < (t.length:Int)) from fun h=>h0 h.1)];rfl
end Go.Ev
end

section
open Go Go.Ev
namespace Go.Ev
noncomputable section
end
end Go.Ev
end

section
open Go
namespace Go.Ev
end Go.Ev
end

section
open Go
namespace Go.Ev
def fromX (t:List (El T_api_Ins)) (i:Int) (j:Nat):Bool:=(comeL (fun k j=>nextB t (k:Int) j) (nextB t i) t.length).getD j false
theorem fromX_eq (t:List (El T_api_Ins)) (i:Int) (j:Nat):fromB t i j=fromX t i j:=comeL_eq (fun j=>nextB_lt) (fun k j=>nextB_lt) j
def behX (p:El T_api_Prog) (l:List Acc) (c d:Nat):Bool:=
 decide (d < l.length)&&(thA l d==thA l c&&(d==c || ((inA l d==inA l c&&decide (paA l d > paA l c)) || (decide (0≤inA l d)&&fromX (thrOf p l c) (inA l c) (inA l d).toNat))))
theorem behX_eq (p:El T_api_Prog) (l:List Acc) (c d:Nat):behB p l c d=behX p l c d:=by
 unfold behB behX
 rw[fromX_eq]
def chX (p:El T_api_Prog) (l:List Acc) (a i k:Nat):Bool:=decide (k < l.length)&&(!(thA l k==thA l a)&&(clB l i k || behX p l i k))
def isX (p:El T_api_Prog) (l:List Acc) (a k:Nat):Bool:=(comeL (chX p l a) (chS l a) l.length).getD k false
theorem isX_eq (p:El T_api_Prog) (l:List Acc) (a k:Nat):isB p l a k=isX p l a k:=by
 have e:chB p l a=chX p l a:=by
  funext i k
  unfold chB chX
  rw[behX_eq]
 unfold isB isX
 rw[e]
 refine comeL_eq (fun j h=>?_) (fun k j h=>?_) k
 ·unfold chS at h
  rw[Bool.and_eq_true,decide_eq_true_eq] at h
  exact h.1
 ·unfold chX at h
  rw[Bool.and_eq_true,decide_eq_true_eq] at h
  exact h.1
def backX (p:El T_api_Prog) (l:List Acc) (a b:Nat):Bool:=thA l b==thA l a&&(List.range l.length).any fun k=>isX p l a k&&clB l k b
theorem backX_eq (p:El T_api_Prog) (l:List Acc) (a b:Nat):backB p l a b=backX p l a b:=by
 unfold backB backX
 simp only[isX_eq]
end Go.Ev
end

section
open Go
namespace Go.Ev
theorem dels_len (p:El T_api_Prog):(v_ref3_Delays p).length≤(ofC p).length*(ofC p).length:=by
 unfold v_ref3_Delays delsFrom
 have:=flat_len (delS_len p (ofC p)) (List.range' 0 ((ofC p).length - 0))
 rw[List.length_range',Nat.sub_zero] at this
 exact this
theorem dels_mem {p:El T_api_Prog} {x:El T_api_Pair} (h:x∈v_ref3_Delays p):∃s r,s < (ofC p).length∧r < (ofC p).length∧stB' (ofC p) s=true∧delB p (ofC p) s r=true∧x=delPair (ofC p) s r:=by
 unfold v_ref3_Delays delsFrom at h
 obtain ⟨s,hs,hx⟩:=List.mem_flatMap.1 h
 rw[Nat.sub_zero,←List.range_eq_range'] at hs
 unfold delS at hx
 split at hx
 ·rename_i hst
  obtain ⟨r,hr,rfl⟩:=List.mem_map.1 hx
  obtain ⟨hr1,hr2⟩:=List.mem_filter.1 hr
  rw[←List.range_eq_range'] at hr1
  exact ⟨s,r,List.mem_range.1 hs,List.mem_range.1 hr1,hst,hr2,rfl⟩
 ·cases hx
theorem open_fact {p:El T_api_Prog} (h:smallAll p=true) {x:El T_api_Pair} (hx:x∈v_ref3_Delays p):openK p x=true∧openRK p x=true∧openR p x=openB p x:=by
 obtain ⟨s,r,hs,hr,h1,h2,rfl⟩:=dels_mem hx
 obtain ⟨t0,t1,hf,i0,i1⟩:=acc_facts h hs
 have hf':flowOK (List.getD p.2 (Int.toNat (delPair (ofC p) s r).1) (dflt (.sl T_api_Ins)))=true:=hf
 obtain ⟨f1,f2,f3,_⟩:=free_eqO hf' (points:=[]) (by decide) (delPair (ofC p) s r).2.1 (delPair (ofC p) s r).2.2
 have hin:(decide ((0:Int)≤(delPair (ofC p) s r).1)&&decide ((delPair (ofC p) s r).1 < Int.ofNat (List.length p.2)))=true:=by
  rw[Bool.and_eq_true,decide_eq_true_eq,decide_eq_true_eq];exact ⟨t0,t1⟩
 unfold openK openRK openR openB
 rw[hin,f1,f2]
 exact ⟨rfl,rfl,f3⟩
theorem delays_all {p:El T_api_Prog} (h:smallAll p=true) (hN:(ofC p).length≤20000) (hT:p.2.length≤100):
  k_delay_Pairs p=true∧k_ref3_Delays p=true∧v_ref3_Delays p=v_delay_Pairs p∧k_book_SamePairs (v_delay_Pairs p) (v_delay_Pairs p)=true∧k_delay_Open p=true∧k_ref3_Open p=true∧v_ref3_Open p=v_delay_Open p∧k_book_SamePairs (v_delay_Open p) (v_delay_Open p)=true:=by
 have hNN:(ofC p).length*(ofC p).length≤20000*20000:=Nat.mul_le_mul hN hN
 have hTN:p.2.length*((ofC p).length*(ofC p).length)≤100*(20000*20000):=Nat.mul_le_mul hT hNN
 have k1:k_delay_Pairs p=true:=by
  unfold k_delay_Pairs
  rw[h,decide_eq_true (show (ofC p).length < 1000000000 by omega),decide_eq_true (show p.2.length < 1000000000 by omega),decide_eq_true]
  ·rfl
  ·unfold limit;omega
 have k2:k_ref3_Delays p=true:=by unfold k_ref3_Delays;rw[h,decide_eq_true (show (ofC p).length < 1000000 by omega)];rfl
 have e:=delays_eq k1
 have hl:=dels_len p
 have hl2:(v_ref3_Delays p).length≤400000000:=by omega
 have k3:k_delay_Open p=true:=by
  unfold k_delay_Open
  rw[k1,e,decide_eq_true (Nat.lt_of_le_of_lt hl2 (by decide)),Bool.true_and,Bool.true_and]
  exact List.all_eq_true.2 fun x hx=>(open_fact h hx).1
 have k4:k_ref3_Open p=true:=by
  unfold k_ref3_Open
  rw[k2,decide_eq_true (Nat.lt_of_le_of_lt hl2 (by decide)),Bool.true_and,Bool.true_and]
  exact List.all_eq_true.2 fun x hx=>(open_fact h hx).2.1
 have e2:v_ref3_Open p=v_delay_Open p:=by
  unfold v_ref3_Open v_delay_Open
  rw[e]
  exact List.filter_congr fun x hx=>(open_fact h hx).2.2
 refine ⟨k1,k2,e.symm,decide_eq_true (by rw[e];exact Nat.lt_of_le_of_lt hl2 (by decide)),k3,k4,e2,decide_eq_true ?_⟩
 have:(v_delay_Open p).length≤(v_delay_Pairs p).length:=by unfold v_delay_Open;exact List.length_filter_le _ _
 rw[e] at this
 exact Nat.lt_of_le_of_lt (Nat.le_trans this hl2) (by decide)
def delBX (p:El T_api_Prog) (l:List Acc) (s r:Nat):Bool:=((thA l r==thA l s)&&ldB' l r)&&(fromX (thrOf p l s) (inA l s) (inA l r).toNat&&backX p l r s)
def delsX (p:El T_api_Prog) (l:List Acc):List (El T_api_Pair):=(List.range' 0 l.length).flatMap fun s=>if stB' l s then ((List.range' 0 l.length).filter fun r=>delBX p l s r).map (delPair l s) else []
theorem delsX_eq (p:El T_api_Prog):v_ref3_Delays p=delsX p (ofC p):=by
 unfold v_ref3_Delays delsFrom delsX delS
 rw[Nat.sub_zero]
 have:∀l s r,delB p l s r=delBX p l s r:=fun l s r=>by unfold delB delBX;rw[fromX_eq,backX_eq]
 simp only[this]
def endsX (t:List (El T_api_Ins)) (points:List Int) (s:Int) (j:Nat):Bool:=(comeL (stepB t points) (firstB t points s) t.length).getD j false
theorem endsX_eq (t:List (El T_api_Ins)) (points:List Int) (s:Int) (j:Nat):endsB t points s j=endsX t points s j:=comeL_eq (fun j=>firstB_lt) (fun k j=>stepB_lt) j
end Go.Ev
end

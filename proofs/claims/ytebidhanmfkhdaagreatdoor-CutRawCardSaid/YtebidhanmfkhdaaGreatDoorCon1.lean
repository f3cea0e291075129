/- Part of the proof of: Of a program that may not be, or a thread that there is not, nothing is chosen: for every input the law answers true. -/
import Derived.Shelf.Slices.In.SortNone
import Derived.Shelf.Sort.Plain
import Derived.Test.YtebidhanmfkhdaaGreatDoorCon0
set_option maxRecDepth 100000
set_option linter.unusedSectionVars false
set_option linter.unusedVariables false
set_option linter.unusedSimpArgs false
section
open Go Go.Ev
namespace Go.Ev
noncomputable section
def sg_ins_Reads:Sig:=[(true,T_api_Ins)]
noncomputable def t_ins_Reads:Tbl:=[(110,e_ins_Right),(115,e_ins_memory)]
theorem tk_ins_Reads:∀p∈t_ins_Reads,EntOK Go.Proofs.Tryz.prog p.1 p.2:=tbl_cons ok_ins_Right (tbl_cons ok_ins_memory (tbl_nil))
noncomputable def c_ins_Reads:Code:=Go.Proofs.Tryz.f84.body.getD .skip
def tb_ins_Reads:Tb:=[]
def T_ins_Reads (i:El T_api_Ins):Empty→JT Empty ((El T_api_Opd)×Bool):=fun j=>nomatch j
def T0_ins_Reads (i:El T_api_Ins):JT Empty ((El T_api_Opd)×Bool):=.br (k_ins_Right i) (.br ((v_ins_Right i) !=(0:Int)) (.leaf (((0:Int),((0:Int),((0:Int),(0:Int)))),false)) (.br (v_ins_memory i.2.2.2.2.1) (.leaf (i.2.2.2.2.1,true)) (.br (v_ins_memory i.2.2.2.1) (.br (i.1 !=(1:Int)) (.leaf (i.2.2.2.1,true)) (.leaf (((0:Int),((0:Int),((0:Int),(0:Int)))),false))) (.leaf (((0:Int),((0:Int),((0:Int),(0:Int)))),false))))) (.no)
def v_ins_Reads (i:El T_api_Ins):(El T_api_Opd)×Bool:=bif (k_ins_Right i) then bif ((v_ins_Right i) !=(0:Int)) then (((0:Int),((0:Int),((0:Int),(0:Int)))),false) else bif (v_ins_memory i.2.2.2.2.1) then (i.2.2.2.2.1,true) else bif (v_ins_memory i.2.2.2.1) then bif (i.1 !=(1:Int)) then (i.2.2.2.1,true) else (((0:Int),((0:Int),((0:Int),(0:Int)))),false) else (((0:Int),((0:Int),((0:Int),(0:Int)))),false) else (((0:Int),((0:Int),((0:Int),(0:Int)))),false)
def k_ins_Reads (i:El T_api_Ins):Bool:=bif (k_ins_Right i) then bif ((v_ins_Right i) !=(0:Int)) then true else bif (v_ins_memory i.2.2.2.2.1) then true else bif (v_ins_memory i.2.2.2.1) then bif (i.1 !=(1:Int)) then true else true else true else false
theorem g_ins_Reads (i:El T_api_Ins) (hk:k_ins_Reads i=true):Goes (T_ins_Reads i) (T0_ins_Reads i) (v_ins_Reads i):=Goes.brk hk (fun hk=>Goes.brk hk (fun hk=>Goes.leaf) (fun hk=>Goes.brk hk (fun hk=>Goes.leaf) (fun hk=>Goes.brk hk (fun hk=>Goes.brk hk (fun hk=>Goes.leaf) (fun hk=>Goes.leaf)) (fun hk=>Goes.leaf)))) (fun hk=>Goes.nok hk)
def R_ins_Reads:(El T_api_Opd)×Bool→AV:=fun (r:(El T_api_Opd)×Bool)=>.tu [.ag [.d (.int .i64) r.1.1,.d (.int .i64) r.1.2.1,.d (.int .i64) r.1.2.2.1,.d (.int .i64) r.1.2.2.2],.d .bool r.2]
def S_ins_Reads (i:El T_api_Ins):Empty→Nat×St:=fun j=>nomatch j
theorem en_ins_Reads (i:El T_api_Ins) (L:Lt):entryA Go.Proofs.Tryz.prog (clOf t_ins_Reads) tb_ins_Reads Go.Proofs.Tryz.f84 c_ins_Reads L (toForms sg_ins_Reads (i,()))=(T0_ins_Reads i).run (fun v=>some (R_ins_Reads v,tps (toForms sg_ins_Reads (i,())))) fun j=>L (S_ins_Reads i j).1 (S_ins_Reads i j).2:=by kernel_rfl
theorem lp_ins_Reads (i:El T_api_Ins):∀(L:Lt) (j:Empty),procOf (procsF Go.Proofs.Tryz.prog (clOf t_ins_Reads) tb_ins_Reads Go.Proofs.Tryz.f84 c_ins_Reads (toForms sg_ins_Reads (i,()))) (S_ins_Reads i j).1 L (S_ins_Reads i j).2=(T_ins_Reads i j).run (fun v=>some (R_ins_Reads v,tps (toForms sg_ins_Reads (i,())))) fun j=>L (S_ins_Reads i j).1 (S_ins_Reads i j).2:=fun L j=>nomatch j
noncomputable def e_ins_Reads:Run:=entG sg_ins_Reads R_ins_Reads (fun a=>k_ins_Reads a.1) (fun a=>v_ins_Reads a.1)
theorem ok_ins_Reads:EntOK Go.Proofs.Tryz.prog 84 e_ins_Reads:=entG_ok (tb:=tb_ins_Reads) (c:=c_ins_Reads) tk_ins_Reads (by kernel_rfl) (by kernel_rfl) (by kernel_rfl) (fun a=>by kernel_rfl) fun ⟨i,_⟩ hk=>evF_goes (c:=c_ins_Reads) (K:=fun v=>(R_ins_Reads v,tps (toForms sg_ins_Reads (i,())))) (S:=S_ins_Reads i) (by kernel_rfl) (en_ins_Reads i) (lp_ins_Reads i) (g_ins_Reads i hk)
end
end Go.Ev
end

section
open Go Go.Ev
namespace Go.Ev
noncomputable section
def sg_ins_Writes:Sig:=[(true,T_api_Ins)]
noncomputable def t_ins_Writes:Tbl:=[(110,e_ins_Right),(115,e_ins_memory)]
theorem tk_ins_Writes:∀p∈t_ins_Writes,EntOK Go.Proofs.Tryz.prog p.1 p.2:=tbl_cons ok_ins_Right (tbl_cons ok_ins_memory (tbl_nil))
noncomputable def c_ins_Writes:Code:=Go.Proofs.Tryz.f85.body.getD .skip
def tb_ins_Writes:Tb:=[]
def T_ins_Writes (i:El T_api_Ins):Empty→JT Empty ((El T_api_Opd)×Bool):=fun j=>nomatch j
def T0_ins_Writes (i:El T_api_Ins):JT Empty ((El T_api_Opd)×Bool):=.br (k_ins_Right i) (.br ((v_ins_Right i) !=(0:Int)) (.leaf (((0:Int),((0:Int),((0:Int),(0:Int)))),false)) (.br (! (v_ins_memory i.2.2.2.1)) (.leaf (((0:Int),((0:Int),((0:Int),(0:Int)))),false)) (.br (i.1==(7:Int)) (.leaf (((0:Int),((0:Int),((0:Int),(0:Int)))),false)) (.leaf (i.2.2.2.1,true))))) (.no)
def v_ins_Writes (i:El T_api_Ins):(El T_api_Opd)×Bool:=bif (k_ins_Right i) then bif ((v_ins_Right i) !=(0:Int)) then (((0:Int),((0:Int),((0:Int),(0:Int)))),false) else bif (! (v_ins_memory i.2.2.2.1)) then (((0:Int),((0:Int),((0:Int),(0:Int)))),false) else bif (i.1==(7:Int)) then (((0:Int),((0:Int),((0:Int),(0:Int)))),false) else (i.2.2.2.1,true) else (((0:Int),((0:Int),((0:Int),(0:Int)))),false)
def k_ins_Writes (i:El T_api_Ins):Bool:=bif (k_ins_Right i) then bif ((v_ins_Right i) !=(0:Int)) then true else bif (! (v_ins_memory i.2.2.2.1)) then true else bif (i.1==(7:Int)) then true else true else false
theorem g_ins_Writes (i:El T_api_Ins) (hk:k_ins_Writes i=true):Goes (T_ins_Writes i) (T0_ins_Writes i) (v_ins_Writes i):=Goes.brk hk (fun hk=>Goes.brk hk (fun hk=>Goes.leaf) (fun hk=>Goes.brk hk (fun hk=>Goes.leaf) (fun hk=>Goes.brk hk (fun hk=>Goes.leaf) (fun hk=>Goes.leaf)))) (fun hk=>Goes.nok hk)
def R_ins_Writes:(El T_api_Opd)×Bool→AV:=fun (r:(El T_api_Opd)×Bool)=>.tu [.ag [.d (.int .i64) r.1.1,.d (.int .i64) r.1.2.1,.d (.int .i64) r.1.2.2.1,.d (.int .i64) r.1.2.2.2],.d .bool r.2]
def S_ins_Writes (i:El T_api_Ins):Empty→Nat×St:=fun j=>nomatch j
theorem en_ins_Writes (i:El T_api_Ins) (L:Lt):entryA Go.Proofs.Tryz.prog (clOf t_ins_Writes) tb_ins_Writes Go.Proofs.Tryz.f85 c_ins_Writes L (toForms sg_ins_Writes (i,()))=(T0_ins_Writes i).run (fun v=>some (R_ins_Writes v,tps (toForms sg_ins_Writes (i,())))) fun j=>L (S_ins_Writes i j).1 (S_ins_Writes i j).2:=by kernel_rfl
theorem lp_ins_Writes (i:El T_api_Ins):∀(L:Lt) (j:Empty),procOf (procsF Go.Proofs.Tryz.prog (clOf t_ins_Writes) tb_ins_Writes Go.Proofs.Tryz.f85 c_ins_Writes (toForms sg_ins_Writes (i,()))) (S_ins_Writes i j).1 L (S_ins_Writes i j).2=(T_ins_Writes i j).run (fun v=>some (R_ins_Writes v,tps (toForms sg_ins_Writes (i,())))) fun j=>L (S_ins_Writes i j).1 (S_ins_Writes i j).2:=fun L j=>nomatch j
noncomputable def e_ins_Writes:Run:=entG sg_ins_Writes R_ins_Writes (fun a=>k_ins_Writes a.1) (fun a=>v_ins_Writes a.1)
theorem ok_ins_Writes:EntOK Go.Proofs.Tryz.prog 85 e_ins_Writes:=entG_ok (tb:=tb_ins_Writes) (c:=c_ins_Writes) tk_ins_Writes (by kernel_rfl) (by kernel_rfl) (by kernel_rfl) (fun a=>by kernel_rfl) fun ⟨i,_⟩ hk=>evF_goes (c:=c_ins_Writes) (K:=fun v=>(R_ins_Writes v,tps (toForms sg_ins_Writes (i,())))) (S:=S_ins_Writes i) (by kernel_rfl) (en_ins_Writes i) (lp_ins_Writes i) (g_ins_Writes i hk)
end
end Go.Ev
end

section
open Go Go.Ev
namespace Go.Ev
noncomputable section
def sg_touch_Of:Sig:=[(true,T_api_Prog)]
noncomputable def t_touch_Of:Tbl:=[(43,e_valid_Check),(83,e_ins_Locked),(84,e_ins_Reads),(85,e_ins_Writes)]
theorem tk_touch_Of:∀p∈t_touch_Of,EntOK Go.Proofs.Tryz.prog p.1 p.2:=tbl_cons ok_valid_Check (tbl_cons ok_ins_Locked (tbl_cons ok_ins_Reads (tbl_cons ok_ins_Writes (tbl_nil))))
noncomputable def c_touch_Of:Code:=Go.Proofs.Tryz.f49.body.getD .skip
def tb_touch_Of:Tb:=[(7,⟨[3,17,18,19],[(4,164)]⟩),(13,⟨[3,4,17,18,19,25,26,27],[(4,164)]⟩),(hintK,⟨[1],[(1,165)]⟩)]
inductive J_touch_Of where | l7 (h:Int) (out:List (El T_api_Access)) | l13 (h:List (El T_api_Ins)) (h1:Int) (h2:Int) (out:List (El T_api_Access)) (t:Int) (h3:Int)
def T_touch_Of (p:El T_api_Prog):J_touch_Of→JT J_touch_Of (List (El T_api_Access)) |.l7 h out=>.br (decide (h < (Int.ofNat (List.length p.2)))) (.br ((decide ((0:Int)≤h))&&(decide (h < (Int.ofNat (List.length p.2))))) (.jmp (.l13 (List.getD p.2 (Int.toNat h) (dflt (.sl T_api_Ins))) (Int.ofNat (List.length (List.getD p.2 (Int.toNat h) (dflt (.sl T_api_Ins))))) (0:Int) out h h)) (.no)) (.leaf out) |.l13 h h1 h2 out t h3=>.br (decide (h2 < h1)) (.br ((decide ((0:Int)≤h2))&&(decide (h2 < (Int.ofNat (List.length h))))) (.br (k_ins_Locked (List.getD h (Int.toNat h2) (dflt T_api_Ins))) (.br (k_ins_Reads (List.getD h (Int.toNat h2) (dflt T_api_Ins))) (.br (v_ins_Reads (List.getD h (Int.toNat h2) (dflt T_api_Ins))).2 (.br (Nat.ble (((List.length out)+1)*40) limit) (.br (k_ins_Writes (List.getD h (Int.toNat h2) (dflt T_api_Ins))) (.br (v_ins_Writes (List.getD h (Int.toNat h2) (dflt T_api_Ins))).2 (.br (Nat.ble (((List.length (out++[(t,(h2,((0:Int),((v_ins_Reads (List.getD h (Int.toNat h2) (dflt T_api_Ins))).1.2.2.1,(false,(v_ins_Locked (List.getD h (Int.toNat h2) (dflt T_api_Ins))))))))]))+1)*40) limit) (.jmp (.l13 h h1 (IntKind.i64.wrap (h2+(1:Int))) ((out++[(t,(h2,((0:Int),((v_ins_Reads (List.getD h (Int.toNat h2) (dflt T_api_Ins))).1.2.2.1,(false,(v_ins_Locked (List.getD h (Int.toNat h2) (dflt T_api_Ins))))))))])++[(t,(h2,((1:Int),((v_ins_Writes (List.getD h (Int.toNat h2) (dflt T_api_Ins))).1.2.2.1,(true,(v_ins_Locked (List.getD h (Int.toNat h2) (dflt T_api_Ins))))))))]) t h3)) (.no)) (.jmp (.l13 h h1 (IntKind.i64.wrap (h2+(1:Int))) (out++[(t,(h2,((0:Int),((v_ins_Reads (List.getD h (Int.toNat h2) (dflt T_api_Ins))).1.2.2.1,(false,(v_ins_Locked (List.getD h (Int.toNat h2) (dflt T_api_Ins))))))))]) t h3))) (.no)) (.no)) (.br (k_ins_Writes (List.getD h (Int.toNat h2) (dflt T_api_Ins))) (.br (v_ins_Writes (List.getD h (Int.toNat h2) (dflt T_api_Ins))).2 (.br (Nat.ble (((List.length out)+1)*40) limit) (.jmp (.l13 h h1 (IntKind.i64.wrap (h2+(1:Int))) (out++[(t,(h2,((0:Int),((v_ins_Writes (List.getD h (Int.toNat h2) (dflt T_api_Ins))).1.2.2.1,(true,(v_ins_Locked (List.getD h (Int.toNat h2) (dflt T_api_Ins))))))))]) t h3)) (.no)) (.jmp (.l13 h h1 (IntKind.i64.wrap (h2+(1:Int))) out t h3))) (.no))) (.no)) (.no)) (.no)) (.jmp (.l7 (IntKind.i64.wrap (h3+(1:Int))) out))
def T0_touch_Of (p:El T_api_Prog):JT J_touch_Of (List (El T_api_Access)):=.br (k_valid_Check p) (.br ((v_valid_Check p) !=(0:Int)) (.leaf []) (.jmp (.l7 (0:Int) []))) (.no)
def R_touch_Of:List (El T_api_Access)→AV:=fun (r:List (El T_api_Access))=>.d (.sl T_api_Access) r
def S_touch_Of (p:El T_api_Prog):J_touch_Of→Nat×St |.l7 h out=>(7,⟨mkTm 68 [(3,.own 4 0 none),(17,.d (.sl (.sl T_api_Ins)) p.2),(18,.d (.int .i64) (Int.ofNat (List.length p.2))),(19,.d (.int .i64) h)],[(4,0,.row 90 T_api_Access out false)]⟩) |.l13 h h1 h2 out t h3=>(13,⟨mkTm 68 [(3,.own 4 0 none),(4,.d (.int .i64) t),(17,.d (.sl (.sl T_api_Ins)) p.2),(18,.d (.int .i64) (Int.ofNat (List.length p.2))),(19,.d (.int .i64) h3),(25,.d (.sl T_api_Ins) h),(26,.d (.int .i64) h1),(27,.d (.int .i64) h2)],[(4,0,.row 90 T_api_Access out false)]⟩)
theorem en_touch_Of (p:El T_api_Prog) (L:Lt):entryA Go.Proofs.Tryz.prog (clOf t_touch_Of) tb_touch_Of Go.Proofs.Tryz.f49 c_touch_Of L (toForms sg_touch_Of (p,()))=(T0_touch_Of p).run (fun v=>some (R_touch_Of v,tps (toForms sg_touch_Of (p,())))) fun j=>L (S_touch_Of p j).1 (S_touch_Of p j).2:=by kernel_rfl
theorem lp_touch_Of (p:El T_api_Prog):∀(L:Lt) (j:J_touch_Of),procOf (procsF Go.Proofs.Tryz.prog (clOf t_touch_Of) tb_touch_Of Go.Proofs.Tryz.f49 c_touch_Of (toForms sg_touch_Of (p,()))) (S_touch_Of p j).1 L (S_touch_Of p j).2=(T_touch_Of p j).run (fun v=>some (R_touch_Of v,tps (toForms sg_touch_Of (p,())))) fun j=>L (S_touch_Of p j).1 (S_touch_Of p j).2 | L,.l7 h out=>by kernel_rfl | L,.l13 h h1 h2 out t h3=>by kernel_rfl
end
end Go.Ev
end

section
namespace Go.Ev
open Go
theorem k_reads {i:El T_api_Ins} (h:smallText i.2.2.2.2.2.1=true):k_ins_Reads i=true∧k_ins_Writes i=true∧k_ins_Leads i=true∧k_ins_Locked i=true:=by
 have h0:k_ins_Right i=true:=h
 unfold k_ins_Reads k_ins_Writes k_ins_Leads k_ins_Locked
 simp only[h0,cond_true,Bool.cond_self,and_self]
end Go.Ev
end

section
namespace Go.Ev
open Go
def accI (t k:Nat) (i:El T_api_Ins):List (El T_api_Access):=
 (if (v_ins_Reads i).2 then [((t:Int),((k:Int),((0:Int),((v_ins_Reads i).1.2.2.1,(false,v_ins_Locked i)))))] else [])++
 (if (v_ins_Writes i).2 then [((t:Int),((k:Int),((if (v_ins_Reads i).2 then (1:Int) else 0),((v_ins_Writes i).1.2.2.1,(true,v_ins_Locked i)))))] else [])
def accT (t:Nat):Nat→List (El T_api_Ins)→List (El T_api_Access)
 | _,[]=>[]
 | k,i :: r=>accI t k i++accT t (k+1) r
def accP:Nat→List (List (El T_api_Ins))→List (El T_api_Access)
 | _,[]=>[]
 | t,x :: r=>accT t 0 x++accP (t+1) r
def ofC (p:El T_api_Prog):List (El T_api_Access):=if checkC p=0 then accP 0 p.2 else []
theorem accI_len (t k:Nat) (i:El T_api_Ins):(accI t k i).length≤2:=by
 unfold accI
 rw[List.length_append]
 split <;> split <;> simp
theorem accT_len (t:Nat):∀(k:Nat) (l:List (El T_api_Ins)),(accT t k l).length≤2*l.length
 | _,[]=>Nat.le_refl _
 | k,i :: r=>by
  have:=accT_len t (k+1) r
  have:=accI_len t k i
  unfold accT
  rw[List.length_append,List.length_cons]
  omega
def total (l:List (List (El T_api_Ins))):Nat:=(l.map List.length).sum
theorem accP_len:∀(t:Nat) (l:List (List (El T_api_Ins))),(accP t l).length≤2*total l
 | _,[]=>Nat.le_refl _
 | t,x :: r=>by
  have:=accP_len (t+1) r
  have:=accT_len t 0 x
  unfold accP
  rw[List.length_append]
  unfold total at*
  rw[List.map_cons,List.sum_cons]
  omega
def smallAll (p:El T_api_Prog):Bool:=smallProg p&&(decide (p.2.length < 1073741824)&&decide (total p.2 < 1073741824))
theorem total_drop {l:List (List (El T_api_Ins))} {k:Nat} (h:k < l.length):total (l.drop k)=(List.length l[k])+total (l.drop (k+1)):=by
 rw[drop_cons h];unfold total;rw[List.map_cons,List.sum_cons]
theorem ble40 {n:Nat} (h:n < 8589934592):Nat.ble ((n+1)*40) limit=true:=by apply Nat.ble_eq_true_of_le;unfold limit;omega
structure SmallA (p:El T_api_Prog):Prop where
 prog:smallProg p=true
 len:p.2.length < 1073741824
 tot:total p.2 < 1073741824
 thr:∀t∈p.2,smallThread t=true
theorem smallA {p:El T_api_Prog} (h:smallAll p=true):SmallA p:=by
 unfold smallAll at h
 simp only[Bool.and_eq_true,decide_eq_true_eq] at h
 refine ⟨h.1,h.2.1,h.2.2,?_⟩
 have h1:=h.1
 unfold smallProg at h1
 simp only[Bool.and_eq_true,List.all_eq_true] at h1
 exact h1.2
theorem ofC_len {p:El T_api_Prog} (h:smallAll p=true):(ofC p).length < 2147483648:=by
 have:=accP_len 0 p.2
 have:=(smallA h).tot
 unfold ofC
 split
 ·omega
 ·exact Nat.zero_lt_succ _
end Go.Ev
end

section
open Go
namespace Go.Ev
def v_touch_Of (p:El T_api_Prog):List (El T_api_Access):=ofC p
def k_touch_Of (p:El T_api_Prog):Bool:=smallAll p
theorem g_touch_Of (p:El T_api_Prog) (hk:k_touch_Of p=true):Goes (T_touch_Of p) (T0_touch_Of p) (v_touch_Of p):=by
 have hA:=smallA hk
 obtain ⟨sy,th⟩:=p
 have hkc:k_valid_Check (sy,th)=true:=hA.prog
 have hlen:th.length < 1073741824:=hA.len
 have htot:total th < 1073741824:=hA.tot
 have main:∀k,k≤th.length→∀out:List (El T_api_Access),out.length+2*total (th.drop k) < 4294967296→Goes (T_touch_Of (sy,th)) (.jmp (.l7 (k:Int) out)) (out++accP k (th.drop k)):=by
  refine down ?_ fun k hk ih=>?_
  ·intro out ho
   rw[goes_jmp]
   simp only[T_touch_Of,goes_br,lt_len_not (Nat.lt_irrefl _),goes_leaf,List.drop_length]
   simp[accP]
  ·intro out ho
   rw[total_drop hk] at ho
   have hS:=smallT (hA.thr _ (List.getElem_mem hk))
   rw[goes_jmp]
   simp only[T_touch_Of,goes_br,lt_len hk,nng,Bool.and_self,if_true,Int.toNat_natCast,getD_lt hk]
   rw[drop_cons hk]
   unfold accP
   generalize th[k]=x at ho hS
   have inner:∀j,j≤List.length x→∀out:List (El T_api_Access),out.length+2*(List.length x - j)+2*total (th.drop (k+1)) < 4294967296→Goes (T_touch_Of (sy,th)) (.jmp (.l13 x (Int.ofNat (List.length x)) (j:Int) out (k:Int) (k:Int))) (out++(accT k j (List.drop j x)++accP (k+1) (th.drop (k+1)))):=by
    refine down ?_ fun j hj ihj=>?_
    ·intro out ho
     rw[goes_jmp]
     simp only[T_touch_Of,goes_br,lt_len_not (Nat.lt_irrefl _),wrap_succ (k:=k) (by omega),List.drop_length]
     have:=ih out (by omega)
     simpa[accT] using this
    ·intro out ho
     have hto:=hS.to _ (List.getElem_mem hj)
     obtain ⟨a1,a2,a3,a4⟩:=k_reads hto
     have hx:List.length x < 1099511627776:=hS.len
     rw[goes_jmp]
     have b1:Nat.ble ((out.length+1)*40) limit=true:=ble40 (by omega)
     have b2:∀y:El T_api_Access,Nat.ble (((out++[y]).length+1)*40) limit=true:=fun y=>ble40 (by rw[List.length_append];simp;omega)
     simp only[T_touch_Of,goes_br,lt_len hj,nng,Bool.and_self,if_true,Int.toNat_natCast,getD_lt hj,wrap_succ (k:=j) (by omega),a1,a2,a4,b1,b2]
     rw[drop_cons hj]
     unfold accT accI
     have hs:∀y:List (El T_api_Access),y.length≤2→Goes (T_touch_Of (sy,th)) (.jmp (.l13 x (Int.ofNat (List.length x)) ((j+1:Nat):Int) (out++y) (k:Int) (k:Int))) (out++((y++accT k (j+1) (List.drop (j+1) x))++accP (k+1) (th.drop (k+1)))):=fun y hy=>by
      have:=ihj (out++y) (by rw[List.length_append];omega)
      rw[List.append_assoc] at this
      rw[List.append_assoc]
      exact this
     by_cases hr:(v_ins_Reads x[j]).2=true <;> by_cases hw:(v_ins_Writes x[j]).2=true
     ·simp only[hr,hw,if_true]
      rw[List.append_assoc out]
      exact hs _ (by simp)
     ·simp only[hr,hw,if_true,if_false]
      exact hs _ (by simp)
     ·simp only[hr,hw,if_true,if_false]
      exact hs _ (by simp)
     ·simp only[hr,hw,if_false]
      have:=hs [] (by simp)
      rw[List.append_nil] at this
      exact this
   exact inner 0 (Nat.zero_le _) out (by omega)
 unfold T0_touch_Of v_touch_Of ofC
 simp only[goes_br,hkc,if_true,v_valid_Check]
 by_cases h:checkC (sy,th)=0
 ·rw[if_neg (by simp[h]),if_pos h]
  have:=main 0 (Nat.zero_le _) [] (by simp;omega)
  simpa using this
 ·rw[if_pos (by simp[h]),if_neg h]
  exact .leaf
end Go.Ev
end

section
open Go Go.Ev
namespace Go.Ev
noncomputable section
noncomputable def e_touch_Of:Run:=entG sg_touch_Of R_touch_Of (fun a=>k_touch_Of a.1) (fun a=>v_touch_Of a.1)
theorem ok_touch_Of:EntOK Go.Proofs.Tryz.prog 49 e_touch_Of:=entG_ok (tb:=tb_touch_Of) (c:=c_touch_Of) tk_touch_Of (by kernel_rfl) (by kernel_rfl) (by kernel_rfl) (fun a=>by kernel_rfl) fun ⟨p,_⟩ hk=>evF_goes (c:=c_touch_Of) (K:=fun v=>(R_touch_Of v,tps (toForms sg_touch_Of (p,())))) (S:=S_touch_Of p) (by kernel_rfl) (en_touch_Of p) (lp_touch_Of p) (g_touch_Of p hk)
end
end Go.Ev
end

section
open Go Go.Ev
namespace Go.Ev
noncomputable section
def sg_delay_plain:Sig:=[(false,(.sl T_api_Access)),(false,(.int .i64)),(false,.bool)]
noncomputable def t_delay_plain:Tbl:=[]
theorem tk_delay_plain:∀p∈t_delay_plain,EntOK Go.Proofs.Tryz.prog p.1 p.2:=tbl_nil
noncomputable def c_delay_plain:Code:=Go.Proofs.Tryz.f50.body.getD .skip
def tb_delay_plain:Tb:=[(4,⟨[1,2,7,10,11,12],[(8,46)]⟩)]
inductive J_delay_plain where | l4 (h:Int) (out:List Int)
def T_delay_plain (l:List (El T_api_Access)) (t:Int) (write:Bool):J_delay_plain→JT J_delay_plain (List Int) |.l4 h out=>.br (decide (h < (Int.ofNat (List.length l)))) (.br ((decide ((0:Int)≤h))&&(decide (h < (Int.ofNat (List.length l))))) (.br ((List.getD l (Int.toNat h) (dflt T_api_Access)).1==t) (.br ((List.getD l (Int.toNat h) (dflt T_api_Access)).2.2.2.2.1==write) (.br (! (List.getD l (Int.toNat h) (dflt T_api_Access)).2.2.2.2.2) (.br (Nat.ble (((List.length out)+1)*8) limit) (.jmp (.l4 (IntKind.i64.wrap (h+(1:Int))) (out++[h]))) (.no)) (.jmp (.l4 (IntKind.i64.wrap (h+(1:Int))) out))) (.jmp (.l4 (IntKind.i64.wrap (h+(1:Int))) out))) (.jmp (.l4 (IntKind.i64.wrap (h+(1:Int))) out))) (.no)) (.leaf out)
def T0_delay_plain (l:List (El T_api_Access)) (t:Int) (write:Bool):JT J_delay_plain (List Int):=.jmp (.l4 (0:Int) [])
def R_delay_plain:List Int→AV:=fun (r:List Int)=>.rw 3 (.int .i64) r
def S_delay_plain (l:List (El T_api_Access)) (t:Int) (write:Bool):J_delay_plain→Nat×St |.l4 h out=>(4,⟨mkTm 38 [(1,.d (.int .i64) t),(2,.d .bool write),(7,.own 8 0 none),(10,.d (.sl T_api_Access) l),(11,.d (.int .i64) (Int.ofNat (List.length l))),(12,.d (.int .i64) h)],[(8,0,.row 3 (.int .i64) out false)]⟩)
theorem en_delay_plain (l:List (El T_api_Access)) (t:Int) (write:Bool) (L:Lt):entryA Go.Proofs.Tryz.prog (clOf t_delay_plain) tb_delay_plain Go.Proofs.Tryz.f50 c_delay_plain L (toForms sg_delay_plain (l,t,write,()))=(T0_delay_plain l t write).run (fun v=>some (R_delay_plain v,tps (toForms sg_delay_plain (l,t,write,())))) fun j=>L (S_delay_plain l t write j).1 (S_delay_plain l t write j).2:=by kernel_rfl
theorem lp_delay_plain (l:List (El T_api_Access)) (t:Int) (write:Bool):∀(L:Lt) (j:J_delay_plain),procOf (procsF Go.Proofs.Tryz.prog (clOf t_delay_plain) tb_delay_plain Go.Proofs.Tryz.f50 c_delay_plain (toForms sg_delay_plain (l,t,write,()))) (S_delay_plain l t write j).1 L (S_delay_plain l t write j).2=(T_delay_plain l t write j).run (fun v=>some (R_delay_plain v,tps (toForms sg_delay_plain (l,t,write,())))) fun j=>L (S_delay_plain l t write j).1 (S_delay_plain l t write j).2 | L,.l4 h out=>by kernel_rfl
end
end Go.Ev
end

section
open Go
namespace Go.Ev
def wordAt (m:List (Int×Int)) (k:Int):Int:=Option.getD (mget (kt:=(.int .i64)) k m) (0:Int)
def bitE (w:Int) (i:Int):Bool:=(bitAnd IntKind.u64 (Int.fdiv w (2 ^ (min (Int.toNat (IntKind.u64.wrap i)) (IntKind.u64).bits))) (1:Int))==(1:Int)
def numE (k i:Int):Int:=IntKind.i64.wrap ((IntKind.i64.wrap (k*(64:Int)))+i)
def wordList (m:List (Int×Int)) (k:Int) (i n:Nat):List Int:=((List.range' i n).filter fun i=>bitE (wordAt m k) (i:Nat)).map fun i=>numE k (i:Nat)
def listAt (m:List (Int×Int)) (places:List Int):List Int:=places.flatMap fun k=>wordList m k 0 64
def listS (s:Int×List (Int×Int)):List Int:=listAt s.2 ((s.2.map Prod.fst).mergeSort fun x y=>decide (x≤y))
theorem wrapU_small {i:Nat} (h:i < 64):IntKind.u64.wrap (i:Int)=(i:Int):=by
 unfold IntKind.wrap
 simp[IntKind.signed,IntKind.bits]
 omega
theorem wordList_length (m:List (Int×Int)) (k:Int) (i n:Nat):(wordList m k i n).length≤n:=by
 unfold wordList
 rw[List.length_map]
 exact Nat.le_trans (List.length_filter_le _ _) (by simp)
end Go.Ev
namespace Go.Ev
def placeOf (i:Int):Int:=IntKind.i64.wrap (Int.tdiv i (64:Int))
def hasS (s:Int×List (Int×Int)) (i:Int):Bool:=decide (i≥(0:Int))&&(decide (i < s.1)&&bitE (wordAt s.2 (placeOf i)) (Int.tmod i (64:Int)))
def withBit (w i:Int):Int:=bitOr IntKind.u64 w (IntKind.u64.wrap ((1:Int)*(2 ^ (min (Int.toNat (IntKind.u64.wrap i)) (IntKind.u64).bits))))
def putS (s:Int×List (Int×Int)) (i:Int):Bool×Int×List (Int×Int):=
 if i < 0∨s.1≤i∨hasS s i=true then (false,s) else (true,s.1,mput (kt:=(.int .i64)) (placeOf i) (withBit (wordAt s.2 (placeOf i)) (Int.tmod i (64:Int))) s.2)
theorem wrapU_nonneg (n:Int):decide (IntKind.u64.wrap n < (0:Int))=false:=by
 apply decide_eq_false
 unfold IntKind.wrap
 simp only[IntKind.signed,IntKind.bits,Bool.false_and,Bool.false_eq_true,if_false]
 have:(0:Int)≤n % 18446744073709551616:=Int.emod_nonneg _ (by decide)
 simp at*
 omega
end Go.Ev
end

section
open Go
namespace Go.Ev
theorem wrapU_lt {n:Nat} (h:n < 2 ^ 64):IntKind.u64.wrap (n:Int)=(n:Int):=by
 unfold IntKind.wrap
 simp only[IntKind.signed,IntKind.bits,Bool.false_and,Bool.false_eq_true,if_false]
 exact Int.emod_eq_of_lt (by omega) (by exact_mod_cast h)
theorem ofIntU {n:Nat} :BitVec.ofInt 64 (n:Int)=BitVec.ofNat 64 n:=BitVec.ofInt_natCast 64 n
theorem bitAnd_eq {a b:Nat} (ha:a < 2 ^ 64) (hb:b < 2 ^ 64):bitAnd IntKind.u64 (a:Int) (b:Int)=((a &&& b:Nat):Int):=by
 unfold bitAnd
 show IntKind.u64.wrap (((BitVec.ofInt 64 (a:Int) &&& BitVec.ofInt 64 (b:Int)).toNat:Nat):Int)=_
 rw[ofIntU,ofIntU,BitVec.toNat_and,BitVec.toNat_ofNat,BitVec.toNat_ofNat,Nat.mod_eq_of_lt ha,Nat.mod_eq_of_lt hb]
 exact wrapU_lt (Nat.lt_of_le_of_lt Nat.and_le_left ha)
theorem bitOr_eq {a b:Nat} (ha:a < 2 ^ 64) (hb:b < 2 ^ 64):bitOr IntKind.u64 (a:Int) (b:Int)=((a ||| b:Nat):Int):=by
 unfold bitOr
 show IntKind.u64.wrap (((BitVec.ofInt 64 (a:Int) ||| BitVec.ofInt 64 (b:Int)).toNat:Nat):Int)=_
 rw[ofIntU,ofIntU,BitVec.toNat_or,BitVec.toNat_ofNat,BitVec.toNat_ofNat,Nat.mod_eq_of_lt ha,Nat.mod_eq_of_lt hb]
 exact wrapU_lt (Nat.or_lt_two_pow ha hb)
theorem two_pow_int (j:Nat):(2:Int) ^ j=((2 ^ j:Nat):Int):=by simp
theorem bitE_eq {w j:Nat} (hw:w < 2 ^ 64) (hj:j < 64):bitE (w:Int) (j:Int)=w.testBit j:=by
 unfold bitE
 rw[wrapU_small hj,Int.toNat_natCast,show min j (IntKind.u64).bits=j from Nat.min_eq_left (by show j≤64;omega),two_pow_int,Int.fdiv_eq_ediv_of_nonneg _ (Int.natCast_nonneg _),←Int.natCast_ediv]
 rw[show (1:Int)=((1:Nat):Int) from rfl,bitAnd_eq (Nat.lt_of_le_of_lt (Nat.div_le_self _ _) hw) (by decide),Nat.and_one_is_mod,Nat.testBit_eq_decide_div_mod_eq]
 by_cases h:w / 2 ^ j % 2=1
 ·rw[h];simp
 ·have:w / 2 ^ j % 2=0:=by omega
  rw[this];simp
theorem withBit_eq {w j:Nat} (hw:w < 2 ^ 64) (hj:j < 64):withBit (w:Int) (j:Int)=((w ||| 2 ^ j:Nat):Int):=by
 unfold withBit
 have hp:2 ^ j < 2 ^ 64:=Nat.pow_lt_pow_right (by decide) hj
 rw[wrapU_small hj,Int.toNat_natCast,show min j (IntKind.u64).bits=j from Nat.min_eq_left (by show j≤64;omega),two_pow_int,Int.one_mul,wrapU_lt hp,bitOr_eq hw hp]
theorem mget_mput_self (k v:Int):∀m:List (Int×Int),mget (kt:=.int .i64) k (mput (kt:=.int .i64) k v m)=some v
 | []=>by simp[mput,mget,keyEq]
 | (x,u) :: r=>by
  by_cases h:k=x
  ·subst h;simp[mput,mget,keyEq]
  ·have hb:keyEq (.int .i64) k x=false:=by show (k==x)=false;simpa using h
   simp only[mput,hb,cond_false,mget]
   exact mget_mput_self k v r
theorem mget_mput_other {k k':Int} (v:Int) (h:k'≠k):∀m:List (Int×Int),mget (kt:=.int .i64) k' (mput (kt:=.int .i64) k v m)=mget (kt:=.int .i64) k' m
 | []=>by
  have hb:keyEq (.int .i64) k' k=false:=by show (k'==k)=false;simpa using h
  simp[mput,mget,hb]
 | (x,u) :: r=>by
  by_cases hx:k=x
  ·subst hx
   have hb:keyEq (.int .i64) k' k=false:=by show (k'==k)=false;simpa using h
   have hb2:keyEq (.int .i64) k k=true:=by show (k==k)=true;simp
   simp only[mput,hb2,cond_true,mget,hb,cond_false]
  ·have hb:keyEq (.int .i64) k x=false:=by show (k==x)=false;simpa using hx
   simp only[mput,hb,cond_false,mget,mget_mput_other v h r]
theorem mget_mem_int {k v:Int} :∀ {m:List (Int×Int)},mget (kt:=.int .i64) k m=some v→(k,v)∈m
 | [],h=>by cases h
 | (x,u) :: r,h=>by
  by_cases hx:k=x
  ·subst hx
   have hb2:keyEq (.int .i64) k k=true:=by show (k==k)=true;simp
   simp only[mget,hb2,cond_true,Option.some.injEq] at h
   subst h
   simp
  ·have hb:keyEq (.int .i64) k x=false:=by show (k==x)=false;simpa using hx
   simp only[mget,hb,cond_false] at h
   exact List.mem_cons_of_mem _ (mget_mem_int h)
theorem mput_mem {k v:Int} {p:Int×Int} :∀ {m:List (Int×Int)},p∈mput (kt:=.int .i64) k v m→p=(k,v)∨p∈m
 | [],h=>by simp[mput] at h;exact .inl h
 | (x,u) :: r,h=>by
  by_cases hx:k=x
  ·subst hx
   have hb2:keyEq (.int .i64) k k=true:=by show (k==k)=true;simp
   simp only[mput,hb2,cond_true] at h
   rcases List.mem_cons.1 h with h | h
   ·exact .inl h
   ·exact .inr (List.mem_cons_of_mem _ h)
  ·have hb:keyEq (.int .i64) k x=false:=by show (k==x)=false;simpa using hx
   simp only[mput,hb,cond_false] at h
   rcases List.mem_cons.1 h with h | h
   ·exact .inr (by rw[h];simp)
   ·exact (mput_mem h).imp id (List.mem_cons_of_mem _)
theorem mput_keys_int {k v:Int} :∀ {m:List (Int×Int)},(mput (kt:=.int .i64) k v m).map Prod.fst=if k∈m.map Prod.fst then m.map Prod.fst else m.map Prod.fst++[k]
 | []=>by simp[mput]
 | (x,u) :: r=>by
  by_cases hx:k=x
  ·subst hx
   have hb2:keyEq (.int .i64) k k=true:=by show (k==k)=true;simp
   simp only[mput,hb2,cond_true]
   simp
  ·have hb:keyEq (.int .i64) k x=false:=by show (k==x)=false;simpa using hx
   simp only[mput,hb,cond_false,List.map_cons,List.mem_cons,hx,false_or]
   rw[@mput_keys_int k v r]
   by_cases h:k∈r.map Prod.fst
   ·rw[if_pos h,if_pos h]
   ·rw[if_neg h,if_neg h];rfl
theorem mput_nodup_int {k v:Int} {m:List (Int×Int)} (h:(m.map Prod.fst).Nodup):((mput (kt:=.int .i64) k v m).map Prod.fst).Nodup:=by
 rw[mput_keys_int]
 split
 ·exact h
 ·rename_i hk
  rw[List.nodup_append]
  exact ⟨h,by simp,fun a ha b hb e=>by simp at hb;subst hb;subst e;exact hk ha⟩
theorem strict_len:∀ {l:List Int} {a b:Int},l.Pairwise (· < ·)→(∀x∈l,a≤x∧x < b)→a≤b→(l.length:Int)≤b - a
 | [],a,b,_,_,h=>by simp;omega
 | y :: l,a,b,hp,hb,h=>by
  rw[List.pairwise_cons] at hp
  have hy:=hb y (by simp)
  have:=strict_len (l:=l) (a:=y+1) (b:=b) hp.2 (fun x hx=>⟨hp.1 x hx,(hb x (List.mem_cons_of_mem _ hx)).2⟩) (by omega)
  simp
  omega
structure SetOK (s:Int×List (Int×Int)) (n:Nat) (M:Nat→Bool):Prop where
 size:s.1=n
 nodup:(s.2.map Prod.fst).Nodup
 words:∀p∈s.2,∃k w:Nat,p=((k:Int),(w:Int))∧k*64 < n∧w < 2 ^ 64
 bits:∀k j:Nat,j < 64→(wordAt s.2 (k:Int)).toNat.testBit j=M (k*64+j)
 lt:∀i,M i=true→i < n
theorem SetOK.new (n:Nat):SetOK ((n:Int),[]) n fun _=>false:=⟨rfl,List.nodup_nil,fun p hp=>by simp at hp,fun k j _=>by simp[wordAt,mget],fun i h=>by cases h⟩
variable {s:Int×List (Int×Int)} {n:Nat} {M:Nat→Bool}
theorem SetOK.word (h:SetOK s n M) (k:Nat):∃w:Nat,wordAt s.2 (k:Int)=(w:Int)∧w < 2 ^ 64:=by
 unfold wordAt
 cases hg:mget (kt:=.int .i64) (k:Int) s.2 with
 | none=>exact ⟨0,rfl,by decide⟩
 | some v=>
  obtain ⟨k',w,e,_,hw⟩:=h.words _ (mget_mem_int hg)
  simp only[Prod.mk.injEq] at e
  exact ⟨w,e.2,hw⟩
theorem placeOf_nat {i:Nat} (hi:i < 4611686018427387904):placeOf (i:Int)=((i / 64:Nat):Int):=by
 unfold placeOf
 rw[show Int.tdiv (i:Int) 64=((i / 64:Nat):Int) from rfl,wrap_i64 (by omega) (by omega)]
theorem SetOK.has (h:SetOK s n M) (hn:n < 4611686018427387904) (i:Int):hasS s i=(decide (0≤i)&&M i.toNat):=by
 unfold hasS
 rw[h.size]
 by_cases h0:0≤i
 ·obtain ⟨j,rfl⟩:=Int.eq_ofNat_of_zero_le h0
  by_cases h1:j < n
  ·rw[decide_eq_true (show (j:Int)≥0 from h0),decide_eq_true (show (j:Int) < (n:Int) by omega),Bool.true_and,Bool.true_and,Bool.true_and,placeOf_nat (by omega)]
   obtain ⟨w,hw,hlt⟩:=h.word (j / 64)
   have hb:=h.bits (j / 64) (j % 64) (Nat.mod_lt _ (by decide))
   rw[hw,show Int.tmod (j:Int) 64=((j % 64:Nat):Int) from rfl,bitE_eq hlt (Nat.mod_lt _ (by decide))]
   rw[hw,Int.toNat_natCast] at hb
   rw[hb,Int.toNat_natCast,Nat.div_add_mod' j 64]
  ·rw[decide_eq_false (show ¬(j:Int) < (n:Int) by omega),Bool.false_and,Bool.and_false]
   have:M (j:Int).toNat=false:=by
    rw[Int.toNat_natCast]
    cases hm:M j with
    | true=>exact absurd (h.lt j hm) h1
    | false=>rfl
   rw[this,Bool.and_false]
 ·rw[decide_eq_false (show ¬i≥0 from h0),Bool.false_and,Bool.false_and]
theorem SetOK.put (h:SetOK s n M) (hn:n < 4611686018427387904) {i:Nat} (hi:i < n) (hM:M i=false):
  (putS s i).1=true∧SetOK (putS s i).2 n fun j=>M j || (j==i):=by
 have hno:¬((i:Int) < 0∨s.1≤(i:Int)∨hasS s (i:Int)=true):=by
  rw[h.has hn,h.size,Int.toNat_natCast,hM]
  simp
  omega
 unfold putS
 rw[if_neg hno,placeOf_nat (by omega),show Int.tmod (i:Int) 64=((i % 64:Nat):Int) from rfl]
 refine ⟨rfl,?_⟩
 obtain ⟨w,hw,hlt⟩:=h.word (i / 64)
 have hj:i % 64 < 64:=Nat.mod_lt _ (by decide)
 have hp:2 ^ (i % 64) < 2 ^ 64:=Nat.pow_lt_pow_right (by decide) hj
 rw[hw,withBit_eq hlt hj]
 have hw2:w ||| 2 ^ (i % 64) < 2 ^ 64:=Nat.or_lt_two_pow hlt hp
 refine ⟨h.size,mput_nodup_int h.nodup,fun p hp=>?_,fun k j hj2=>?_,fun k hk=>?_⟩
 ·rcases mput_mem hp with rfl | hp
  ·exact ⟨i / 64,_,rfl,by omega,hw2⟩
  ·exact h.words p hp
 ·unfold wordAt
  by_cases hk:k=i / 64
  ·subst hk
   simp only
   rw[mget_mput_self,Option.getD_some,Int.toNat_natCast,Nat.testBit_or,Nat.testBit_two_pow]
   have hb:=h.bits (i / 64) j hj2
   rw[hw,Int.toNat_natCast] at hb
   rw[hb]
   congr 1
   rw[Bool.eq_iff_iff]
   simp
   omega
  ·simp only
   rw[mget_mput_other _ (by omega)]
   have hb:=h.bits k j hj2
   unfold wordAt at hb
   rw[hb]
   have:(k*64+j==i)=false:=by simp;omega
   rw[this,Bool.or_false]
 ·simp only[Bool.or_eq_true,beq_iff_eq] at hk
  rcases hk with hk | hk
  ·exact h.lt k hk
  ·omega
theorem SetOK.put_no (h:SetOK s n M) (hn:n < 4611686018427387904) {i:Int} (hi:¬(0≤i∧i < n∧M i.toNat=false)):putS s i=(false,s):=by
 unfold putS
 rw[if_pos]
 rw[h.has hn,h.size]
 by_cases h0:i < 0
 ·exact .inl h0
 ·by_cases h1:(n:Int)≤i
  ·exact .inr (.inl h1)
  ·refine .inr (.inr ?_)
   have:¬M i.toNat=false:=fun hf=>hi ⟨by omega,by omega,hf⟩
   rw[Bool.not_eq_false] at this
   rw[this,decide_eq_true (by omega)];rfl
theorem strict_ext:∀ {l m:List Int},l.Pairwise (· < ·)→m.Pairwise (· < ·)→(∀x,x∈l↔x∈m)→l=m
 | [],[],_,_,_=>rfl
 | [],b :: m,_,_,h=>by have:=(h b).2 (by simp);simp at this
 | a :: l,[],_,_,h=>by have:=(h a).1 (by simp);simp at this
 | a :: l,b :: m,hl,hm,h=>by
  rw[List.pairwise_cons] at hl hm
  have hab:a=b:=by
   have h1:=(h a).1 (by simp)
   have h2:=(h b).2 (by simp)
   rcases List.mem_cons.1 h1 with h1 | h1
   ·exact h1
   ·rcases List.mem_cons.1 h2 with h2 | h2
    ·exact h2.symm
    ·have:=hm.1 a h1;have:=hl.1 b h2;omega
  subst hab
  rw[strict_ext hl.2 hm.2 fun x=>⟨fun hx=>?_,fun hx=>?_⟩]
  ·have:=hl.1 x hx
   rcases List.mem_cons.1 ((h x).1 (List.mem_cons_of_mem _ hx)) with e | e
   ·omega
   ·exact e
  ·have:=hm.1 x hx
   rcases List.mem_cons.1 ((h x).2 (List.mem_cons_of_mem _ hx)) with e | e
   ·omega
   ·exact e
def listOf (n:Nat) (M:Nat→Bool):List Int:=((List.range n).filter M).map Int.ofNat
theorem listOf_mem {x:Int} :x∈listOf n M↔∃i:Nat,i < n∧M i=true∧x=(i:Int):=by
 unfold listOf
 simp only[List.mem_map,List.mem_filter,List.mem_range]
 constructor
 ·rintro ⟨i,⟨h1,h2⟩,rfl⟩;exact ⟨i,h1,h2,rfl⟩
 ·rintro ⟨i,h1,h2,rfl⟩;exact ⟨i,⟨h1,h2⟩,rfl⟩
theorem listOf_strict:(listOf n M).Pairwise (· < ·):=by
 unfold listOf
 rw[List.pairwise_map]
 refine (List.Pairwise.filter M List.pairwise_lt_range).imp fun {a b} h=>?_
 show (a:Int) < (b:Int)
 omega
theorem listOf_congr {M':Nat→Bool} (h:∀i,i < n→M i=M' i):listOf n M=listOf n M':=by
 unfold listOf
 congr 1
 exact List.filter_congr fun i hi=>h i (List.mem_range.1 hi)
theorem SetOK.list (h:SetOK s n M) (hn:n < 4611686018427387904):listS s=listOf n M:=by
 have hkey:∀k∈s.2.map Prod.fst,∃k':Nat,k=(k':Int)∧k'*64 < n:=fun k hk=>by
  obtain ⟨p,hp,rfl⟩:=List.mem_map.1 hk
  obtain ⟨k',w,e,h1,_⟩:=h.words p hp
  exact ⟨k',by rw[e],h1⟩
 have hwl:∀k:Nat,k*64 < n→∀x,x∈wordList s.2 (k:Int) 0 64↔∃j:Nat,j < 64∧M (k*64+j)=true∧x=((k*64+j:Nat):Int):=fun k hk x=>by
  obtain ⟨w,hw,hlt⟩:=h.word k
  unfold wordList
  rw[hw]
  simp only[List.mem_map,List.mem_filter,List.mem_range'_1]
  have hnum:∀j:Nat,j < 64→numE (k:Int) (j:Int)=((k*64+j:Nat):Int):=fun j hj=>by
   unfold numE
   rw[wrap_i64 (n:=(k:Int)*64) (by omega) (by omega),wrap_i64 (by omega) (by omega)]
   omega
  have hbit:∀j:Nat,j < 64→bitE (w:Int) (j:Int)=M (k*64+j):=fun j hj=>by
   rw[bitE_eq hlt hj]
   have:=h.bits k j hj
   rwa[hw,Int.toNat_natCast] at this
  constructor
  ·rintro ⟨j,⟨hj,hb⟩,rfl⟩
   exact ⟨j,by omega,by rw[←hbit j (by omega)];exact hb,hnum j (by omega)⟩
  ·rintro ⟨j,hj,hb,rfl⟩
   exact ⟨j,⟨by omega,by rw[hbit j hj];exact hb⟩,hnum j hj⟩
 have hmem:∀ {k:Int},k∈(s.2.map Prod.fst).mergeSort (fun x y=>decide (x≤y))↔k∈s.2.map Prod.fst:=List.mem_mergeSort
 have tr:∀a b c:Int,decide (a≤b)=true→decide (b≤c)=true→decide (a≤c)=true:=fun a b c h1 h2=>by simp at*;omega
 have to:∀a b:Int,(decide (a≤b) || decide (b≤a))=true:=fun a b=>by simp;omega
 have hs1:=List.pairwise_mergeSort tr to (s.2.map Prod.fst)
 have hs2:((s.2.map Prod.fst).mergeSort (fun x y=>decide (x≤y))).Nodup:=(List.mergeSort_perm _ _).nodup_iff.2 h.nodup
 have hst:((s.2.map Prod.fst).mergeSort (fun x y=>decide (x≤y))).Pairwise (· < ·):=(hs1.and hs2).imp fun {a b} h=>by
  have h1:=h.1;have h2:=h.2;simp at h1;omega
 refine strict_ext ?_ listOf_strict fun x=>?_
 ·unfold listS listAt
  rw[List.pairwise_flatMap]
  refine ⟨fun k hk=>?_,?_⟩
  ·obtain ⟨k',rfl,hk'⟩:=hkey k (hmem.1 hk)
   unfold wordList
   rw[List.pairwise_map]
   have hp:((List.range' 0 64).filter fun i=>bitE (wordAt s.2 (k':Int)) (i:Nat)).Pairwise (· < ·):=List.Pairwise.filter _ (List.pairwise_lt_range' (step:=1) (s:=0) (n:=64) (by omega))
   refine (List.Pairwise.and_mem.1 hp).imp fun {a b} h=>?_
   obtain ⟨ha,hb,hab⟩:=h
   have ha':=(List.mem_range'_1.1 (List.mem_filter.1 ha).1)
   have hb':=(List.mem_range'_1.1 (List.mem_filter.1 hb).1)
   unfold numE
   rw[wrap_i64 (n:=(k':Int)*64) (by omega) (by omega),wrap_i64 (by omega) (by omega),wrap_i64 (by omega) (by omega)]
   omega
  ·refine (List.Pairwise.and_mem.1 hst).imp fun {a b} hab=>?_
   obtain ⟨ha,hb,hlt⟩:=hab
   obtain ⟨a',rfl,ha'⟩:=hkey a (hmem.1 ha)
   obtain ⟨b',rfl,hb'⟩:=hkey b (hmem.1 hb)
   intro x hx y hy
   obtain ⟨j,hj,_,rfl⟩:=(hwl a' ha' x).1 hx
   obtain ⟨j',hj',_,rfl⟩:=(hwl b' hb' y).1 hy
   omega
 ·unfold listS listAt
  rw[listOf_mem,List.mem_flatMap]
  constructor
  ·rintro ⟨k,hk,hx⟩
   obtain ⟨k',rfl,hk'⟩:=hkey k (hmem.1 hk)
   obtain ⟨j,hj,hM,rfl⟩:=(hwl k' hk' x).1 hx
   exact ⟨_,h.lt _ hM,hM,rfl⟩
  ·rintro ⟨i,hi,hM,rfl⟩
   have hb:=h.bits (i / 64) (i % 64) (Nat.mod_lt _ (by decide))
   rw[Nat.div_add_mod' i 64,hM] at hb
   refine ⟨((i / 64:Nat):Int),hmem.2 ?_,(hwl (i / 64) (by omega) _).2 ⟨i % 64,Nat.mod_lt _ (by decide),by rw[Nat.div_add_mod' i 64];exact hM,by rw[Nat.div_add_mod' i 64]⟩⟩
   unfold wordAt at hb
   cases hg:mget (kt:=.int .i64) ((i / 64:Nat):Int) s.2 with
   | none=>rw[hg] at hb;simp at hb
   | some v=>exact List.mem_map.2 ⟨_,mget_mem_int hg,rfl⟩
theorem SetOK.few (h:SetOK s n M):s.2.length≤(n+63) / 64:=by
 have tr:∀a b c:Int,decide (a≤b)=true→decide (b≤c)=true→decide (a≤c)=true:=fun a b c h1 h2=>by simp at*;omega
 have to:∀a b:Int,(decide (a≤b) || decide (b≤a))=true:=fun a b=>by simp;omega
 have hs1:=List.pairwise_mergeSort tr to (s.2.map Prod.fst)
 have hs2:((s.2.map Prod.fst).mergeSort (fun x y=>decide (x≤y))).Nodup:=(List.mergeSort_perm _ _).nodup_iff.2 h.nodup
 have hst:((s.2.map Prod.fst).mergeSort (fun x y=>decide (x≤y))).Pairwise (· < ·):=(hs1.and hs2).imp fun {a b} h=>by
  have h1:=h.1;have h2:=h.2;simp at h1;omega
 have:=strict_len (a:=0) (b:=(((n+63) / 64:Nat):Int)) hst (fun x hx=>by
  obtain ⟨p,hp,rfl⟩:=List.mem_map.1 (List.mem_mergeSort.1 hx)
  obtain ⟨k',w,e,h1,_⟩:=h.words p hp
  rw[e]
  exact ⟨by simp,by simp;omega⟩) (by omega)
 simp at this
 omega
end Go.Ev
end

section
open Go
namespace Go.Ev
def flowOK (t:List (El T_api_Ins)):Bool:=decide (t.length < 1099511627776)&&t.all fun i=>smallText i.2.2.2.2.2.1&&decide (i.2.2.2.2.2.2.length < 1099511627776)
theorem flowOK_len {t:List (El T_api_Ins)} (h:flowOK t=true):t.length < 1099511627776:=by
 unfold flowOK at h;rw[Bool.and_eq_true] at h;exact of_decide_eq_true h.1
theorem flowOK_text {t:List (El T_api_Ins)} (h:flowOK t=true) {i:El T_api_Ins} (hi:i∈t):smallText i.2.2.2.2.2.1=true:=by
 unfold flowOK at h
 rw[Bool.and_eq_true] at h
 have:=List.all_eq_true.1 h.2 i hi
 rw[Bool.and_eq_true] at this
 exact this.1
theorem flowOK_find {t:List (El T_api_Ins)} (h:flowOK t=true):(decide (t.length < 1099511627776)&&t.all fun i=>decide (i.2.2.2.2.2.2.length < 1099511627776))=true:=by
 unfold flowOK at h
 rw[Bool.and_eq_true] at h ⊢
 refine ⟨h.1,List.all_eq_true.2 fun i hi=>?_⟩
 have:=List.all_eq_true.1 h.2 i hi
 rw[Bool.and_eq_true] at this
 exact this.2
theorem findI_lt {label:ByteArray} :∀ {t:List (El T_api_Ins)} {k:Nat},findI label t k < ((k+t.length:Nat):Int)∨findI label t k= -1
 | [],k=>.inr rfl
 | x :: r,k=>by
  unfold findI
  split
  ·left;simp;omega
  ·rcases @findI_lt label r (k+1) with h | h
   ·left;simp only[List.length_cons];omega
   ·exact .inr h
theorem findI_ge {label:ByteArray} :∀ {t:List (El T_api_Ins)} {k:Nat},findI label t k= -1∨(k:Int)≤findI label t k
 | [],k=>.inl rfl
 | x :: r,k=>by
  unfold findI
  split
  ·right;omega
  ·rcases @findI_ge label r (k+1) with h | h
   ·exact .inl h
   ·right;omega
def onOf (t:List (El T_api_Ins)) (i:Nat):Bool:=(v_ins_Leads (t.getD i (dflt T_api_Ins))).1
def toOf (t:List (El T_api_Ins)) (i:Nat):Int:=if (v_ins_Leads (t.getD i (dflt T_api_Ins))).2 then findI (t.getD i (dflt T_api_Ins)).2.2.2.2.2.1 t 0 else -1
theorem toOf_lt {t:List (El T_api_Ins)} {i:Nat} : -1≤toOf t i∧(toOf t i < (t.length:Int)):=by
 unfold toOf
 split
 ·have h1:= @findI_lt (t.getD i (dflt T_api_Ins)).2.2.2.2.2.1 t 0
  have h2:= @findI_ge (t.getD i (dflt T_api_Ins)).2.2.2.2.2.1 t 0
  rw[Nat.zero_add] at h1
  omega
 ·omega
def nextB (t:List (El T_api_Ins)) (i:Int) (j:Nat):Bool:=
 decide (0≤i∧i < (t.length:Int)∧j < t.length)&&((onOf t i.toNat&&decide ((j:Int)=i+1)) || decide (toOf t i.toNat=(j:Int)))
theorem nextB_lt {t:List (El T_api_Ins)} {i:Int} {j:Nat} (h:nextB t i j=true):j < t.length:=by
 unfold nextB at h
 rw[Bool.and_eq_true] at h
 exact (of_decide_eq_true h.1).2.2
def nextL (n:Nat) (on:Bool) (to i:Int):List Int:=
 (if 0≤to∧to≤i then [to] else [])++((if on=true∧i+1 < (n:Int) then [i+1] else [])++(if to > i∧¬(on=true∧i+1 < (n:Int)∧to=i+1) then [to] else []))
theorem nextL_strict {n:Nat} {on:Bool} {to i:Int} :(nextL n on to i).Pairwise (· < ·):=by
 unfold nextL
 by_cases h1:0≤to∧to≤i
 ·rw[if_pos h1,if_neg (c:=to > i∧_) (fun h=>by omega)]
  by_cases h2:on=true∧i+1 < (n:Int)
  ·rw[if_pos h2];simp;omega
  ·rw[if_neg h2];simp
 ·rw[if_neg h1]
  by_cases h2:on=true∧i+1 < (n:Int)
  ·rw[if_pos h2]
   by_cases h3:to > i∧¬(on=true∧i+1 < (n:Int)∧to=i+1)
   ·rw[if_pos h3]
    have:to≠i+1:=fun e=>h3.2 ⟨h2.1,h2.2,e⟩
    simp;omega
   ·rw[if_neg h3];simp
  ·rw[if_neg h2]
   by_cases h3:to > i∧¬(on=true∧i+1 < (n:Int)∧to=i+1)
   ·rw[if_pos h3];simp
   ·rw[if_neg h3];simp
theorem nextL_eq {t:List (El T_api_Ins)} {i:Nat} (hi:i < t.length):nextL t.length (onOf t i) (toOf t i) (i:Int)=listOf t.length (nextB t (i:Int)):=by
 refine strict_ext nextL_strict listOf_strict fun x=>?_
 rw[listOf_mem]
 have hb:∀j:Nat,nextB t (i:Int) j=true↔j < t.length∧((onOf t i=true∧(j:Int)=(i:Int)+1)∨toOf t i=(j:Int)):=fun j=>by
  unfold nextB
  rw[Int.toNat_natCast]
  simp only[Bool.and_eq_true,Bool.or_eq_true,decide_eq_true_eq]
  constructor
  ·rintro ⟨⟨_,_,h⟩,h2⟩;exact ⟨h,h2⟩
  ·rintro ⟨h,h2⟩;exact ⟨⟨by omega,by omega,h⟩,h2⟩
 have ht:= @toOf_lt t i
 unfold nextL
 constructor
 ·intro h
  simp only[List.mem_append] at h
  rcases h with h | h | h
  ·split at h
   ·rename_i hc
    simp at h
    subst h
    exact ⟨(toOf t i).toNat,by omega,(hb _).2 ⟨by omega,.inr (by omega)⟩,by omega⟩
   ·simp at h
  ·split at h
   ·rename_i hc
    simp at h
    subst h
    exact ⟨i+1,by omega,(hb _).2 ⟨by omega,.inl ⟨hc.1,by omega⟩⟩,by omega⟩
   ·simp at h
  ·split at h
   ·rename_i hc
    simp at h
    subst h
    exact ⟨(toOf t i).toNat,by omega,(hb _).2 ⟨by omega,.inr (by omega)⟩,by omega⟩
   ·simp at h
 ·rintro ⟨j,hj,hM,rfl⟩
  obtain ⟨_,h⟩:=(hb j).1 hM
  simp only[List.mem_append]
  rcases h with ⟨h1,h2⟩ | h
  ·right;left
   rw[if_pos ⟨h1,by omega⟩];simp;omega
  ·by_cases hle:toOf t i≤(i:Int)
   ·left;rw[if_pos ⟨by omega,hle⟩];simp;omega
   ·right
    by_cases hc:onOf t i=true∧(i:Int)+1 < (t.length:Int)∧toOf t i=(i:Int)+1
    ·left;rw[if_pos ⟨hc.1,hc.2.1⟩];simp;omega
    ·right;rw[if_pos ⟨by omega,hc⟩];simp;omega
end Go.Ev
end

section
open Go
namespace Go.Ev
inductive Come (N:Nat→Nat→Bool) (A:Nat→Bool):Nat→Prop
 | start {j:Nat} :A j=true→Come N A j
 | step {k j:Nat} :Come N A k→N k j=true→Come N A j
noncomputable def comeB (N:Nat→Nat→Bool) (A:Nat→Bool) (j:Nat):Bool:= @decide (Come N A j) (Classical.propDecidable _)
theorem comeB_iff {N:Nat→Nat→Bool} {A:Nat→Bool} {j:Nat} :comeB N A j=true↔Come N A j:= @decide_eq_true_iff _ (Classical.propDecidable _)
theorem comeB_eq {N:Nat→Nat→Bool} {A M:Nat→Bool} (h1:∀j,A j=true→M j=true) (h2:∀k j,M k=true→N k j=true→M j=true) (h3:∀j,M j=true→Come N A j) (j:Nat):M j=comeB N A j:=by
 rw[Bool.eq_iff_iff,comeB_iff]
 refine ⟨h3 j,fun h=>?_⟩
 induction h with
 | start h=>exact h1 _ h
 | step _ h ih=>exact h2 _ _ ih h
theorem come_lt {N:Nat→Nat→Bool} {A:Nat→Bool} {n:Nat} (hA:∀j,A j=true→j < n) (hN:∀k j,N k j=true→j < n) {j:Nat} (h:Come N A j):j < n:=by
 cases h with
 | start h=>exact hA _ h
 | step _ h=>exact hN _ _ h
def card (n:Nat) (M:Nat→Bool):Nat:=(List.range n).countP M
theorem card_le {n:Nat} {M:Nat→Bool} :card n M≤n:=by
 have:=List.countP_le_length (p:=M) (l:=List.range n)
 simpa[card] using this
theorem card_add {M:Nat→Bool} {i:Nat} (hM:M i=false):∀ {n:Nat},i < n→card n (fun j=>M j || (j==i))=card n M+1:=by
 intro n
 induction n with
 | zero=>intro h;omega
 | succ n ih=>
  intro h
  unfold card at*
  rw[List.range_succ,List.countP_append,List.countP_append]
  by_cases hi:i=n
  ·subst hi
   have e:(List.range i).countP (fun j=>M j || (j==i))=(List.range i).countP M:=List.countP_congr fun j hj=>by
    have:=List.mem_range.1 hj
    have:(j==i)=false:=by simp;omega
    rw[this,Bool.or_false]
   rw[e]
   simp[hM]
  ·rw[ih (by omega)]
   have:(n==i)=false:=by simp;omega
   simp[this]
   omega
theorem listOf_length {n:Nat} {M:Nat→Bool} :(listOf n M).length=card n M:=by
 unfold listOf card
 rw[List.length_map,List.countP_eq_length_filter]
end Go.Ev
end

section
open Go
namespace Go.Ev
noncomputable def fromB (t:List (El T_api_Ins)) (i:Int) (j:Nat):Bool:=comeB (fun k j=>nextB t (k:Int) j) (nextB t i) j
theorem fromB_lt {t:List (El T_api_Ins)} {i:Int} {j:Nat} (h:fromB t i j=true):j < t.length:=come_lt (fun j=>nextB_lt) (fun k j=>nextB_lt) (comeB_iff.1 h)
end Go.Ev
end

section
open Go
namespace Go.Ev
def roundL (N:Nat→Nat→Bool) (n:Nat) (r:List Bool):List Bool:=(List.range n).map fun j=>r.getD j false || (List.range n).any fun k=>r.getD k false&&N k j
def iterL (N:Nat→Nat→Bool) (n:Nat):Nat→List Bool→List Bool
 | 0,r=>r
 | m+1,r=>iterL N n m (roundL N n r)
def comeL (N:Nat→Nat→Bool) (A:Nat→Bool) (n:Nat):List Bool:=iterL N n n ((List.range n).map A)
theorem row_getD {n:Nat} {M:Nat→Bool} {j:Nat} :((List.range n).map M).getD j false=(decide (j < n)&&M j):=by
 rw[List.getD_eq_getElem?_getD,List.getElem?_map]
 by_cases h:j < n
 ·rw[List.getElem?_range h,decide_eq_true h];rfl
 ·rw[List.getElem?_eq_none (by simpa using h),decide_eq_false h];rfl
theorem roundL_getD {N:Nat→Nat→Bool} {n:Nat} {r:List Bool} {j:Nat} :(roundL N n r).getD j false=true↔j < n∧(r.getD j false=true∨∃k,k < n∧r.getD k false=true∧N k j=true):=by
 unfold roundL
 rw[row_getD]
 simp only[Bool.and_eq_true,decide_eq_true_eq,Bool.or_eq_true,List.any_eq_true,List.mem_range]
theorem iter_sound {N:Nat→Nat→Bool} {A:Nat→Bool} {n:Nat} :∀(m:Nat) (r:List Bool),(∀j,r.getD j false=true→Come N A j)→∀j,(iterL N n m r).getD j false=true→Come N A j
 | 0,r,h,j,hj=>h j hj
 | m+1,r,h,j,hj=>iter_sound m _ (fun j hj=>by
   obtain ⟨_,h1 | ⟨k,_,hk,hN⟩⟩:=roundL_getD.1 hj
   ·exact h j h1
   ·exact .step (h k hk) hN) j hj
def cnt (n:Nat) (r:List Bool):Nat:=card n fun j=>r.getD j false
theorem card_mono {n:Nat} {M M':Nat→Bool} (h:∀j,M j=true→M' j=true):card n M≤card n M':=List.countP_mono_left fun j _ hj=>h j hj
theorem card_lt {n:Nat} {M M':Nat→Bool} (h:∀j,M j=true→M' j=true) {i:Nat} (hi:i < n) (h1:M i=false) (h2:M' i=true):card n M+1≤card n M':=by
 rw[←card_add h1 hi]
 refine card_mono fun j hj=>?_
 rw[Bool.or_eq_true] at hj
 rcases hj with hj | hj
 ·exact h j hj
 ·rw[beq_iff_eq] at hj;subst hj;exact h2
theorem card_full {n:Nat} {M:Nat→Bool} (h:n≤card n M):∀j,j < n→M j=true:=by
 intro j hj
 cases hM:M j with
 | true=>rfl
 | false=>
  have h1:=card_add hM hj
  have:= @card_le n (fun k=>M k || (k==j))
  omega
def closedL (N:Nat→Nat→Bool) (n:Nat) (r:List Bool):Prop:=∀k j,k < n→j < n→r.getD k false=true→N k j=true→r.getD j false=true
theorem iter_closed {N:Nat→Nat→Bool} {n:Nat} :∀(m:Nat) (r:List Bool),closedL N n r∨n≤cnt n r+m→(closedL N n (iterL N n m r))∧∀j,j < n→r.getD j false=true→(iterL N n m r).getD j false=true
 | 0,r,h=>by
  refine ⟨?_,fun j _ h=>h⟩
  rcases h with h | h
  ·exact h
  ·exact fun k j _ hj _ _=>card_full (M:=fun j=>r.getD j false) (by simpa[cnt] using h) j hj
 | m+1,r,h=>by
  have keep:∀j,j < n→r.getD j false=true→(roundL N n r).getD j false=true:=fun j hj h=>roundL_getD.2 ⟨hj,.inl h⟩
  have hrec:=iter_closed m (roundL N n r) (by
   rcases h with h | h
   ·left
    intro k j hk hj h1 h2
    refine keep j hj ?_
    obtain ⟨_,h3 | ⟨q,hq,h3,h4⟩⟩:=roundL_getD.1 h1
    ·exact h k j hk hj h3 h2
    ·exact h k j hk hj (h q k hq hk h3 h4) h2
   ·by_cases hc:closedL N n (roundL N n r)
    ·exact .inl hc
    ·right
     have hnc:¬closedL N n r:=fun hc'=>hc (by
      intro k j hk hj h1 h2
      refine keep j hj ?_
      obtain ⟨_,h3 | ⟨q,hq,h3,h4⟩⟩:=roundL_getD.1 h1
      ·exact hc' k j hk hj h3 h2
      ·exact hc' k j hk hj (hc' q k hq hk h3 h4) h2)
     have ⟨k,j,hk,hj,h1,h2,h3⟩:∃k j,k < n∧j < n∧r.getD k false=true∧N k j=true∧r.getD j false=false:=by
      refine Classical.byContradiction fun hn=>hnc fun k j hk hj h1 h2=>?_
      cases hb:r.getD j false with
      | true=>rfl
      | false=>exact absurd ⟨k,j,hk,hj,h1,h2,hb⟩ hn
     have hlt:card n (fun j=>decide (j < n)&&r.getD j false)+1≤cnt n (roundL N n r):=card_lt (M':=fun j=>(roundL N n r).getD j false) (fun j hj'=>by
      rw[Bool.and_eq_true,decide_eq_true_eq] at hj'
      exact keep j hj'.1 hj'.2) hj (by rw[h3,Bool.and_false]) (roundL_getD.2 ⟨hj,.inr ⟨k,hk,h1,h2⟩⟩)
     have he:card n (fun j=>decide (j < n)&&r.getD j false)=cnt n r:=List.countP_congr fun j hj=>by
      have:=List.mem_range.1 hj
      simp[this]
     omega)
  exact ⟨hrec.1,fun j hj h1=>hrec.2 j hj (keep j hj h1)⟩
theorem comeL_eq {N:Nat→Nat→Bool} {A:Nat→Bool} {n:Nat} (hA:∀j,A j=true→j < n) (hN:∀k j,N k j=true→j < n) (j:Nat):comeB N A j=(comeL N A n).getD j false:=by
 obtain ⟨hc,hk⟩:=iter_closed (N:=N) (n:=n) n ((List.range n).map A) (.inr (Nat.le_add_left _ _))
 have hlt:∀m r j,r.length≤n→(iterL N n m r).getD j false=true→j < n:=by
  intro m
  induction m with
  | zero=>
   intro r j hr h
   have h:r.getD j false=true:=h
   rw[List.getD_eq_getElem?_getD] at h
   by_cases hj:j < r.length
   ·omega
   ·rw[List.getElem?_eq_none (by omega)] at h;cases h
  | succ m ih=>intro r j _ h;exact ih _ j (by simp[roundL]) h
 symm
 refine comeB_eq (M:=fun j=>(comeL N A n).getD j false) (fun j hj=>hk j (hA j hj) ?_) (fun k j h1 h2=>?_) (fun j hj=>?_) j
 ·rw[row_getD,decide_eq_true (hA j hj),hj];rfl
 ·exact hc k j (hlt n _ k (by simp) h1) (hN k j h2) h1 h2
 ·exact iter_sound n _ (fun j hj=>by
   rw[row_getD,Bool.and_eq_true] at hj
   exact .start hj.2) j hj
end Go.Ev
end

section
open Go Go.Ev
namespace Go.Ev
noncomputable section
def sg_clash_clash:Sig:=[(true,T_api_Access),(true,T_api_Access)]
noncomputable def t_clash_clash:Tbl:=[]
theorem tk_clash_clash:∀p∈t_clash_clash,EntOK Go.Proofs.Tryz.prog p.1 p.2:=tbl_nil
noncomputable def c_clash_clash:Code:=Go.Proofs.Tryz.f88.body.getD .skip
def tb_clash_clash:Tb:=[]
def T_clash_clash (a:El T_api_Access) (b:El T_api_Access):Empty→JT Empty (Bool):=fun j=>nomatch j
def T0_clash_clash (a:El T_api_Access) (b:El T_api_Access):JT Empty (Bool):=.br (a.1 !=b.1) (.br (a.2.2.2.1==b.2.2.2.1) (.br a.2.2.2.2.1 (.leaf true) (.leaf b.2.2.2.2.1)) (.leaf false)) (.leaf false)
def v_clash_clash (a:El T_api_Access) (b:El T_api_Access):Bool:=bif (a.1 !=b.1) then bif (a.2.2.2.1==b.2.2.2.1) then bif a.2.2.2.2.1 then true else b.2.2.2.2.1 else false else false
theorem g_clash_clash (a:El T_api_Access) (b:El T_api_Access):Goes (T_clash_clash a b) (T0_clash_clash a b) (v_clash_clash a b):=Goes.br (Goes.br (Goes.br (Goes.leaf) (Goes.leaf)) (Goes.leaf)) (Goes.leaf)
def R_clash_clash:Bool→AV:=fun (r:Bool)=>.d .bool r
def S_clash_clash (a:El T_api_Access) (b:El T_api_Access):Empty→Nat×St:=fun j=>nomatch j
theorem en_clash_clash (a:El T_api_Access) (b:El T_api_Access) (L:Lt):entryA Go.Proofs.Tryz.prog (clOf t_clash_clash) tb_clash_clash Go.Proofs.Tryz.f88 c_clash_clash L (toForms sg_clash_clash (a,b,()))=(T0_clash_clash a b).run (fun v=>some (R_clash_clash v,tps (toForms sg_clash_clash (a,b,())))) fun j=>L (S_clash_clash a b j).1 (S_clash_clash a b j).2:=by kernel_rfl
theorem lp_clash_clash (a:El T_api_Access) (b:El T_api_Access):∀(L:Lt) (j:Empty),procOf (procsF Go.Proofs.Tryz.prog (clOf t_clash_clash) tb_clash_clash Go.Proofs.Tryz.f88 c_clash_clash (toForms sg_clash_clash (a,b,()))) (S_clash_clash a b j).1 L (S_clash_clash a b j).2=(T_clash_clash a b j).run (fun v=>some (R_clash_clash v,tps (toForms sg_clash_clash (a,b,())))) fun j=>L (S_clash_clash a b j).1 (S_clash_clash a b j).2:=fun L j=>nomatch j
noncomputable def e_clash_clash:Run:=entT sg_clash_clash R_clash_clash (fun a=>v_clash_clash a.1 a.2.1)
theorem ok_clash_clash:EntOK Go.Proofs.Tryz.prog 88 e_clash_clash:=entT_ok (tb:=tb_clash_clash) (c:=c_clash_clash) tk_clash_clash (by kernel_rfl) (by kernel_rfl) (by kernel_rfl) (fun a=>by kernel_rfl) fun ⟨a,b,_⟩=>evF_goes (c:=c_clash_clash) (K:=fun v=>(R_clash_clash v,tps (toForms sg_clash_clash (a,b,())))) (S:=S_clash_clash a b) (by kernel_rfl) (en_clash_clash a b) (lp_clash_clash a b) (g_clash_clash a b)
end
end Go.Ev
end

section
open Go
namespace Go.Ev
abbrev Acc:=El T_api_Access
def accA (l:List Acc) (i:Nat):Acc:=l.getD i (dflt T_api_Access)
def thA (l:List Acc) (i:Nat):Int:=(accA l i).1
def inA (l:List Acc) (i:Nat):Int:=(accA l i).2.1
def paA (l:List Acc) (i:Nat):Int:=(accA l i).2.2.1
def clB (l:List Acc) (i j:Nat):Bool:=v_clash_clash (accA l i) (accA l j)
def thrOf (p:El T_api_Prog) (l:List Acc) (c:Nat):List (El T_api_Ins):=p.2.getD (thA l c).toNat (dflt (.sl T_api_Ins))
noncomputable def behB (p:El T_api_Prog) (l:List Acc) (c d:Nat):Bool:=
 decide (d < l.length)&&(thA l d==thA l c&&(d==c || ((inA l d==inA l c&&decide (paA l d > paA l c)) || (decide (0≤inA l d)&&fromB (thrOf p l c) (inA l c) (inA l d).toNat))))
theorem behB_lt {p:El T_api_Prog} {l:List Acc} {c d:Nat} (h:behB p l c d=true):d < l.length∧thA l d=thA l c:=by
 unfold behB at h
 simp only[Bool.and_eq_true,decide_eq_true_eq,beq_iff_eq] at h
 exact ⟨h.1,h.2.1⟩
theorem behB_self {p:El T_api_Prog} {l:List Acc} {c:Nat} (h:c < l.length):behB p l c c=true:=by
 unfold behB
 simp[h]
theorem from_trans {t:List (El T_api_Ins)} {i:Int} {j k:Nat} (h1:fromB t i j=true) (h2:fromB t (j:Int) k=true):fromB t i k=true:=by
 unfold fromB at*
 rw[comeB_iff] at*
 induction h2 with
 | start h=>exact .step h1 h
 | step _ h ih=>exact .step ih h
theorem behB_trans {p:El T_api_Prog} {l:List Acc} {c d e:Nat} (h1:behB p l c d=true) (h2:behB p l d e=true):behB p l c e=true:=by
 unfold behB at*
 have ht:thrOf p l d=thrOf p l c:=by
  simp only[Bool.and_eq_true,beq_iff_eq] at h1
  unfold thrOf
  rw[h1.2.1]
 rw[ht] at h2
 simp only[Bool.and_eq_true,Bool.or_eq_true,decide_eq_true_eq,beq_iff_eq] at*
 obtain ⟨a1,a2,a3⟩:=h1
 obtain ⟨b1,b2,b3⟩:=h2
 refine ⟨b1,b2.trans a2,?_⟩
 rcases a3 with rfl | a3
 ·exact b3
 rcases b3 with rfl | b3
 ·exact .inr a3
 right
 rcases a3 with ⟨a3,a4⟩ | ⟨a3,a4⟩
 ·rcases b3 with ⟨b3,b4⟩ | ⟨b3,b4⟩
  ·exact .inl ⟨b3.trans a3,by omega⟩
  ·right
   rw[a3] at b4
   exact ⟨b3,b4⟩
 ·right
  rcases b3 with ⟨b3,b4⟩ | ⟨b3,b4⟩
  ·rw[b3]
   exact ⟨a3,a4⟩
  ·refine ⟨b3,from_trans a4 ?_⟩
   rw[Int.toNat_of_nonneg a3]
   exact b4
noncomputable def chB (p:El T_api_Prog) (l:List Acc) (a i k:Nat):Bool:=decide (k < l.length)&&(!(thA l k==thA l a)&&(clB l i k || behB p l i k))
def chS (l:List Acc) (a k:Nat):Bool:=decide (k < l.length)&&clB l a k
noncomputable def isB (p:El T_api_Prog) (l:List Acc) (a k:Nat):Bool:=comeB (chB p l a) (chS l a) k
noncomputable def backB (p:El T_api_Prog) (l:List Acc) (a b:Nat):Bool:=thA l b==thA l a&&(List.range l.length).any fun k=>isB p l a k&&clB l k b
theorem clB_th {l:List Acc} {i j:Nat} (h:clB l i j=true):thA l i≠thA l j:=by
 intro e
 unfold clB v_clash_clash at h
 have:((accA l i).1 !=(accA l j).1)=false:=by
  show ((thA l i) !=(thA l j))=false
  rw[e];simp
 rw[this] at h
 cases h
theorem is_lt {p:El T_api_Prog} {l:List Acc} {a k:Nat} (h:isB p l a k=true):k < l.length∧thA l k≠thA l a:=by
 have h:=comeB_iff.1 h
 cases h with
 | start h=>
  unfold chS at h
  simp only[Bool.and_eq_true,decide_eq_true_eq] at h
  exact ⟨h.1,fun e=>clB_th h.2 e.symm⟩
 | step _ h=>
  unfold chB at h
  simp only[Bool.and_eq_true,decide_eq_true_eq,Bool.not_eq_true',beq_eq_false_iff_ne] at h
  exact ⟨h.1,h.2.1⟩
theorem gone_is {p:El T_api_Prog} {l:List Acc} {a:Nat} {C G:Nat→Bool} (hC:∀c,C c=true↔c < l.length∧thA l c≠thA l a∧(clB l a c=true∨∃k,G k=true∧clB l k c=true)) (hG:∀d,G d=true↔∃c,C c=true∧behB p l c d=true)
  (hs:∀d,G d=true→isB p l a d=true) (d:Nat):G d=isB p l a d:=by
 refine comeB_eq (fun j hj=>?_) (fun k j hk hj=>?_) (fun j hj=>comeB_iff.1 (hs j hj)) d
 ·unfold chS at hj
  simp only[Bool.and_eq_true,decide_eq_true_eq] at hj
  exact (hG j).2 ⟨j,(hC j).2 ⟨hj.1,fun e=>clB_th hj.2 e.symm,.inl hj.2⟩,behB_self hj.1⟩
 ·unfold chB at hj
  simp only[Bool.and_eq_true,decide_eq_true_eq,Bool.not_eq_true',beq_eq_false_iff_ne,Bool.or_eq_true] at hj
  obtain ⟨h1,h2,h3⟩:=hj
  rcases h3 with h3 | h3
  ·exact (hG j).2 ⟨j,(hC j).2 ⟨h1,h2,.inr ⟨k,hk,h3⟩⟩,behB_self h1⟩
  ·obtain ⟨c,hc,hb⟩:=(hG k).1 hk
   exact (hG j).2 ⟨c,hc,behB_trans hb h3⟩
variable {s:Int×List (Int×Int)} {n:Nat} {M:Nat→Bool}
theorem SetOK.putO (h:SetOK s n M) (hn:n < 4611686018427387904) {j:Nat} (hj:j < n):(putS s (j:Int)).1=(!M j)∧SetOK (putS s (j:Int)).2 n (fun k=>M k || (k==j)):=by
 cases hb:M j with
 | false=>
  obtain ⟨p1,p2⟩:=h.put hn hj hb
  exact ⟨p1,p2⟩
 | true=>
  rw[h.put_no hn (i:=(j:Int)) fun hh=>by rw[Int.toNat_natCast,hb] at hh;cases hh.2.2]
  refine ⟨rfl,?_⟩
  rw[show (fun k=>M k || (k==j))=M from funext fun k=>by
   by_cases hk:k=j
   ·subst hk;rw[hb];rfl
   ·have:(k==j)=false:=by simp;omega
    rw[this,Bool.or_false]]
  exact h
theorem SetOK.congr' {M':Nat→Bool} (h:SetOK s n M) (e:∀j,M j=M' j):SetOK s n M':=by rwa[show M'=M from funext fun j=>(e j).symm]
def listR (n:Nat) (M:Nat→Bool) (h:Nat):List Int:=((List.range' h (n - h)).filter M).map Int.ofNat
theorem listR_zero:listR n M 0=listOf n M:=by unfold listR listOf;rw[List.range_eq_range',Nat.sub_zero]
theorem listR_end:listR n M n=[]:=by unfold listR;rw[Nat.sub_self];rfl
theorem listR_step {h:Nat} (hh:h < n):listR n M h=if M h=true then (h:Int) :: listR n M (h+1) else listR n M (h+1):=by
 unfold listR
 rw[show n - h=(n - (h+1))+1 by omega,List.range'_succ,List.filter_cons]
 split <;> rfl
end Go.Ev
end

section
open Go
namespace Go.Ev
def plB (l:List (El T_api_Access)) (t:Int) (w:Bool) (k:Nat):Bool:=((List.getD l k (dflt T_api_Access)).1==t)&&((List.getD l k (dflt T_api_Access)).2.2.2.2.1==w)&& ! (List.getD l k (dflt T_api_Access)).2.2.2.2.2
def v_delay_plain (l:List (El T_api_Access)) (t:Int) (write:Bool):List Int:=listOf l.length (plB l t write)
def k_delay_plain (l:List (El T_api_Access)) (t:Int) (write:Bool):Bool:=decide (l.length < 1000000000)
theorem g_delay_plain (l:List (El T_api_Access)) (t:Int) (write:Bool) (hk:k_delay_plain l t write=true):Goes (T_delay_plain l t write) (T0_delay_plain l t write) (v_delay_plain l t write):=by
 have hN:=of_decide_eq_true hk
 have outer:∀k,k≤l.length→∀out:List Int,out.length≤k→out++((List.range' k (l.length - k)).filter (plB l t write)).map (fun k:Nat=>(k:Int))=v_delay_plain l t write→
   Goes (T_delay_plain l t write) (.jmp (.l4 (k:Int) out)) (v_delay_plain l t write):=by
  refine down ?_ fun k hk ih=>?_
  ·intro out ho he
   rw[goes_jmp,T_delay_plain,goes_br,if_neg (by rw[lt_len_not (Nat.lt_irrefl _)];decide)]
   rw[Nat.sub_self] at he
   simp only[List.range'_zero,List.filter_nil,List.map_nil,List.append_nil] at he
   rw[←he]
   exact .leaf
  ·intro out ho he
   have b1:Nat.ble ((out.length+1)*8) limit=true:=Nat.ble_eq_true_of_le (by unfold limit;omega)
   rw[show l.length - k=(l.length - (k+1))+1 by omega,List.range'_succ,List.filter_cons] at he
   rw[goes_jmp,T_delay_plain]
   simp only[goes_br,lt_len hk,nng,Bool.and_self,if_true,Int.toNat_natCast,b1,wrap_succ (k:=k) (by omega)]
   obtain ⟨x,hx⟩:∃x,List.getD l k (dflt T_api_Access)=x:=⟨_,rfl⟩
   have hp:plB l t write k=((x.1==t)&&(x.2.2.2.2.1==write)&& ! x.2.2.2.2.2):=by unfold plB;rw[hx]
   rw[hp] at he
   rw[hx]
   cases c1:(x.1==t) with
   | false=>
    rw[c1] at he
    exact ih _ (by omega) he
   | true=>
    cases c2:(x.2.2.2.2.1==write) with
    | false=>
     rw[c1,c2] at he
     exact ih _ (by omega) he
    | true=>
     cases c3:(! (show Bool from x.2.2.2.2.2)) with
     | false=>
      have c3':(! x.2.2.2.2.2)=false:=c3
      rw[c1,c2] at he
      simp only[c3',Bool.and_false,Bool.false_eq_true,if_false] at he ⊢
      exact ih _ (by omega) he
     | true=>
      have c3':(! x.2.2.2.2.2)=true:=c3
      rw[c1,c2] at he
      simp only[c3',Bool.and_true,Bool.true_and,if_true,List.map_cons] at he ⊢
      exact ih _ (by simp;omega) (by rw[List.append_assoc];exact he)
 refine outer 0 (Nat.zero_le _) [] (Nat.zero_le _) ?_
 unfold v_delay_plain listOf
 rw[List.nil_append,List.range_eq_range']
 rfl
end Go.Ev
end

section
open Go Go.Ev
namespace Go.Ev
noncomputable section
noncomputable def e_delay_plain:Run:=entG sg_delay_plain R_delay_plain (fun a=>k_delay_plain a.1 a.2.1 a.2.2.1) (fun a=>v_delay_plain a.1 a.2.1 a.2.2.1)
theorem ok_delay_plain:EntOK Go.Proofs.Tryz.prog 50 e_delay_plain:=entG_ok (tb:=tb_delay_plain) (c:=c_delay_plain) tk_delay_plain (by kernel_rfl) (by kernel_rfl) (by kernel_rfl) (fun a=>by kernel_rfl) fun ⟨l,t,write,_⟩ hk=>evF_goes (c:=c_delay_plain) (K:=fun v=>(R_delay_plain v,tps (toForms sg_delay_plain (l,t,write,())))) (S:=S_delay_plain l t write) (by kernel_rfl) (en_delay_plain l t write) (lp_delay_plain l t write) (g_delay_plain l t write hk)
end
end Go.Ev
end

section
open Go Go.Ev
namespace Go.Ev
noncomputable section
def sg_bits_New:Sig:=[(false,(.int .i64))]
noncomputable def t_bits_New:Tbl:=[]
theorem tk_bits_New:∀p∈t_bits_New,EntOK Go.Proofs.Tryz.prog p.1 p.2:=tbl_nil
noncomputable def c_bits_New:Code:=Go.Proofs.Tryz.f51.body.getD .skip
def tb_bits_New:Tb:=[]
def T_bits_New (n:Int):Empty→JT Empty (Int×List (Int×Int)):=fun j=>nomatch j
def T0_bits_New (n:Int):JT Empty (Int×List (Int×Int)):=.leaf ((maxI n (0:Int)),[])
def v_bits_New (n:Int):Int×List (Int×Int):=((maxI n (0:Int)),[])
theorem g_bits_New (n:Int):Goes (T_bits_New n) (T0_bits_New n) (v_bits_New n):=Goes.leaf
def R_bits_New:Int×List (Int×Int)→AV:=fun (r:Int×List (Int×Int))=>.bx 117 [.d (.int .i64) r.1,.mv (.int .i64) (.int .u64) r.2]
def S_bits_New (n:Int):Empty→Nat×St:=fun j=>nomatch j
theorem en_bits_New (n:Int) (L:Lt):entryA Go.Proofs.Tryz.prog (clOf t_bits_New) tb_bits_New Go.Proofs.Tryz.f51 c_bits_New L (toForms sg_bits_New (n,()))=(T0_bits_New n).run (fun v=>some (R_bits_New v,tps (toForms sg_bits_New (n,())))) fun j=>L (S_bits_New n j).1 (S_bits_New n j).2:=by kernel_rfl
theorem lp_bits_New (n:Int):∀(L:Lt) (j:Empty),procOf (procsF Go.Proofs.Tryz.prog (clOf t_bits_New) tb_bits_New Go.Proofs.Tryz.f51 c_bits_New (toForms sg_bits_New (n,()))) (S_bits_New n j).1 L (S_bits_New n j).2=(T_bits_New n j).run (fun v=>some (R_bits_New v,tps (toForms sg_bits_New (n,())))) fun j=>L (S_bits_New n j).1 (S_bits_New n j).2:=fun L j=>nomatch j
noncomputable def e_bits_New:Run:=entT sg_bits_New R_bits_New (fun a=>v_bits_New a.1)
theorem ok_bits_New:EntOK Go.Proofs.Tryz.prog 51 e_bits_New:=entT_ok (tb:=tb_bits_New) (c:=c_bits_New) tk_bits_New (by kernel_rfl) (by kernel_rfl) (by kernel_rfl) (fun a=>by kernel_rfl) fun ⟨n,_⟩=>evF_goes (c:=c_bits_New) (K:=fun v=>(R_bits_New v,tps (toForms sg_bits_New (n,())))) (S:=S_bits_New n) (by kernel_rfl) (en_bits_New n) (lp_bits_New n) (g_bits_New n)
end
end Go.Ev
end

section
open Go Go.Ev
namespace Go.Ev
noncomputable section
def sg_valid_Find:Sig:=[(true,(.sl T_api_Ins)),(false,.str)]
noncomputable def t_valid_Find:Tbl:=[]
theorem tk_valid_Find:∀p∈t_valid_Find,EntOK Go.Proofs.Tryz.prog p.1 p.2:=tbl_nil
noncomputable def c_valid_Find:Code:=Go.Proofs.Tryz.f113.body.getD .skip
def tb_valid_Find:Tb:=[(3,⟨[1,10,11,12],[]⟩),(9,⟨[1,5,10,11,12,18,19,20],[]⟩)]
inductive J_valid_Find where | l3 (h:Int) | l9 (h:List ByteArray) (h1:Int) (h2:Int) (k:Int) (h3:Int)
def T_valid_Find (t:List (El T_api_Ins)) (label:ByteArray):J_valid_Find→JT J_valid_Find (Int) |.l3 h=>.br (decide (h < (Int.ofNat (List.length t)))) (.br ((decide ((0:Int)≤h))&&(decide (h < (Int.ofNat (List.length t))))) (.jmp (.l9 (List.getD t (Int.toNat h) (dflt T_api_Ins)).2.2.2.2.2.2 (Int.ofNat (List.length (List.getD t (Int.toNat h) (dflt T_api_Ins)).2.2.2.2.2.2)) (0:Int) h h)) (.no)) (.leaf (-1:Int)) |.l9 h h1 h2 k h3=>.br (decide (h2 < h1)) (.br ((decide ((0:Int)≤h2))&&(decide (h2 < (Int.ofNat (List.length h))))) (.br (eqB (List.getD h (Int.toNat h2) (dflt .str)) label) (.leaf k) (.jmp (.l9 h h1 (IntKind.i64.wrap (h2+(1:Int))) k h3))) (.no)) (.jmp (.l3 (IntKind.i64.wrap (h3+(1:Int)))))
def T0_valid_Find (t:List (El T_api_Ins)) (label:ByteArray):JT J_valid_Find (Int):=.jmp (.l3 (0:Int))
def R_valid_Find:Int→AV:=fun (r:Int)=>.d (.int .i64) r
def S_valid_Find (t:List (El T_api_Ins)) (label:ByteArray):J_valid_Find→Nat×St |.l3 h=>(3,⟨mkTm 30 [(1,.d .str label),(10,.d (.sl T_api_Ins) t),(11,.d (.int .i64) (Int.ofNat (List.length t))),(12,.d (.int .i64) h)],[]⟩) |.l9 h h1 h2 k h3=>(9,⟨mkTm 30 [(1,.d .str label),(5,.d (.int .i64) k),(10,.d (.sl T_api_Ins) t),(11,.d (.int .i64) (Int.ofNat (List.length t))),(12,.d (.int .i64) h3),(18,.d (.sl .str) h),(19,.d (.int .i64) h1),(20,.d (.int .i64) h2)],[]⟩)
theorem en_valid_Find (t:List (El T_api_Ins)) (label:ByteArray) (L:Lt):entryA Go.Proofs.Tryz.prog (clOf t_valid_Find) tb_valid_Find Go.Proofs.Tryz.f113 c_valid_Find L (toForms sg_valid_Find (t,label,()))=(T0_valid_Find t label).run (fun v=>some (R_valid_Find v,tps (toForms sg_valid_Find (t,label,())))) fun j=>L (S_valid_Find t label j).1 (S_valid_Find t label j).2:=by kernel_rfl
theorem lp_valid_Find (t:List (El T_api_Ins)) (label:ByteArray):∀(L:Lt) (j:J_valid_Find),procOf (procsF Go.Proofs.Tryz.prog (clOf t_valid_Find) tb_valid_Find Go.Proofs.Tryz.f113 c_valid_Find (toForms sg_valid_Find (t,label,()))) (S_valid_Find t label j).1 L (S_valid_Find t label j).2=(T_valid_Find t label j).run (fun v=>some (R_valid_Find v,tps (toForms sg_valid_Find (t,label,())))) fun j=>L (S_valid_Find t label j).1 (S_valid_Find t label j).2 | L,.l3 h=>by kernel_rfl | L,.l9 h h1 h2 k h3=>by kernel_rfl
end
end Go.Ev
end

section
open Go
namespace Go.Ev
def v_valid_Find (t:List (El T_api_Ins)) (label:ByteArray):Int:=findI label t 0
def k_valid_Find (t:List (El T_api_Ins)) (label:ByteArray):Bool:=decide (t.length < 1099511627776)&&t.all fun i=>decide (i.2.2.2.2.2.2.length < 1099511627776)
theorem g_valid_Find (t:List (El T_api_Ins)) (label:ByteArray) (hk:k_valid_Find t label=true):Goes (T_valid_Find t label) (T0_valid_Find t label) (v_valid_Find t label):=by
 unfold k_valid_Find at hk
 simp only[Bool.and_eq_true,decide_eq_true_eq,List.all_eq_true] at hk
 obtain ⟨hn,hl⟩:=hk
 have loop:∀k,k≤t.length→Goes (T_valid_Find t label) (.jmp (.l3 (k:Int))) (findI label (t.drop k) k):=by
  refine down ?_ fun k hk ih=>?_
  ·rw[goes_jmp]
   simp only[T_valid_Find,goes_br,lt_len_not (Nat.lt_irrefl _),goes_leaf,List.drop_length]
   simp[findI]
  ·have hli:=hl t[k] (List.getElem_mem hk)
   rw[goes_jmp]
   simp only[T_valid_Find,goes_br,lt_len hk,nng,Bool.and_self,if_true,Int.toNat_natCast,getD_lt hk]
   rw[drop_cons hk]
   unfold findI
   generalize t[k].2.2.2.2.2.2=ls at hli
   have inner:∀j,j≤ls.length→Goes (T_valid_Find t label) (.jmp (.l9 ls (Int.ofNat ls.length) (j:Int) (k:Int) (k:Int))) (if (ls.drop j).contains label then (k:Int) else findI label (t.drop (k+1)) (k+1)):=by
    refine down ?_ fun j hj ihj=>?_
    ·rw[goes_jmp]
     simp only[T_valid_Find,goes_br,lt_len_not (Nat.lt_irrefl _),wrap_succ (k:=k) (by omega),List.drop_length]
     simpa using ih
    ·rw[goes_jmp]
     simp only[T_valid_Find,goes_br,lt_len hj,nng,Bool.and_self,if_true,Int.toNat_natCast,getD_lt hj,wrap_succ (k:=j) (by omega),eqB_iff]
     rw[drop_cons hj,List.contains_cons]
     by_cases h:ls[j]=label
     ·rw[if_pos h];subst h;simp[goes_leaf]
     ·rw[if_neg h,beq_false_of_ne (Ne.symm h),Bool.false_or]
      exact ihj
   simpa using inner 0 (Nat.zero_le _)
 unfold T0_valid_Find v_valid_Find
 simpa using loop 0 (Nat.zero_le _)
end Go.Ev
end

section
open Go Go.Ev
namespace Go.Ev
noncomputable section
noncomputable def e_valid_Find:Run:=entG sg_valid_Find R_valid_Find (fun a=>k_valid_Find a.1 a.2.1) (fun a=>v_valid_Find a.1 a.2.1)
theorem ok_valid_Find:EntOK Go.Proofs.Tryz.prog 113 e_valid_Find:=entG_ok (tb:=tb_valid_Find) (c:=c_valid_Find) tk_valid_Find (by kernel_rfl) (by kernel_rfl) (by kernel_rfl) (fun a=>by kernel_rfl) fun ⟨t,label,_⟩ hk=>evF_goes (c:=c_valid_Find) (K:=fun v=>(R_valid_Find v,tps (toForms sg_valid_Find (t,label,())))) (S:=S_valid_Find t label) (by kernel_rfl) (en_valid_Find t label) (lp_valid_Find t label) (g_valid_Find t label hk)
end
end Go.Ev
end

section
open Go Go.Ev
namespace Go.Ev
noncomputable section
def sg_flow_Next:Sig:=[(true,(.sl T_api_Ins)),(false,(.int .i64))]
noncomputable def t_flow_Next:Tbl:=[(112,e_ins_Leads),(113,e_valid_Find)]
theorem tk_flow_Next:∀p∈t_flow_Next,EntOK Go.Proofs.Tryz.prog p.1 p.2:=tbl_cons ok_ins_Leads (tbl_cons ok_valid_Find (tbl_nil))
noncomputable def c_flow_Next:Code:=Go.Proofs.Tryz.f78.body.getD .skip
def tb_flow_Next:Tb:=[(12,⟨[1,5,8,55,68,76],[(9,46)]⟩),(14,⟨[5,8,78],[]⟩),(hintK,⟨[],[(1,46)]⟩)]
inductive J_flow_Next where | l12 (to_:Int) (out:List Int) (h:Bool) | l14 (to_:Int) (out:List Int) (h:Bool)
def T_flow_Next (t:List (El T_api_Ins)) (i:Int):J_flow_Next→JT J_flow_Next (List Int) |.l12 to_ out h=>.br h (.br (Nat.ble (((List.length out)+1)*8) limit) (.br (decide (to_ > i)) (.br ((Int.ofNat (List.length (out++[(IntKind.i64.wrap (i+(1:Int)))])))==(0:Int)) (.jmp (.l14 to_ (out++[(IntKind.i64.wrap (i+(1:Int)))]) true)) (.br ((decide ((0:Int)≤(IntKind.i64.wrap ((Int.ofNat (List.length (out++[(IntKind.i64.wrap (i+(1:Int)))]))) - (1:Int)))))&&(decide ((IntKind.i64.wrap ((Int.ofNat (List.length (out++[(IntKind.i64.wrap (i+(1:Int)))]))) - (1:Int))) < (Int.ofNat (List.length (out++[(IntKind.i64.wrap (i+(1:Int)))])))))) (.jmp (.l14 to_ (out++[(IntKind.i64.wrap (i+(1:Int)))]) ((List.getD (out++[(IntKind.i64.wrap (i+(1:Int)))]) (Int.toNat (IntKind.i64.wrap ((Int.ofNat (List.length (out++[(IntKind.i64.wrap (i+(1:Int)))]))) - (1:Int)))) (dflt (.int .i64))) !=to_))) (.no))) (.jmp (.l14 to_ (out++[(IntKind.i64.wrap (i+(1:Int)))]) false))) (.no)) (.br (decide (to_ > i)) (.br ((Int.ofNat (List.length out))==(0:Int)) (.jmp (.l14 to_ out true)) (.br ((decide ((0:Int)≤(IntKind.i64.wrap ((Int.ofNat (List.length out)) - (1:Int)))))&&(decide ((IntKind.i64.wrap ((Int.ofNat (List.length out)) - (1:Int))) < (Int.ofNat (List.length out))))) (.jmp (.l14 to_ out ((List.getD out (Int.toNat (IntKind.i64.wrap ((Int.ofNat (List.length out)) - (1:Int)))) (dflt (.int .i64))) !=to_))) (.no))) (.jmp (.l14 to_ out false))) |.l14 to_ out h=>.br h (.br (Nat.ble (((List.length out)+1)*8) limit) (.leaf (out++[to_])) (.no)) (.leaf out)
def T0_flow_Next (t:List (El T_api_Ins)) (i:Int):JT J_flow_Next (List Int):=.br (decide (i < (0:Int))) (.leaf []) (.br (decide (i≥(Int.ofNat (List.length t)))) (.leaf []) (.br ((decide ((0:Int)≤i))&&(decide (i < (Int.ofNat (List.length t))))) (.br (k_ins_Leads (List.getD t (Int.toNat i) (dflt T_api_Ins))) (.br (v_ins_Leads (List.getD t (Int.toNat i) (dflt T_api_Ins))).2 (.br ((decide ((0:Int)≤i))&&(decide (i < (Int.ofNat (List.length t))))) (.br (k_valid_Find t (List.getD t (Int.toNat i) (dflt T_api_Ins)).2.2.2.2.2.1) (.br (decide ((v_valid_Find t (List.getD t (Int.toNat i) (dflt T_api_Ins)).2.2.2.2.2.1)≥(0:Int))) (.br (decide ((v_valid_Find t (List.getD t (Int.toNat i) (dflt T_api_Ins)).2.2.2.2.2.1)≤i)) (.br (v_ins_Leads (List.getD t (Int.toNat i) (dflt T_api_Ins))).1 (.jmp (.l12 (v_valid_Find t (List.getD t (Int.toNat i) (dflt T_api_Ins)).2.2.2.2.2.1) [(v_valid_Find t (List.getD t (Int.toNat i) (dflt T_api_Ins)).2.2.2.2.2.1)] (decide ((IntKind.i64.wrap (i+(1:Int))) < (Int.ofNat (List.length t)))))) (.jmp (.l12 (v_valid_Find t (List.getD t (Int.toNat i) (dflt T_api_Ins)).2.2.2.2.2.1) [(v_valid_Find t (List.getD t (Int.toNat i) (dflt T_api_Ins)).2.2.2.2.2.1)] false))) (.br (v_ins_Leads (List.getD t (Int.toNat i) (dflt T_api_Ins))).1 (.jmp (.l12 (v_valid_Find t (List.getD t (Int.toNat i) (dflt T_api_Ins)).2.2.2.2.2.1) [] (decide ((IntKind.i64.wrap (i+(1:Int))) < (Int.ofNat (List.length t)))))) (.jmp (.l12 (v_valid_Find t (List.getD t (Int.toNat i) (dflt T_api_Ins)).2.2.2.2.2.1) [] false)))) (.br (v_ins_Leads (List.getD t (Int.toNat i) (dflt T_api_Ins))).1 (.jmp (.l12 (v_valid_Find t (List.getD t (Int.toNat i) (dflt T_api_Ins)).2.2.2.2.2.1) [] (decide ((IntKind.i64.wrap (i+(1:Int))) < (Int.ofNat (List.length t)))))) (.jmp (.l12 (v_valid_Find t (List.getD t (Int.toNat i) (dflt T_api_Ins)).2.2.2.2.2.1) [] false)))) (.no)) (.no)) (.br (v_ins_Leads (List.getD t (Int.toNat i) (dflt T_api_Ins))).1 (.jmp (.l12 (-1:Int) [] (decide ((IntKind.i64.wrap (i+(1:Int))) < (Int.ofNat (List.length t)))))) (.jmp (.l12 (-1:Int) [] false)))) (.no)) (.no)))
def R_flow_Next:List Int→AV:=fun (r:List Int)=>.rw 3 (.int .i64) r
def S_flow_Next (t:List (El T_api_Ins)) (i:Int):J_flow_Next→Nat×St |.l12 to_ out h=>(12,⟨mkTm 84 [(1,.d (.int .i64) i),(5,.d (.int .i64) to_),(8,.own 9 0 none),(55,.d .bool h)],[(9,0,.row 3 (.int .i64) out false)]⟩) |.l14 to_ out h=>(14,⟨mkTm 84 [(5,.d (.int .i64) to_),(8,.own 9 0 none),(78,.d .bool h)],[(9,0,.row 3 (.int .i64) out false)]⟩)
theorem en_flow_Next (t:List (El T_api_Ins)) (i:Int) (L:Lt):entryA Go.Proofs.Tryz.prog (clOf t_flow_Next) tb_flow_Next Go.Proofs.Tryz.f78 c_flow_Next L (toForms sg_flow_Next (t,i,()))=(T0_flow_Next t i).run (fun v=>some (R_flow_Next v,tps (toForms sg_flow_Next (t,i,())))) fun j=>L (S_flow_Next t i j).1 (S_flow_Next t i j).2:=by kernel_rfl
theorem lp_flow_Next (t:List (El T_api_Ins)) (i:Int):∀(L:Lt) (j:J_flow_Next),procOf (procsF Go.Proofs.Tryz.prog (clOf t_flow_Next) tb_flow_Next Go.Proofs.Tryz.f78 c_flow_Next (toForms sg_flow_Next (t,i,()))) (S_flow_Next t i j).1 L (S_flow_Next t i j).2=(T_flow_Next t i j).run (fun v=>some (R_flow_Next v,tps (toForms sg_flow_Next (t,i,())))) fun j=>L (S_flow_Next t i j).1 (S_flow_Next t i j).2 | L,.l12 to_ out h=>by kernel_rfl | L,.l14 to_ out h=>by kernel_rfl
end
end Go.Ev
end

section
open Go
namespace Go.Ev
def v_flow_Next (t:List (El T_api_Ins)) (i:Int):List Int:=listOf t.length (nextB t i)
def k_flow_Next (t:List (El T_api_Ins)) (i:Int):Bool:=flowOK t
theorem nextB_out {t:List (El T_api_Ins)} {i:Int} (h:¬(0≤i∧i < (t.length:Int))):listOf t.length (nextB t i)=[]:=by
 unfold listOf
 rw[List.map_eq_nil_iff,List.filter_eq_nil_iff]
 intro j _ hb
 unfold nextB at hb
 rw[Bool.and_eq_true] at hb
 have:=of_decide_eq_true hb.1
 exact h ⟨this.1,this.2.1⟩
theorem g_flow_Next (t:List (El T_api_Ins)) (i:Int) (hk:k_flow_Next t i=true):Goes (T_flow_Next t i) (T0_flow_Next t i) (v_flow_Next t i):=by
 have hlen:=flowOK_len hk
 unfold T0_flow_Next v_flow_Next
 rw[goes_br]
 by_cases h0:i < 0
 ·rw[if_pos (decide_eq_true h0),nextB_out (fun h=>by omega)];exact .leaf
 rw[if_neg (by simpa using h0),goes_br]
 obtain ⟨j,rfl⟩:=Int.eq_ofNat_of_zero_le (show 0≤i by omega)
 by_cases h1:(t.length:Int)≤(j:Int)
 ·rw[if_pos (decide_eq_true (show (j:Int)≥Int.ofNat t.length from h1)),nextB_out (fun h=>by omega)];exact .leaf
 have hj:j < t.length:=by omega
 rw[if_neg (by simp;omega),goes_br,if_pos (bound_len hj),goes_br,Int.toNat_natCast]
 rw[←nextL_eq hj]
 have hmem:t.getD j (dflt T_api_Ins)∈t:=by rw[getD_lt hj];exact List.getElem_mem hj
 have kl:k_ins_Leads (t.getD j (dflt T_api_Ins))=true:=k_leads (flowOK_text hk hmem)
 have kf:k_valid_Find t (t.getD j (dflt T_api_Ins)).2.2.2.2.2.1=true:=flowOK_find hk
 have vf:v_valid_Find t (t.getD j (dflt T_api_Ins)).2.2.2.2.2.1=findI (t.getD j (dflt T_api_Ins)).2.2.2.2.2.1 t 0:=rfl
 rw[if_pos kl]
 have hw:IntKind.i64.wrap ((j:Int)+1)=(j:Int)+1:=by rw[wrap_i64 (by omega) (by omega)]
 have l14:∀(to:Int) (out:List Int) (h:Bool),out.length≤3→Goes (T_flow_Next t (j:Int)) (.jmp (.l14 to out h)) (out++if h=true then [to] else []):=by
  intro to out h ho
  rw[goes_jmp,T_flow_Next,goes_br]
  cases h with
  | true=>
   rw[if_pos rfl,goes_br,if_pos (Nat.ble_eq_true_of_le (by unfold limit;omega)),if_pos rfl];exact .leaf
  | false=>rw[if_neg (by decide),if_neg (by decide),List.append_nil];exact .leaf
 have last:∀(out:List Int) (x:Int),out.length≤1→(decide ((0:Int)≤IntKind.i64.wrap (Int.ofNat (out++[x]).length - 1))&&decide (IntKind.i64.wrap (Int.ofNat (out++[x]).length - 1) < Int.ofNat (out++[x]).length))=true∧List.getD (out++[x]) (IntKind.i64.wrap (Int.ofNat (out++[x]).length - 1)).toNat (dflt (.int .i64))=x:=by
  intro out x ho
  have e:IntKind.i64.wrap (Int.ofNat (out++[x]).length - 1)=(out.length:Int):=by
   rw[List.length_append,List.length_singleton,wrap_i64 (by simp <;> omega) (by simp <;> omega)]
   simp
  rw[e]
  refine ⟨by simp;omega,?_⟩
  rw[Int.toNat_natCast]
  simp[List.getD]
 have l12:∀(to:Int) (h:Bool), -1≤to→(h=true→(j:Int)+1 < t.length)→Goes (T_flow_Next t (j:Int)) (.jmp (.l12 to (if 0≤to∧to≤(j:Int) then [to] else []) h)) (nextL t.length h to (j:Int)):=by
  intro to h hto hh
  rw[goes_jmp,T_flow_Next]
  unfold nextL
  generalize hout:(if 0≤to∧to≤(j:Int) then [to] else [])=out
  have hol:out.length≤1:=by rw[←hout];split <;> simp
  rw[goes_br]
  cases h with
  | true=>
   rw[if_pos rfl,goes_br,if_pos (Nat.ble_eq_true_of_le (by unfold limit;omega)),goes_br,hw]
   have hin:=hh rfl
   obtain ⟨b1,b2⟩:=last out ((j:Int)+1) hol
   rw[if_pos (show true=true∧(j:Int)+1 < (t.length:Int) from ⟨rfl,hin⟩)]
   by_cases hgt:to > (j:Int)
   ·rw[if_pos (decide_eq_true hgt),goes_br,if_neg (by simp;omega),goes_br,if_pos b1,b2]
    have:=l14 to (out++[(j:Int)+1]) ((j:Int)+1 !=to) (by simp;omega)
    rw[List.append_assoc] at this
    by_cases he:to=(j:Int)+1
    ·rw[if_neg (by simp[he]),List.append_nil] at this
     rw[if_neg (fun h=>h.2 ⟨rfl,hin,he⟩),List.append_nil]
     exact this
    ·rw[if_pos (by simp;omega)] at this
     rw[if_pos ⟨hgt,fun h=>he h.2.2⟩]
     exact this
   ·rw[if_neg (by simpa using hgt),if_neg (fun h=>hgt h.1),List.append_nil]
    have:=l14 to (out++[(j:Int)+1]) false (by simp;omega)
    rwa[if_neg (by decide),List.append_nil] at this
  | false=>
   rw[if_neg (by decide),goes_br,if_neg (c:=false=true∧(j:Int)+1 < (t.length:Int)) (fun h=>by cases h.1),List.nil_append]
   by_cases hgt:to > (j:Int)
   ·have he:out=[]:=by rw[←hout,if_neg (fun h=>by omega)]
    subst he
    rw[if_pos (decide_eq_true hgt),goes_br,if_pos (show (Int.ofNat ([]:List Int).length==0)=true from rfl),if_pos ⟨hgt,fun h=>by cases h.1⟩]
    have:=l14 to [] true (by simp)
    rwa[if_pos rfl] at this
   ·rw[if_neg (by simpa using hgt),if_neg (fun h=>hgt h.1),List.append_nil]
    have:=l14 to out false (by omega)
    rwa[if_neg (by decide),List.append_nil] at this
 have key:∀(on:Bool) (to:Int),nextL t.length (bif on then decide ((j:Int)+1 < Int.ofNat t.length) else false) to (j:Int)=nextL t.length on to (j:Int):=by
  intro on to
  cases on with
  | false=>rfl
  | true=>
   show nextL t.length (decide ((j:Int)+1 < Int.ofNat t.length)) to (j:Int)=nextL t.length true to (j:Int)
   by_cases hin:(j:Int)+1 < (t.length:Int)
   ·rw[decide_eq_true (show (j:Int)+1 < Int.ofNat t.length from hin)]
   ·rw[decide_eq_false (show ¬(j:Int)+1 < Int.ofNat t.length from hin)]
    unfold nextL
    rw[if_neg (c:=false=true∧(j:Int)+1 < (t.length:Int)) (fun h=>by cases h.1),if_neg (c:=true=true∧(j:Int)+1 < (t.length:Int)) (fun h=>hin h.2)]
    by_cases hgt:to > (j:Int)
    ·rw[if_pos (c:=to > (j:Int)∧¬(false=true∧(j:Int)+1 < (t.length:Int)∧to=(j:Int)+1)) ⟨hgt,fun h=>by cases h.1⟩,if_pos (c:=to > (j:Int)∧¬(true=true∧(j:Int)+1 < (t.length:Int)∧to=(j:Int)+1)) ⟨hgt,fun h=>hin h.2.1⟩]
    ·rw[if_neg (c:=to > (j:Int)∧¬(false=true∧(j:Int)+1 < (t.length:Int)∧to=(j:Int)+1)) (fun h=>hgt h.1),if_neg (c:=to > (j:Int)∧¬(true=true∧(j:Int)+1 < (t.length:Int)∧to=(j:Int)+1)) (fun h=>hgt h.1)]
 have both:∀(on:Bool) (to:Int) (out:List Int), -1≤to→out=(if 0≤to∧to≤(j:Int) then [to] else [])→Goes (T_flow_Next t (j:Int)) (.br on (.jmp (.l12 to out (decide (IntKind.i64.wrap ((j:Int)+1) < Int.ofNat t.length)))) (.jmp (.l12 to out false))) (nextL t.length on to (j:Int)):=by
  intro on to out hto hout
  subst hout
  rw[goes_br,←key,hw]
  cases on with
  | true=>
   rw[if_pos rfl,cond_true]
   exact l12 to _ hto fun h=>of_decide_eq_true h
  | false=>
   rw[if_neg (by decide),cond_false]
   exact l12 to _ hto fun h=>by cases h
 have hr:= @toOf_lt t j
 rw[goes_br]
 unfold onOf
 by_cases hjmp:(v_ins_Leads (t.getD j (dflt T_api_Ins))).2=true
 ·have hto:toOf t j=findI (t.getD j (dflt T_api_Ins)).2.2.2.2.2.1 t 0:=by unfold toOf;rw[if_pos hjmp]
  rw[hto] at hr
  rw[if_pos hjmp,goes_br,if_pos (bound_len hj),goes_br,if_pos kf,goes_br,vf,hto]
  generalize findI (t.getD j (dflt T_api_Ins)).2.2.2.2.2.1 t 0=to at hr
  by_cases h2:to≥0
  ·rw[if_pos (decide_eq_true h2),goes_br]
   by_cases h3:to≤(j:Int)
   ·rw[if_pos (decide_eq_true h3)]
    exact both _ to _ hr.1 (by rw[if_pos ⟨h2,h3⟩])
   ·rw[if_neg (by simpa using h3)]
    exact both _ to _ hr.1 (by rw[if_neg (fun h=>h3 h.2)])
  ·rw[if_neg (by simpa using h2)]
   exact both _ to _ hr.1 (by rw[if_neg (fun h=>h2 h.1)])
 ·have hto:toOf t j= -1:=by unfold toOf;rw[if_neg hjmp]
  rw[if_neg hjmp,hto]
  exact both _ (-1) _ (by omega) (by rw[if_neg (fun h=>by omega)])
end Go.Ev
end

section
open Go Go.Ev
namespace Go.Ev
noncomputable section
noncomputable def e_flow_Next:Run:=entG sg_flow_Next R_flow_Next (fun a=>k_flow_Next a.1 a.2.1) (fun a=>v_flow_Next a.1 a.2.1)
theorem ok_flow_Next:EntOK Go.Proofs.Tryz.prog 78 e_flow_Next:=entG_ok (tb:=tb_flow_Next) (c:=c_flow_Next) tk_flow_Next (by kernel_rfl) (by kernel_rfl) (by kernel_rfl) (fun a=>by kernel_rfl) fun ⟨t,i,_⟩ hk=>evF_goes (c:=c_flow_Next) (K:=fun v=>(R_flow_Next v,tps (toForms sg_flow_Next (t,i,())))) (S:=S_flow_Next t i) (by kernel_rfl) (en_flow_Next t i) (lp_flow_Next t i) (g_flow_Next t i hk)
end
end Go.Ev
end

section
open Go Go.Ev
namespace Go.Ev
noncomputable section
noncomputable def t_bits_Set_Size:Tbl:=[]
theorem tk_bits_Set_Size:∀p∈t_bits_Set_Size,EntOK Go.Proofs.Tryz.prog p.1 p.2:=tbl_nil
noncomputable def c_bits_Set_Size:Code:=Go.Proofs.Tryz.f86.body.getD .skip
noncomputable def e_bits_Set_Size:Run:=entE Go.Proofs.Tryz.prog t_bits_Set_Size Go.Proofs.Tryz.f86 c_bits_Set_Size
theorem ok_bits_Set_Size:EntOK Go.Proofs.Tryz.prog 86 e_bits_Set_Size:=entE_ok tk_bits_Set_Size (by kernel_rfl) (by kernel_rfl) (by kernel_rfl) (fun xs=>by kernel_rfl)
end
end Go.Ev
end

section
open Go Go.Ev
namespace Go.Ev
noncomputable section
def sg_bits_Set_Has:PSig:=[.obj 117 [(.d (.int .i64)),(.m (.int .i64) (.int .u64))],.dat false (.int .i64)]
noncomputable def t_bits_Set_Has:Tbl:=[(86,e_bits_Set_Size)]
theorem tk_bits_Set_Has:∀p∈t_bits_Set_Has,EntOK Go.Proofs.Tryz.prog p.1 p.2:=tbl_cons ok_bits_Set_Size (tbl_nil)
noncomputable def c_bits_Set_Has:Code:=Go.Proofs.Tryz.f54.body.getD .skip
def tb_bits_Set_Has:Tb:=[]
def T_bits_Set_Has (s:Int×List (Int×Int)) (i:Int):Empty→JT Empty (Bool×Int×List (Int×Int)):=fun j=>nomatch j
def T0_bits_Set_Has (s:Int×List (Int×Int)) (i:Int):JT Empty (Bool×Int×List (Int×Int)):=.br (decide (i≥(0:Int))) (.br (decide (i < s.1)) (.br (decide ((IntKind.u64.wrap (Int.tmod i (64:Int))) < (0:Int))) (.no) (.leaf (((bitAnd IntKind.u64 (Int.fdiv (Option.getD (mget (kt:=(.int .i64)) (IntKind.i64.wrap (Int.tdiv i (64:Int))) s.2) (0:Int)) (2 ^ (min (Int.toNat (IntKind.u64.wrap (Int.tmod i (64:Int)))) (IntKind.u64).bits))) (1:Int))==(1:Int)),s))) (.leaf (false,s))) (.leaf (false,s))
def K_bits_Set_Has:Bool×Int×List (Int×Int)→Ans:=fun (r:Bool×Int×List (Int×Int))=>(.d .bool r.1,[.bx 117 [.d (.int .i64) r.2.1,.mv (.int .i64) (.int .u64) r.2.2],.top])
def S_bits_Set_Has (s:Int×List (Int×Int)) (i:Int):Empty→Nat×St:=fun j=>nomatch j
theorem en_bits_Set_Has (s:Int×List (Int×Int)) (i:Int) (L:Lt):entryA Go.Proofs.Tryz.prog (clOf t_bits_Set_Has) tb_bits_Set_Has Go.Proofs.Tryz.f54 c_bits_Set_Has L (toPs sg_bits_Set_Has (s,i,()))=(T0_bits_Set_Has s i).run (fun v=>some (K_bits_Set_Has v)) fun j=>L (S_bits_Set_Has s i j).1 (S_bits_Set_Has s i j).2:=by kernel_rfl
theorem lp_bits_Set_Has (s:Int×List (Int×Int)) (i:Int):∀(L:Lt) (j:Empty),procOf (procsF Go.Proofs.Tryz.prog (clOf t_bits_Set_Has) tb_bits_Set_Has Go.Proofs.Tryz.f54 c_bits_Set_Has (toPs sg_bits_Set_Has (s,i,()))) (S_bits_Set_Has s i j).1 L (S_bits_Set_Has s i j).2=(T_bits_Set_Has s i j).run (fun v=>some (K_bits_Set_Has v)) fun j=>L (S_bits_Set_Has s i j).1 (S_bits_Set_Has s i j).2:=fun L j=>nomatch j
end
end Go.Ev
end

section
open Go
namespace Go.Ev
def v_bits_Set_Has (s:Int×List (Int×Int)) (i:Int):Bool×Int×List (Int×Int):=(hasS s i,s)
theorem g_bits_Set_Has (s:Int×List (Int×Int)) (i:Int):Goes (T_bits_Set_Has s i) (T0_bits_Set_Has s i) (v_bits_Set_Has s i):=by
 unfold T0_bits_Set_Has v_bits_Set_Has hasS
 rw[goes_br]
 by_cases h0:i≥0
 ·rw[if_pos (decide_eq_true h0),goes_br,decide_eq_true h0,Bool.true_and]
  by_cases h1:i < s.1
  ·rw[if_pos (decide_eq_true h1),goes_br,if_neg (by rw[wrapU_nonneg];decide),decide_eq_true h1,Bool.true_and]
   exact .leaf
  ·rw[if_neg (by simpa using h1),decide_eq_false h1,Bool.false_and]
   exact .leaf
 ·rw[if_neg (by simpa using h0),decide_eq_false h0,Bool.false_and]
  exact .leaf
end Go.Ev
end

section
open Go Go.Ev
namespace Go.Ev
noncomputable section
noncomputable def e_bits_Set_Has:Run:=entO sg_bits_Set_Has K_bits_Set_Has (fun a=>true) (fun a=>v_bits_Set_Has a.1 a.2.1)
theorem ok_bits_Set_Has:EntOK Go.Proofs.Tryz.prog 54 e_bits_Set_Has:=entO_ok (tb:=tb_bits_Set_Has) (c:=c_bits_Set_Has) (noRun_ok (known_of (fn:=Go.Proofs.Tryz.f54) (c:=c_bits_Set_Has) (by kernel_rfl) (by kernel_rfl) (by kernel_rfl))) tk_bits_Set_Has (by kernel_rfl) (by kernel_rfl) (fun a=>by kernel_rfl) fun ⟨s,i,_⟩ hk=>evF_goes (c:=c_bits_Set_Has) (K:=K_bits_Set_Has) (S:=S_bits_Set_Has s i) (by kernel_rfl) (en_bits_Set_Has s i) (lp_bits_Set_Has s i) (g_bits_Set_Has s i)
end
end Go.Ev
end

section
open Go Go.Ev
namespace Go.Ev
noncomputable section
def sg_bits_Set_Put:PSig:=[.obj 117 [(.d (.int .i64)),(.m (.int .i64) (.int .u64))],.dat false (.int .i64)]
noncomputable def t_bits_Set_Put:Tbl:=[(86,e_bits_Set_Size),(54,e_bits_Set_Has)]
theorem tk_bits_Set_Put:∀p∈t_bits_Set_Put,EntOK Go.Proofs.Tryz.prog p.1 p.2:=tbl_cons ok_bits_Set_Size (tbl_cons ok_bits_Set_Has (tbl_nil))
noncomputable def c_bits_Set_Put:Code:=Go.Proofs.Tryz.f53.body.getD .skip
def tb_bits_Set_Put:Tb:=[]
def T_bits_Set_Put (s:Int×List (Int×Int)) (i:Int):Empty→JT Empty (Bool×Int×List (Int×Int)):=fun j=>nomatch j
def T0_bits_Set_Put (s:Int×List (Int×Int)) (i:Int):JT Empty (Bool×Int×List (Int×Int)):=.br (decide (i < (0:Int))) (.leaf (false,s)) (.br (decide (i≥s.1)) (.leaf (false,s)) (.br (v_bits_Set_Has s i).1 (.leaf (false,(v_bits_Set_Has s i).2)) (.br (decide ((IntKind.u64.wrap (Int.tmod i (64:Int))) < (0:Int))) (.no) (.leaf (true,((v_bits_Set_Has s i).2.1,(mput (kt:=(.int .i64)) (IntKind.i64.wrap (Int.tdiv i (64:Int))) (bitOr IntKind.u64 (Option.getD (mget (kt:=(.int .i64)) (IntKind.i64.wrap (Int.tdiv i (64:Int))) (v_bits_Set_Has s i).2.2) (0:Int)) (IntKind.u64.wrap ((1:Int)*(2 ^ (min (Int.toNat (IntKind.u64.wrap (Int.tmod i (64:Int)))) (IntKind.u64).bits))))) (v_bits_Set_Has s i).2.2)))))))
def K_bits_Set_Put:Bool×Int×List (Int×Int)→Ans:=fun (r:Bool×Int×List (Int×Int))=>(.d .bool r.1,[.bx 117 [.d (.int .i64) r.2.1,.mv (.int .i64) (.int .u64) r.2.2],.top])
def S_bits_Set_Put (s:Int×List (Int×Int)) (i:Int):Empty→Nat×St:=fun j=>nomatch j
theorem en_bits_Set_Put (s:Int×List (Int×Int)) (i:Int) (L:Lt):entryA Go.Proofs.Tryz.prog (clOf t_bits_Set_Put) tb_bits_Set_Put Go.Proofs.Tryz.f53 c_bits_Set_Put L (toPs sg_bits_Set_Put (s,i,()))=(T0_bits_Set_Put s i).run (fun v=>some (K_bits_Set_Put v)) fun j=>L (S_bits_Set_Put s i j).1 (S_bits_Set_Put s i j).2:=by kernel_rfl
theorem lp_bits_Set_Put (s:Int×List (Int×Int)) (i:Int):∀(L:Lt) (j:Empty),procOf (procsF Go.Proofs.Tryz.prog (clOf t_bits_Set_Put) tb_bits_Set_Put Go.Proofs.Tryz.f53 c_bits_Set_Put (toPs sg_bits_Set_Put (s,i,()))) (S_bits_Set_Put s i j).1 L (S_bits_Set_Put s i j).2=(T_bits_Set_Put s i j).run (fun v=>some (K_bits_Set_Put v)) fun j=>L (S_bits_Set_Put s i j).1 (S_bits_Set_Put s i j).2:=fun L j=>nomatch j
end
end Go.Ev
end

section
open Go
namespace Go.Ev
def v_bits_Set_Put (s:Int×List (Int×Int)) (i:Int):Bool×Int×List (Int×Int):=putS s i
theorem g_bits_Set_Put (s:Int×List (Int×Int)) (i:Int):Goes (T_bits_Set_Put s i) (T0_bits_Set_Put s i) (v_bits_Set_Put s i):=by
 unfold T0_bits_Set_Put v_bits_Set_Put putS
 simp only[v_bits_Set_Has]
 rw[goes_br]
 by_cases h0:i < 0
 ·rw[if_pos (decide_eq_true h0),if_pos (.inl h0)];exact .leaf
 ·rw[if_neg (by simpa using h0),goes_br]
  by_cases h1:i≥s.1
  ·rw[if_pos (decide_eq_true h1),if_pos (.inr (.inl h1))];exact .leaf
  ·rw[if_neg (by simpa using h1),goes_br]
   by_cases h2:hasS s i=true
   ·rw[if_pos h2,if_pos (.inr (.inr h2))];exact .leaf
   ·rw[if_neg h2,goes_br,if_neg (by rw[wrapU_nonneg];decide),if_neg (by intro h;rcases h with h | h | h <;> first | exact h0 h | exact h1 h | exact h2 h)]
    exact .leaf
end Go.Ev
end

section
open Go Go.Ev
namespace Go.Ev
noncomputable section
noncomputable def e_bits_Set_Put:Run:=entO sg_bits_Set_Put K_bits_Set_Put (fun a=>true) (fun a=>v_bits_Set_Put a.1 a.2.1)
theorem ok_bits_Set_Put:EntOK Go.Proofs.Tryz.prog 53 e_bits_Set_Put:=entO_ok (tb:=tb_bits_Set_Put) (c:=c_bits_Set_Put) (noRun_ok (known_of (fn:=Go.Proofs.Tryz.f53) (c:=c_bits_Set_Put) (by kernel_rfl) (by kernel_rfl) (by kernel_rfl))) tk_bits_Set_Put (by kernel_rfl) (by kernel_rfl) (fun a=>by kernel_rfl) fun ⟨s,i,_⟩ hk=>evF_goes (c:=c_bits_Set_Put) (K:=K_bits_Set_Put) (S:=S_bits_Set_Put s i) (by kernel_rfl) (en_bits_Set_Put s i) (lp_bits_Set_Put s i) (g_bits_Set_Put s i)
end
end Go.Ev
end

section
open Go Go.Ev
namespace Go.Ev
noncomputable section
def sg_bits_Set_List_t:PSig:=[.obj 117 [(.d (.int .i64)),(.m (.int .i64) (.int .u64))]]
noncomputable def t_bits_Set_List_t:Tbl:=[]
noncomputable def c_bits_Set_List_t:Code:=match Go.Proofs.Tryz.f80.body with | some (.seq _ (.seq _ (.seq _ (.seq _ (.seq _ d)))))=>d | _=>.skip
def tb_bits_Set_List_t:Tb:=[(2,⟨[0,4,26,27,28],[(5,46)]⟩),(8,⟨[0,4,7,8,26,27,28],[(5,46)]⟩)]
inductive J_bits_Set_List_t where | l2 (h:Int) (h1:List Int) (h2:Int) (out:List Int) | l8 (k:Int) (h:Int) (h1:List Int) (i:Int) (out:List Int) (h2:Int)
def T_bits_Set_List_t (s:Int×List (Int×Int)) (places:List Int):J_bits_Set_List_t→JT J_bits_Set_List_t ((List Int)×Int×List (Int×Int)) |.l2 h h1 h2 out=>.br (decide (h2 < h)) (.br ((decide ((0:Int)≤h2))&&(decide (h2 < (Int.ofNat (List.length h1))))) (.jmp (.l8 (List.getD h1 (Int.toNat h2) (dflt (.int .i64))) h h1 (0:Int) out h2)) (.no)) (.leaf (out,s)) |.l8 k h h1 i out h2=>.br (decide (i < (64:Int))) (.br (decide ((IntKind.u64.wrap i) < (0:Int))) (.no) (.br ((bitAnd IntKind.u64 (Int.fdiv (Option.getD (mget (kt:=(.int .i64)) k s.2) (0:Int)) (2 ^ (min (Int.toNat (IntKind.u64.wrap i)) (IntKind.u64).bits))) (1:Int))==(1:Int)) (.br (Nat.ble (((List.length out)+1)*8) limit) (.jmp (.l8 k h h1 (IntKind.i64.wrap (i+(1:Int))) (out++[(IntKind.i64.wrap ((IntKind.i64.wrap (k*(64:Int)))+i))]) h2)) (.no)) (.jmp (.l8 k h h1 (IntKind.i64.wrap (i+(1:Int))) out h2)))) (.jmp (.l2 h h1 (IntKind.i64.wrap (h2+(1:Int))) out))
def T0_bits_Set_List_t (s:Int×List (Int×Int)) (places:List Int):JT J_bits_Set_List_t ((List Int)×Int×List (Int×Int)):=.jmp (.l2 (Int.ofNat (List.length places)) places (0:Int) [])
def K_bits_Set_List_t:(List Int)×Int×List (Int×Int)→Ans:=fun (r:(List Int)×Int×List (Int×Int))=>(.rw 3 (.int .i64) r.1,[.bx 117 [.d (.int .i64) r.2.1,.mv (.int .i64) (.int .u64) r.2.2]])
def S_bits_Set_List_t (s:Int×List (Int×Int)) (places:List Int):J_bits_Set_List_t→Nat×St |.l2 h h1 h2 out=>(2,⟨mkTm 56 [(0,.pt 1 0 0),(4,.own 5 0 none),(26,.own 27 0 none),(27,.d (.int .i64) h),(28,.d (.int .i64) h2)],[(1,0,.box 117 [.d (.int .i64) s.1,.mp 1026 0] (some 0)),(5,0,.row 3 (.int .i64) out false),(27,0,.row 3 (.int .i64) h1 false),(1026,0,.map (.int .i64) (.int .u64) s.2)]⟩) |.l8 k h h1 i out h2=>(8,⟨mkTm 56 [(0,.pt 1 0 0),(4,.own 5 0 none),(7,.d (.int .i64) k),(8,.d (.int .i64) i),(26,.own 27 0 none),(27,.d (.int .i64) h),(28,.d (.int .i64) h2)],[(1,0,.box 117 [.d (.int .i64) s.1,.mp 1026 0] (some 0)),(5,0,.row 3 (.int .i64) out false),(27,0,.row 3 (.int .i64) h1 false),(1026,0,.map (.int .i64) (.int .u64) s.2)]⟩)
def S0_bits_Set_List_t (s:Int×List (Int×Int)) (places:List Int):St:=⟨mkTm 56 [(0,.pt 1 0 0),(3,.own 4 0 none),(4,.nil)],[(1,0,.box 117 [.d (.int .i64) s.1,.mp 1026 0] (some 0)),(4,0,.row 3 (.int .i64) places false),(1026,0,.map (.int .i64) (.int .u64) s.2)]⟩
theorem en_bits_Set_List_t (s:Int×List (Int×Int)) (places:List Int) (L:Lt):evC Go.Proofs.Tryz.prog (clOf t_bits_Set_List_t) tb_bits_Set_List_t L c_bits_Set_List_t 0 (finA Go.Proofs.Tryz.prog tb_bits_Set_List_t Go.Proofs.Tryz.f80 (toPs sg_bits_Set_List_t (s,()))) (fun _ _=>none) (finA Go.Proofs.Tryz.prog tb_bits_Set_List_t Go.Proofs.Tryz.f80 (toPs sg_bits_Set_List_t (s,()))) (S0_bits_Set_List_t s places)=(T0_bits_Set_List_t s places).run (fun v=>some (K_bits_Set_List_t v)) fun j=>L (S_bits_Set_List_t s places j).1 (S_bits_Set_List_t s places j).2:=by kernel_rfl
noncomputable def ps_bits_Set_List_t (s:Int×List (Int×Int)) (places:List Int):List (Nat×(Lt→Kt)):=procs Go.Proofs.Tryz.prog (clOf t_bits_Set_List_t) tb_bits_Set_List_t c_bits_Set_List_t 0 (fun _=>(finA Go.Proofs.Tryz.prog tb_bits_Set_List_t Go.Proofs.Tryz.f80 (toPs sg_bits_Set_List_t (s,())))) (fun _ _ _=>none) (fun _=>(finA Go.Proofs.Tryz.prog tb_bits_Set_List_t Go.Proofs.Tryz.f80 (toPs sg_bits_Set_List_t (s,()))))
theorem lp_bits_Set_List_t (s:Int×List (Int×Int)) (places:List Int):∀(L:Lt) (j:J_bits_Set_List_t),procOf (ps_bits_Set_List_t s places) (S_bits_Set_List_t s places j).1 L (S_bits_Set_List_t s places j).2=(T_bits_Set_List_t s places j).run (fun v=>some (K_bits_Set_List_t v)) fun j=>L (S_bits_Set_List_t s places j).1 (S_bits_Set_List_t s places j).2 | L,.l2 h h1 h2 out=>by kernel_rfl | L,.l8 k h h1 i out h2=>by kernel_rfl
end
end Go.Ev
end

section
open Go
namespace Go.Ev
theorem g_bits_Set_List_t (s:Int×List (Int×Int)) (places:List Int) (hk:Nat.ble (places.length*512) limit=true):Goes (T_bits_Set_List_t s places) (T0_bits_Set_List_t s places) (listAt s.2 places,s):=by
 have hlim:places.length*512≤limit:=Nat.le_of_ble_eq_true hk
 have hn:places.length < 4611686018427387904:=by unfold limit at hlim;omega
 have inner:∀(k:Int) (j:Nat),j < places.length→∀(i:Nat),i≤64→∀(out:List Int) r,(out.length+(64 - i))*8≤limit→
   Goes (T_bits_Set_List_t s places) (.jmp (.l2 (Int.ofNat (List.length places)) places ((j+1:Nat):Int) (out++wordList s.2 k i (64 - i)))) r→
   Goes (T_bits_Set_List_t s places) (.jmp (.l8 k (Int.ofNat (List.length places)) places (i:Int) out (j:Int))) r:=by
  intro k j hj
  refine down ?_ fun i hi ih=>?_
  ·intro out r _ h
   rw[goes_jmp]
   have e:decide (((64:Nat):Int) < (64:Int))=false:=by decide
   simp only[T_bits_Set_List_t,goes_br,e,Bool.false_eq_true,if_false,wrap_succ (k:=j) (by omega)]
   simpa[wordList] using h
  ·intro out r hl h
   rw[goes_jmp]
   have e:decide ((i:Int) < (64:Int))=true:=decide_eq_true (by omega)
   have hw:=wrapU_small hi
   have e2:decide ((i:Int) < (0:Int))=false:=decide_eq_false (by omega)
   have hcons:wordList s.2 k i (64 - i)=(if bitE (wordAt s.2 k) (i:Nat) then [numE k (i:Nat)] else [])++wordList s.2 k (i+1) (64 - (i+1)):=by
    unfold wordList
    rw[show 64 - i=(64 - (i+1))+1 by omega,List.range'_succ,List.filter_cons]
    split <;> simp
   rw[hcons] at h
   have hb:((bitAnd IntKind.u64 (Int.fdiv (Option.getD (mget (kt:=(.int .i64)) k s.2) (0:Int)) (2 ^ (min (Int.toNat (IntKind.u64.wrap (i:Int))) (IntKind.u64).bits))) (1:Int))==(1:Int))=bitE (wordAt s.2 k) (i:Nat):=rfl
   unfold T_bits_Set_List_t
   rw[goes_br,if_pos e,goes_br,if_neg (by rw[hw,e2];decide),goes_br,hb,wrap_succ (k:=i) (by omega)]
   by_cases hbit:bitE (wordAt s.2 k) (i:Nat)=true
   ·rw[if_pos hbit]
    rw[if_pos hbit] at h
    rw[goes_br,if_pos (Nat.ble_eq_true_of_le (by omega))]
    refine ih (out++[numE k (i:Nat)]) r (by simp;omega) ?_
    simpa using h
   ·rw[if_neg hbit]
    rw[if_neg hbit,List.nil_append] at h
    exact ih out r (by omega) h
 have outer:∀j,j≤places.length→∀out:List Int,(out.length+(places.length - j)*64)*8≤limit→
   Goes (T_bits_Set_List_t s places) (.jmp (.l2 (Int.ofNat (List.length places)) places (j:Int) out)) (out++listAt s.2 (places.drop j),s):=by
  refine down ?_ fun j hj ih=>?_
  ·intro out _
   rw[goes_jmp]
   simp only[T_bits_Set_List_t,goes_br,lt_len_not (Nat.lt_irrefl _),List.drop_length,Bool.false_eq_true,if_false]
   rw[show out++listAt s.2 []=out by simp[listAt]]
   exact .leaf
  ·intro out hl
   rw[goes_jmp,drop_cons hj]
   simp only[T_bits_Set_List_t,goes_br,lt_len hj,nng,Bool.and_self,if_true,Int.toNat_natCast,getD_lt hj]
   have hwl:=wordList_length s.2 places[j] 0 64
   refine inner places[j] j hj 0 (by omega) out _ (by omega) ?_
   have:=ih (out++wordList s.2 places[j] 0 64) (by rw[List.length_append];omega)
   rw[show out++listAt s.2 (places[j] :: places.drop (j+1))=(out++wordList s.2 places[j] 0 64)++listAt s.2 (places.drop (j+1)) by simp only[listAt,List.flatMap_cons,List.append_assoc]]
   exact this
 have:=outer 0 (Nat.zero_le _) [] (by simp;omega)
 simpa[T0_bits_Set_List_t] using this
end Go.Ev
end

section
open Go Go.Ev
namespace Go.Ev
def renSort:Go.Shelf.Ren:=⟨fun n=>if n=189 then 74 else if n=125 then 104 else if n=257 then 103 else if n=128 then 130 else if n=129 then 131 else if n=294 then 122 else if n=295 then 123 else if n=296 then 124 else if n=297 then 125 else if n=298 then 126 else if n=299 then 127 else if n=216 then 81 else if n=300 then 128 else if n=301 then 129 else if n=328 then 140 else if n=329 then 141 else if n=330 then 142 else if n=331 then 143 else if n=332 then 144 else if n=215 then 114 else if n=343 then 153 else n,
 fun n=>if n=28 then 23 else if n=46 then 111 else if n=51 then 143 else if n=53 then 119 else if n=183 then 137 else if n=182 then 136 else if n=131 then 80 else if n=218 then 158 else if n=222 then 162 else if n=228 then 174 else if n=229 then 148 else n,
 fun n=>n⟩
theorem renSort_lays:Go.Proofs.Lays.n189 Go.Proofs.Tryz.prog renSort where
 mixed:=by kernel_rfl
 f125:=by kernel_rfl
 f128:=by kernel_rfl
 f129:=by kernel_rfl
 f189:=by kernel_rfl
 f215:=by kernel_rfl
 f216:=by kernel_rfl
 f257:=by kernel_rfl
 f294:=by kernel_rfl
 f295:=by kernel_rfl
 f296:=by kernel_rfl
 f297:=by kernel_rfl
 f298:=by kernel_rfl
 f299:=by kernel_rfl
 f300:=by kernel_rfl
 f301:=by kernel_rfl
 f328:=by kernel_rfl
 f329:=by kernel_rfl
 f330:=by kernel_rfl
 f331:=by kernel_rfl
 f332:=by kernel_rfl
 f343:=by kernel_rfl
 t0:=by kernel_rfl
 a0:=fun w=>by kernel_rfl
 z0:=fun w=>by kernel_rfl
 v0:=fun w=>by kernel_rfl
 t3:=by kernel_rfl
 a3:=fun w=>by kernel_rfl
 z3:=fun w=>by kernel_rfl
 v3:=fun w=>by kernel_rfl
 t4:=by kernel_rfl
 a4:=fun w=>by kernel_rfl
 z4:=fun w=>by kernel_rfl
 v4:=fun w=>by kernel_rfl
 t5:=by kernel_rfl
 a5:=fun w=>by kernel_rfl
 z5:=fun w=>by kernel_rfl
 v5:=fun w=>by kernel_rfl
 t9:=by kernel_rfl
 a9:=fun w=>by kernel_rfl
 z9:=fun w=>by kernel_rfl
 v9:=fun w=>by kernel_rfl
 t28:=by kernel_rfl
 a28:=fun w=>by kernel_rfl
 z28:=fun w=>by kernel_rfl
 v28:=fun w=>by kernel_rfl
 t46:=by kernel_rfl
 a46:=fun w=>by kernel_rfl
 z46:=fun w=>by kernel_rfl
 v46:=fun w=>by kernel_rfl
 t51:=by kernel_rfl
 a51:=fun w=>by kernel_rfl
 z51:=fun w=>by kernel_rfl
 v51:=fun w=>by kernel_rfl
 t53:=by kernel_rfl
 a53:=fun w=>by kernel_rfl
 z53:=fun w=>by kernel_rfl
 v53:=fun w=>by kernel_rfl
 t131:=by kernel_rfl
 a131:=fun w=>by kernel_rfl
 z131:=fun w=>by kernel_rfl
 v131:=fun w=>by kernel_rfl
 t182:=by kernel_rfl
 a182:=fun w=>by kernel_rfl
 z182:=fun w=>by kernel_rfl
 v182:=fun w=>by kernel_rfl
 t183:=by kernel_rfl
 a183:=fun w=>by kernel_rfl
 z183:=fun w=>by kernel_rfl
 v183:=fun w=>by kernel_rfl
 t218:=by kernel_rfl
 a218:=fun w=>by kernel_rfl
 z218:=fun w=>by kernel_rfl
 v218:=fun w=>by kernel_rfl
 t222:=by kernel_rfl
 a222:=fun w=>by kernel_rfl
 z222:=fun w=>by kernel_rfl
 v222:=fun w=>by kernel_rfl
 t228:=by kernel_rfl
 a228:=fun w=>by kernel_rfl
 z228:=fun w=>by kernel_rfl
 v228:=fun w=>by kernel_rfl
 t229:=by kernel_rfl
 a229:=fun w=>by kernel_rfl
 z229:=fun w=>by kernel_rfl
 v229:=fun w=>by kernel_rfl
theorem sortOK:SortOK Go.Proofs.Tryz.prog 74:=⟨fun blk off cap zs w h1 h2 h3=>Go.Proofs.Any.slices_Sort_int renSort_lays blk off cap zs w h1 h2 h3,fun p cap w=>Go.Proofs.Any.slices_Sort_int_none renSort_lays p cap w⟩
end Go.Ev
end

section
open Go Go.Ev
namespace Go.Ev
def sg_bits_Set_List:PSig:=[.obj 117 [(.d (.int .i64)),(.m (.int .i64) (.int .u64))]]
def v_bits_Set_List (s:Int×List (Int×Int)):(List Int)×Int×List (Int×Int):=(listS s,s)
def k_bits_Set_List (s:Int×List (Int×Int)):Bool:=Nat.ble (s.2.length*512) limit
def K_bits_Set_List:(List Int)×Int×List (Int×Int)→Ans:=K_bits_Set_List_t
section
abbrev SetL:=List (El (.int .i64)×El (.int .u64))
noncomputable def setListBody:Code:=Go.Proofs.Tryz.f80.body.getD .skip
noncomputable def setListR:Code:=fstC (sndC (sndC (sndC setListBody)))
noncomputable def setListX:RangeText:=rangeText (sndC setListR)
noncomputable def setListSort:Code:=fstC (sndC (sndC (sndC (sndC setListBody))))
def setLab1:Lab:=⟨[0,3,4],[]⟩
def setLab2:Lab:=⟨[0,3,4,15],[(4,46)]⟩
def setObs (s:Int×SetL) (ps:List (El (.int .i64))):List (Id×Nat×Obj):=[(1,0,.box 117 [.d (.int .i64) s.1,.mp 1026 0] (some 0)),(4,0,.row 3 (.int .i64) ps false),(1026,0,.gone (some 1000))]
def setK (s:Int×SetL) (v:Value) (ps:List (El (.int .i64))):St:=⟨mkTm 56 [(0,.pt 1 0 0),(3,.own 4 0 none),(4,.nil),(15,.cst v)],setObs s ps⟩
def setI (s:Int×SetL) (v:Value) (done:SetL):St:=setK s v (done.map Prod.fst)
def setT (s:Int×SetL) (v:Value) (done:SetL) (e:El (.int .i64)×El (.int .u64)):St:=((setI s v done).put (some 16) (.tu [mkB true,.d (.int .i64) e.1,.d (.int .u64) e.2])).put (some 17) (mkB true)
def setU (s:Int×SetL) (v:Value) (done:SetL) (e:El (.int .i64)×El (.int .u64)):St:=(((setT s v done e).put (some 18) (.tu [.d (.int .i64) e.1,.d (.int .u64) e.2])).put (some 19) (.d (.int .i64) e.1)).put (some 5) (.d (.int .i64) e.1)
def setE (s:Int×SetL) (v:Value) (done:SetL):St:=((setI s v done).put (some 16) (.tu [mkB false])).put (some 17) (mkB false)
def setA (s:Int×SetL):St:=⟨mkTm 56 [(0,.pt 1 0 0)],[(1,0,.box 117 [.d (.int .i64) s.1,.mp 1026 0] (some 0)),(1026,0,.map (.int .i64) (.int .u64) s.2)]⟩
def setC (s:Int×SetL):St:=⟨mkTm 56 [(0,.pt 1 0 0),(3,.nil),(4,.nil)],[(1,0,.box 117 [.d (.int .i64) s.1,.mp 1026 0] (some 0)),(1026,0,.map (.int .i64) (.int .u64) s.2)]⟩
def setM (s:Int×SetL):St:=((((setC s).put (some 11) (.pt 1 0 0)).put (some 12) (.pt 1 0 0)).put (some 13) (.pt 1 0 1)).put (some 14) (.mp 1026 0)
theorem setListX_ok:setListX.OK:=⟨by kernel_rfl,by kernel_rfl,by kernel_rfl,by kernel_rfl,by kernel_rfl,by kernel_rfl,by kernel_rfl,by kernel_rfl,by kernel_rfl⟩
theorem setList_round (s:Int×SetL) (v:Value) (done:SetL) (e:El (.int .i64)×El (.int .u64)) (L:Lt) (k:Kt) (x:Nat→Kt) (r:Kt):
  evC Go.Proofs.Tryz.prog (clOf []) [] L setListX.cr 0 (fun t=>k (norm Go.Proofs.Tryz.prog setLab2 t)) x r (setU s v done e)=bif Nat.ble (((done.map Prod.fst).length+1)*8) limit then k (setK s v (done.map Prod.fst++[e.1])) else none:=by kernel_rfl
theorem setList_ev (s:Int×SetL) (hk:k_bits_Set_List s=true):RangeEv Go.Proofs.Tryz.prog (clOf []) setListX s.2 setLab2 1026 1000 (setI s) (setE s) (setT s) (setU s) where
 it:=fun v done=>by kernel_rfl
 r1:=fun v done e k=>by kernel_rfl
 rt:=fun v done e=>by kernel_rfl
 re:=fun v done e=>by kernel_rfl
 r2:=fun v done e k=>by kernel_rfl
 r3:=fun v done e rest hp L k x r=>by
  have hl:=hp.length_eq
  simp only[List.length_append,List.length_cons] at hl
  have hlim:s.2.length*512≤limit:=Nat.le_of_ble_eq_true hk
  rw[setList_round,List.length_map,Nat.ble_eq_true_of_le (by omega),cond_true]
  unfold setI
  rw[List.map_append]
  rfl
 f1:=fun v done k=>by kernel_rfl
 ft:=fun v done=>by kernel_rfl
theorem setList_body:setListBody=.seq (fstC setListBody) (.seq (fstC (sndC setListBody)) (.seq (fstC (sndC (sndC setListBody))) (.seq (.seq (.region (ridC (fstC setListR)) (ropsC (fstC setListR)) false) setListX.code) (.seq (.region (ridC setListSort) (ropsC setListSort) false) c_bits_Set_List_t)))):=by kernel_rfl
theorem setList_a (s:Int×SetL) (L:Lt) (k:Kt) (x:Nat→Kt) (r:Kt):evC Go.Proofs.Tryz.prog (clOf []) [] L (fstC setListBody) 0 (fun t=>k (norm Go.Proofs.Tryz.prog setLab1 t)) x r (setA s)=k (setA s):=by kernel_rfl
theorem setList_b (s:Int×SetL) (L:Lt) (k:Kt) (x:Nat→Kt) (r:Kt):evC Go.Proofs.Tryz.prog (clOf []) [] L (fstC (sndC setListBody)) 0 (fun t=>k (norm Go.Proofs.Tryz.prog setLab1 t)) x r (setA s)=k (setA s):=by kernel_rfl
theorem setList_c (s:Int×SetL) (L:Lt) (k:Kt) (x:Nat→Kt) (r:Kt):evC Go.Proofs.Tryz.prog (clOf []) [] L (fstC (sndC (sndC setListBody))) 0 (fun t=>k (norm Go.Proofs.Tryz.prog setLab1 t)) x r (setA s)=k (setC s):=by kernel_rfl
def mapKV (P:Program) (T:TypeId):TypeId×TypeId:=match P.underlying T with | some (.map K V)=>(K,V) | _=>(0,0)
theorem callOK_bits_Set_List (s:Int×SetL) (hk:k_bits_Set_List s=true):CallOK Go.Proofs.Tryz.prog 80 (toPs sg_bits_Set_List (s,())) (K_bits_Set_List (v_bits_Set_List s)):=by
 obtain ⟨hcl,hdet⟩:=clOf_ok (P:=Go.Proofs.Tryz.prog) tbl_nil
 have hlim:s.2.length*512≤limit:=Nat.le_of_ble_eq_true hk
 refine callOK_of_wp (tb:=tb_bits_Set_List_t) (fn:=Go.Proofs.Tryz.f80) (c:=setListBody) (vs:=[.pt 1 0 0]) (st:=⟨[],[(1,0,.box 117 [.d (.int .i64) s.1,.mp 1026 0] (some 0)),(1026,0,.map (.int .i64) (.int .u64) s.2)]⟩) (by kernel_rfl) (by kernel_rfl) (by kernel_rfl) ?_
 intro _ Mod F0 w0 a w hr
 have hr:Rel Mod F0 w0 (setA s) a w:=hr
 rw[setList_body]
 refine wp_seq (piece hcl hdet (norm Go.Proofs.Tryz.prog setLab1) (fun h=>norm_rel h) (setList_a s) hr fun a w hr=>?_)
 refine wp_seq (piece hcl hdet (norm Go.Proofs.Tryz.prog setLab1) (fun h=>norm_rel h) (setList_b s) hr fun a w hr=>?_)
 refine wp_seq (piece hcl hdet (norm Go.Proofs.Tryz.prog setLab1) (fun h=>norm_rel h) (setList_c s) hr fun a w hr=>?_)
 refine wp_seq (wp_seq (wp_region ?_))
 rw[show List.range (ropsC (fstC setListR)).size=[0,1,2,3,4] from by kernel_rfl]
 refine evOp hcl (o:=opC (fstC setListR) 0) (st1:=(setC s).put (some 11) (.pt 1 0 0)) (by kernel_rfl) (by kernel_rfl) (fun k=>by kernel_rfl) hr fun a w hr=>?_
 refine evOp hcl (o:=opC (fstC setListR) 1) (st1:=((setC s).put (some 11) (.pt 1 0 0)).put (some 12) (.pt 1 0 0)) (by kernel_rfl) (by kernel_rfl) (fun k=>by kernel_rfl) hr fun a w hr=>?_
 refine evOp hcl (o:=opC (fstC setListR) 2) (st1:=(((setC s).put (some 11) (.pt 1 0 0)).put (some 12) (.pt 1 0 0)).put (some 13) (.pt 1 0 1)) (by kernel_rfl) (by kernel_rfl) (fun k=>by kernel_rfl) hr fun a w hr=>?_
 refine evOp hcl (o:=opC (fstC setListR) 3) (st1:=setM s) (by kernel_rfl) (by kernel_rfl) (fun k=>by kernel_rfl) hr fun a w hr=>?_
 refine handOp (o:=opC (fstC setListR) 4) (by kernel_rfl) (by kernel_rfl) ?_
 refine rangeLoop (tm:=14) (idm0:=1026) (ver0:=0) (T:=(match (opC (fstC setListR) 4).op with |.range T _=>T | _=>0)) (K:=(mapKV Go.Proofs.Tryz.prog (match (opC (fstC setListR) 4).op with |.range T _=>T | _=>0)).1) (V:=(mapKV Go.Proofs.Tryz.prog (match (opC (fstC setListR) 4).op with |.range T _=>T | _=>0)).2)
  hcl hdet setListX_ok rfl rfl (setList_ev s hk) (by kernel_rfl) (by kernel_rfl) (by kernel_rfl) (by kernel_rfl) (by kernel_rfl) (by kernel_rfl) (fun v=>by kernel_rfl) (fun v done=>by kernel_rfl) (fun v done=>by kernel_rfl) hr ?_
 intro v done a w hperm hr
 have hr:Rel Mod F0 w0 (S0_bits_Set_List_t s (done.map Prod.fst)) a w:=norm_rel (P:=Go.Proofs.Tryz.prog) (lab:=setLab1) hr
 refine wp_seq (wp_region ?_)
 rw[show List.range (ropsC setListSort).size=[0,1] from by kernel_rfl]
 refine evOp hcl (o:=opC setListSort 0) (st1:=(S0_bits_Set_List_t s (done.map Prod.fst)).put (some 24) (.own 4 0 none)) (by kernel_rfl) (by kernel_rfl) (fun k=>by kernel_rfl) hr fun a w hr=>?_
 refine handOp (o:=opC setListSort 1) (by kernel_rfl) (by kernel_rfl) ?_
 refine sortStep (ts:=24) (id:=4) (ver:=0) (E:=3) (l:=done.map Prod.fst) (c:=(match (opC setListSort 1).op with |.call c=>c | _=>default)) (fn:=Go.Proofs.Tryz.f74) (body:=Go.Proofs.Tryz.f74.body.getD .skip) (by kernel_rfl) (by kernel_rfl) (by kernel_rfl) (by kernel_rfl) (by kernel_rfl) (by kernel_rfl) (by kernel_rfl) (by kernel_rfl) sortOK (by
  rw[List.length_map,hperm.length_eq]
  unfold limit at hlim
  omega) hr fun a w hr=>?_
 have hr:Rel Mod F0 w0 (S0_bits_Set_List_t s (sorted (done.map Prod.fst))) a w:=norm_rel (P:=Go.Proofs.Tryz.prog) (lab:=setLab1) hr
 rw[sorted_perm (hperm.map Prod.fst)] at hr
 have hg:=g_bits_Set_List_t s (sorted (s.2.map Prod.fst)) (by rw[List.length_mergeSort,List.length_map];exact hk)
 exact tailStep hcl hdet (ps:=ps_bits_Set_List_t s (sorted (s.2.map Prod.fst))) rfl (by kernel_rfl) (en_bits_Set_List_t s _) (lp_bits_Set_List_t s _) hg hr
end
noncomputable def e_bits_Set_List:Run:=entO sg_bits_Set_List K_bits_Set_List (fun a=>k_bits_Set_List a.1) (fun a=>v_bits_Set_List a.1)
theorem ok_bits_Set_List:EntOK Go.Proofs.Tryz.prog 80 e_bits_Set_List:=entO_hand (noRun_ok (known_of (fn:=Go.Proofs.Tryz.f80) (c:=setListBody) (by kernel_rfl) (by kernel_rfl) (by kernel_rfl))) fun a h=>callOK_bits_Set_List a.1 h
end Go.Ev
end

section
open Go Go.Ev
namespace Go.Ev
noncomputable section
def sg_flow_From:Sig:=[(true,(.sl T_api_Ins)),(false,(.int .i64))]
noncomputable def t_flow_From:Tbl:=[(51,e_bits_New),(78,e_flow_Next),(53,e_bits_Set_Put),(80,e_bits_Set_List)]
theorem tk_flow_From:∀p∈t_flow_From,EntOK Go.Proofs.Tryz.prog p.1 p.2:=tbl_cons ok_bits_New (tbl_cons ok_flow_Next (tbl_cons ok_bits_Set_Put (tbl_cons ok_bits_Set_List (tbl_nil))))
noncomputable def c_flow_From:Code:=Go.Proofs.Tryz.f52.body.getD .skip
def tb_flow_From:Tb:=[(4,⟨[2,5,6],[(1000000000000000000000000000000000000000000000000000000000007,1)]⟩)]
inductive J_flow_From where | l4 (len:Nat) (seen:Int) (open_:List Int) (seen1:List (Int×Int))
def T_flow_From (t:List (El T_api_Ins)) (i:Int):J_flow_From→JT J_flow_From (List Int) |.l4 len seen open_ seen1=>.br (decide ((Int.ofNat len) > (0:Int))) (.br ((decide ((0:Int)≤(IntKind.i64.wrap ((Int.ofNat len) - (1:Int)))))&&(decide ((IntKind.i64.wrap ((Int.ofNat len) - (1:Int))) < (Int.ofNat len)))) (.br ((decide ((0:Int)≤(IntKind.i64.wrap ((Int.ofNat len) - (1:Int)))))&&(decide ((IntKind.i64.wrap ((Int.ofNat len) - (1:Int)))≤(Int.ofNat len)))) (.br (v_bits_Set_Put (seen,seen1) (List.getD open_ (Int.toNat (IntKind.i64.wrap ((Int.ofNat len) - (1:Int)))) (dflt (.int .i64)))).1 (.br (k_flow_Next t (List.getD open_ (Int.toNat (IntKind.i64.wrap ((Int.ofNat len) - (1:Int)))) (dflt (.int .i64)))) (.br (Nat.ble (((List.length (List.take (Int.toNat (IntKind.i64.wrap ((Int.ofNat len) - (1:Int)))) open_))+(List.length (v_flow_Next t (List.getD open_ (Int.toNat (IntKind.i64.wrap ((Int.ofNat len) - (1:Int)))) (dflt (.int .i64))))))*8) limit) (.jmp (.l4 (List.length ((List.take (Int.toNat (IntKind.i64.wrap ((Int.ofNat len) - (1:Int)))) open_)++(v_flow_Next t (List.getD open_ (Int.toNat (IntKind.i64.wrap ((Int.ofNat len) - (1:Int)))) (dflt (.int .i64)))))) (v_bits_Set_Put (seen,seen1) (List.getD open_ (Int.toNat (IntKind.i64.wrap ((Int.ofNat len) - (1:Int)))) (dflt (.int .i64)))).2.1 ((List.take (Int.toNat (IntKind.i64.wrap ((Int.ofNat len) - (1:Int)))) open_)++(v_flow_Next t (List.getD open_ (Int.toNat (IntKind.i64.wrap ((Int.ofNat len) - (1:Int)))) (dflt (.int .i64))))) (v_bits_Set_Put (seen,seen1) (List.getD open_ (Int.toNat (IntKind.i64.wrap ((Int.ofNat len) - (1:Int)))) (dflt (.int .i64)))).2.2)) (.no)) (.no)) (.jmp (.l4 (Int.toNat (IntKind.i64.wrap ((Int.ofNat len) - (1:Int)))) (v_bits_Set_Put (seen,seen1) (List.getD open_ (Int.toNat (IntKind.i64.wrap ((Int.ofNat len) - (1:Int)))) (dflt (.int .i64)))).2.1 open_ (v_bits_Set_Put (seen,seen1) (List.getD open_ (Int.toNat (IntKind.i64.wrap ((Int.ofNat len) - (1:Int)))) (dflt (.int .i64)))).2.2))) (.no)) (.no)) (.br (k_bits_Set_List (seen,seen1)) (.leaf (v_bits_Set_List (seen,seen1)).1) (.no))
def T0_flow_From (t:List (El T_api_Ins)) (i:Int):JT J_flow_From (List Int):=.br (k_flow_Next t i) (.jmp (.l4 (List.length (v_flow_Next t i)) (v_bits_New (Int.ofNat (List.length t))).1 (v_flow_Next t i) (v_bits_New (Int.ofNat (List.length t))).2)) (.no)
def R_flow_From:List Int→AV:=fun (r:List Int)=>.rw 3 (.int .i64) r
def S_flow_From (t:List (El T_api_Ins)) (i:Int):J_flow_From→Nat×St |.l4 len seen open_ seen1=>(4,⟨mkTm 39 [(2,.pt 3 0 0),(5,.pt 6 0 0),(6,.own 7 0 (some len))],[(3,0,.box 33 [.d (.sl T_api_Ins) t] none),(6,0,.box 117 [.d (.int .i64) seen,.mp 6146 0] none),(7,0,.row 3 (.int .i64) open_ false),(6146,0,.map (.int .i64) (.int .u64) seen1)]⟩)
theorem en_flow_From (t:List (El T_api_Ins)) (i:Int) (L:Lt):entryA Go.Proofs.Tryz.prog (clOf t_flow_From) tb_flow_From Go.Proofs.Tryz.f52 c_flow_From L (toForms sg_flow_From (t,i,()))=(T0_flow_From t i).run (fun v=>some (R_flow_From v,tps (toForms sg_flow_From (t,i,())))) fun j=>L (S_flow_From t i j).1 (S_flow_From t i j).2:=by kernel_rfl
theorem lp_flow_From (t:List (El T_api_Ins)) (i:Int):∀(L:Lt) (j:J_flow_From),procOf (procsF Go.Proofs.Tryz.prog (clOf t_flow_From) tb_flow_From Go.Proofs.Tryz.f52 c_flow_From (toForms sg_flow_From (t,i,()))) (S_flow_From t i j).1 L (S_flow_From t i j).2=(T_flow_From t i j).run (fun v=>some (R_flow_From v,tps (toForms sg_flow_From (t,i,())))) fun j=>L (S_flow_From t i j).1 (S_flow_From t i j).2 | L,.l4 len seen open_ seen1=>by kernel_rfl
end
end Go.Ev
end

section
open Go
namespace Go.Ev
noncomputable def v_flow_From (t:List (El T_api_Ins)) (i:Int):List Int:=listOf t.length (fromB t i)
def k_flow_From (t:List (El T_api_Ins)) (i:Int):Bool:=flowOK t
theorem next_short (t:List (El T_api_Ins)) (i:Int):(v_flow_Next t i).length≤3:=by
 unfold v_flow_Next
 by_cases h:0≤i∧i < (t.length:Int)
 ·obtain ⟨j,rfl⟩:=Int.eq_ofNat_of_zero_le h.1
  rw[←nextL_eq (by omega)]
  unfold nextL
  simp only[List.length_append]
  split <;> split <;> split <;> simp
 ·rw[nextB_out h];simp
theorem take_pred {l:List Int} {n:Nat} (h:n+1≤l.length):l.take (n+1)=l.take n++[l.getD n 0]:=by
 have hn:n < l.length:=by omega
 rw[List.take_succ_eq_append_getElem hn,getD_lt hn]
theorem g_flow_From (t:List (El T_api_Ins)) (i:Int) (hk:k_flow_From t i=true):Goes (T_flow_From t i) (T0_flow_From t i) (v_flow_From t i):=by
 have hlen:=flowOK_len hk
 generalize hn:t.length=n at hlen
 have loop:∀m,∀(M:Nat→Bool) (s:Int×List (Int×Int)) (open_:List Int) (len:Nat),len≤open_.length→4*(n - card n M)+len=m→SetOK s n M→(∀j,M j=true→Come (fun k j=>nextB t (k:Int) j) (nextB t i) j)→
   (∀x∈open_.take len,∃j:Nat,x=(j:Int)∧Come (fun k j=>nextB t (k:Int) j) (nextB t i) j)→(∀j,nextB t i j=true→M j=true∨(j:Int)∈open_.take len)→(∀k j,M k=true→nextB t (k:Int) j=true→M j=true∨(j:Int)∈open_.take len)→
   len≤3*(card n M+1)→Goes (T_flow_From t i) (.jmp (.l4 len s.1 open_ s.2)) (v_flow_From t i):=by
  intro m
  induction m using Nat.strongRecOn with
  | _ m ih=>
  intro M s open_ len hl hm hs h1 h2 h3 h4 h5
  cases len with
  | zero=>
   rw[goes_jmp,T_flow_From,goes_br,if_neg (by decide)]
   have hkl:k_bits_Set_List (s.1,s.2)=true:=Nat.ble_eq_true_of_le (by have:=hs.few;unfold limit;show s.2.length*512≤_;omega)
   rw[goes_br,if_pos hkl]
   have hv:(v_bits_Set_List (s.1,s.2)).1=v_flow_From t i:=by
    show listS s=_
    rw[hs.list (by omega)]
    unfold v_flow_From fromB
    rw[hn]
    refine listOf_congr fun j _=>comeB_eq (fun j hj=>?_) (fun k j hk hj=>?_) h1 j
    ·simpa using h3 j hj
    ·simpa using h4 k j hk hj
   rw[hv];exact .leaf
  | succ len=>
   have hc:= @card_le n M
   have e:IntKind.i64.wrap (Int.ofNat (len+1) - 1)=(len:Int):=by
    rw[wrap_i64 (by simp <;> omega) (by simp <;> omega)];simp
   have g1:decide (Int.ofNat (len+1) > (0:Int))=true:=decide_eq_true (by simp <;> omega)
   have g2:(decide ((0:Int)≤(len:Int))&&decide ((len:Int) < Int.ofNat (len+1)))=true:=bound_len (by omega)
   have g3:(decide ((0:Int)≤(len:Int))&&decide ((len:Int)≤Int.ofNat (len+1)))=true:=by simp;omega
   rw[goes_jmp,T_flow_From,e,goes_br,if_pos g1,goes_br,if_pos g2,goes_br,if_pos g3,goes_br,Int.toNat_natCast]
   have htk:=take_pred hl
   obtain ⟨j,hj,hcj⟩:=h2 (open_.getD len 0) (by rw[htk];simp)
   have hjn:j < n:=by
    have:=come_lt (n:=t.length) (fun j=>nextB_lt) (fun k j=>nextB_lt) hcj
    omega
   have hd:open_.getD len (dflt (.int .i64))=(j:Int):=hj
   rw[hd]
   have hput:v_bits_Set_Put (s.1,s.2) (j:Int)=putS s (j:Int):=rfl
   rw[hput]
   have sub:∀x,x∈open_.take len→x∈open_.take (len+1):=fun x hx=>by rw[htk];simp[hx]
   cases hMj:M j with
   | true=>
    have hno:=hs.put_no (by omega) (i:=(j:Int)) (fun h=>by rw[Int.toNat_natCast,hMj] at h;cases h.2.2)
    rw[hno,if_neg (by simp)]
    have lose:∀k:Nat,(M k=true∨(k:Int)∈open_.take (len+1))→(M k=true∨(k:Int)∈open_.take len):=fun k h=>by
     rcases h with h | h
     ·exact .inl h
     ·rw[htk,List.mem_append] at h
      rcases h with h | h
      ·exact .inr h
      ·simp only[List.mem_singleton] at h
       rw[hj] at h
       have:k=j:=by omega
       subst this
       exact .inl hMj
    exact ih (m - 1) (by omega) M s open_ len (by omega) (by omega) hs h1 (fun x hx=>h2 x (sub x hx)) (fun k hk=>lose k (h3 k hk)) (fun k k' hk hk'=>lose k' (h4 k k' hk hk')) (by omega)
   | false=>
    obtain ⟨p1,p2⟩:=hs.put (by omega) hjn hMj
    have hsh:=next_short t (j:Int)
    have hkn:k_flow_Next t (j:Int)=true:=hk
    rw[p1,if_pos rfl,goes_br,if_pos hkn,goes_br,if_pos (Nat.ble_eq_true_of_le (by
     rw[List.length_take];unfold limit;omega))]
    have hcard:=card_add hMj hjn
    have hcl2:= @card_le n (fun k=>M k || (k==j))
    have hnl:∀k:Nat,nextB t (j:Int) k=true→(k:Int)∈v_flow_Next t (j:Int):=fun k hk=>listOf_mem.2 ⟨k,nextB_lt hk,hk,rfl⟩
    have htake:(open_.take len++v_flow_Next t (j:Int)).take (open_.take len++v_flow_Next t (j:Int)).length=open_.take len++v_flow_Next t (j:Int):=List.take_length
    have hlen2:(open_.take len++v_flow_Next t (j:Int)).length≤len+3:=by rw[List.length_append,List.length_take];omega
    have keep:∀k:Nat,(M k=true∨(k:Int)∈open_.take (len+1))→((M k || (k==j))=true∨(k:Int)∈open_.take len++v_flow_Next t (j:Int)):=fun k h=>by
     rcases h with h | h
     ·exact .inl (by rw[h];rfl)
     ·rw[htk,List.mem_append] at h
      rcases h with h | h
      ·exact .inr (List.mem_append_left _ h)
      ·simp only[List.mem_singleton] at h
       rw[hj] at h
       have:k=j:=by omega
       subst this
       exact .inl (by simp)
    refine ih _ (by omega) (fun k=>M k || (k==j)) (putS s (j:Int)).2 (open_.take len++v_flow_Next t (j:Int)) (open_.take len++v_flow_Next t (j:Int)).length (Nat.le_refl _) rfl p2 (fun k hk=>?_) (fun x hx=>?_) (fun k hk=>?_) (fun k k' hk hk'=>?_) (by omega)
    ·simp only[Bool.or_eq_true,beq_iff_eq] at hk
     rcases hk with hk | hk
     ·exact h1 k hk
     ·subst hk;exact hcj
    ·rw[htake,List.mem_append] at hx
     rcases hx with hx | hx
     ·exact h2 x (sub x hx)
     ·obtain ⟨k,_,hk,rfl⟩:=listOf_mem.1 hx
      exact ⟨k,rfl,.step hcj hk⟩
    ·rw[htake];exact keep k (h3 k hk)
    ·rw[htake]
     simp only[Bool.or_eq_true,beq_iff_eq] at hk
     rcases hk with hk | hk
     ·exact keep k' (h4 k k' hk hk')
     ·subst hk
      exact .inr (List.mem_append_right _ (hnl k' hk'))
 have hkn:k_flow_Next t i=true:=hk
 unfold T0_flow_From
 rw[goes_br,if_pos hkn]
 have hnew:v_bits_New (Int.ofNat (List.length t))=((n:Int),[]):=by
  rw[hn]
  unfold v_bits_New
  simp
  omega
 rw[hnew]
 refine loop _ (fun _=>false) ((n:Int),[]) (v_flow_Next t i) _ (Nat.le_refl _) rfl (SetOK.new n) (fun j h=>by cases h) (fun x hx=>?_) (fun j hj=>.inr ?_) (fun k j h=>by cases h) (by have:=next_short t i;omega)
 ·rw[List.take_length] at hx
  obtain ⟨k,_,hk,rfl⟩:=listOf_mem.1 hx
  exact ⟨k,rfl,.start hk⟩
 ·rw[List.take_length];exact listOf_mem.2 ⟨j,nextB_lt hj,hj,rfl⟩
end Go.Ev
end

section
open Go Go.Ev
namespace Go.Ev
noncomputable section
noncomputable def e_flow_From:Run:=entG sg_flow_From R_flow_From (fun a=>k_flow_From a.1 a.2.1) (fun a=>v_flow_From a.1 a.2.1)
theorem ok_flow_From:EntOK Go.Proofs.Tryz.prog 52 e_flow_From:=entG_ok (tb:=tb_flow_From) (c:=c_flow_From) tk_flow_From (by kernel_rfl) (by kernel_rfl) (by kernel_rfl) (fun a=>by kernel_rfl) fun ⟨t,i,_⟩ hk=>evF_goes (c:=c_flow_From) (K:=fun v=>(R_flow_From v,tps (toForms sg_flow_From (t,i,())))) (S:=S_flow_From t i) (by kernel_rfl) (en_flow_From t i) (lp_flow_From t i) (g_flow_From t i hk)
end
end Go.Ev
end

section
open Go Go.Ev
namespace Go.Ev
noncomputable section
def sg_clash_Back_1:PSig:=[.dat false (.int .i64),.obj 82 [(.d (.sl T_api_Access))],.obj 3 [(.d (.int .i64))],.ptr 86 117 [(.d (.int .i64)),(.m (.int .i64) (.int .u64))],.obj 23 [(.w 3 (.int .i64))],.obj 3 [(.d (.int .i64))],.ptr 86 117 [(.d (.int .i64)),(.m (.int .i64) (.int .u64))]]
noncomputable def t_clash_Back_1:Tbl:=[(88,e_clash_clash),(53,e_bits_Set_Put)]
theorem tk_clash_Back_1:∀p∈t_clash_Back_1,EntOK Go.Proofs.Tryz.prog p.1 p.2:=tbl_cons ok_clash_clash (tbl_cons ok_bits_Set_Put (tbl_nil))
noncomputable def c_clash_Back_1:Code:=Go.Proofs.Tryz.f87.body.getD .skip
def tb_clash_Back_1:Tb:=[(1,⟨[0,1,2,3,4,5,6,10,11,12],[]⟩)]
inductive J_clash_Back_1 where | l1 (h:Int) (h1:Int) (h2:List Int) (h3:List (Int×Int)) (h4:Int) (h5:List (Int×Int))
def T_clash_Back_1 (x:Int) (l:List (El T_api_Access)) (own:Int) (come:Int×List (Int×Int)) (open_:List Int) (a:Int) (back:Int×List (Int×Int)):J_clash_Back_1→JT J_clash_Back_1 ((List (El T_api_Access))×Int×(Int×List (Int×Int))×(List Int)×Int×Int×List (Int×Int)) |.l1 h h1 h2 h3 h4 h5=>.br (decide (h < (Int.ofNat (List.length l)))) (.br ((decide ((0:Int)≤h))&&(decide (h < (Int.ofNat (List.length l))))) (.br ((decide ((0:Int)≤x))&&(decide (x < (Int.ofNat (List.length l))))) (.br (! (v_clash_clash (List.getD l (Int.toNat x) (dflt T_api_Access)) (List.getD l (Int.toNat h) (dflt T_api_Access)))) (.jmp (.l1 (IntKind.i64.wrap (h+(1:Int))) h1 h2 h3 h4 h5)) (.br ((List.getD l (Int.toNat h) (dflt T_api_Access)).1 !=own) (.br (v_bits_Set_Put (h1,h3) h).1 (.br (Nat.ble (((List.length h2)+1)*8) limit) (.jmp (.l1 (IntKind.i64.wrap (h+(1:Int))) (v_bits_Set_Put (h1,h3) h).2.1 (h2++[h]) (v_bits_Set_Put (h1,h3) h).2.2 h4 h5)) (.no)) (.jmp (.l1 (IntKind.i64.wrap (h+(1:Int))) (v_bits_Set_Put (h1,h3) h).2.1 h2 (v_bits_Set_Put (h1,h3) h).2.2 h4 h5))) (.br (x !=a) (.jmp (.l1 (IntKind.i64.wrap (h+(1:Int))) h1 h2 h3 (v_bits_Set_Put (h4,h5) h).2.1 (v_bits_Set_Put (h4,h5) h).2.2)) (.jmp (.l1 (IntKind.i64.wrap (h+(1:Int))) h1 h2 h3 h4 h5))))) (.no)) (.no)) (.leaf (l,(own,((h1,h3),(h2,(a,(h4,h5)))))))
def T0_clash_Back_1 (x:Int) (l:List (El T_api_Access)) (own:Int) (come:Int×List (Int×Int)) (open_:List Int) (a:Int) (back:Int×List (Int×Int)):JT J_clash_Back_1 ((List (El T_api_Access))×Int×(Int×List (Int×Int))×(List Int)×Int×Int×List (Int×Int)):=.jmp (.l1 (0:Int) come.1 open_ come.2 back.1 back.2)
def K_clash_Back_1:(List (El T_api_Access))×Int×(Int×List (Int×Int))×(List Int)×Int×Int×List (Int×Int)→Ans:=fun (r:(List (El T_api_Access))×Int×(Int×List (Int×Int))×(List Int)×Int×Int×List (Int×Int))=>(.tu [],[.top,.bx 82 [.d (.sl T_api_Access) r.1],.bx 3 [.d (.int .i64) r.2.1],.bx 86 [.bx 117 [.d (.int .i64) r.2.2.1.1,.mv (.int .i64) (.int .u64) r.2.2.1.2]],.bx 23 [.rw 3 (.int .i64) r.2.2.2.1],.bx 3 [.d (.int .i64) r.2.2.2.2.1],.bx 86 [.bx 117 [.d (.int .i64) r.2.2.2.2.2.1,.mv (.int .i64) (.int .u64) r.2.2.2.2.2.2]]])
def S_clash_Back_1 (x:Int) (l:List (El T_api_Access)) (own:Int) (come:Int×List (Int×Int)) (open_:List Int) (a:Int) (back:Int×List (Int×Int)):J_clash_Back_1→Nat×St |.l1 h h1 h2 h3 h4 h5=>(1,⟨mkTm 42 [(0,.d (.int .i64) x),(1,.pt 2 0 0),(2,.pt 3 0 0),(3,.pt 4 0 0),(4,.pt 5 0 0),(5,.pt 6 0 0),(6,.pt 7 0 0),(10,.d (.sl T_api_Access) l),(11,.d (.int .i64) (Int.ofNat (List.length l))),(12,.d (.int .i64) h)],[(2,0,.box 82 [.d (.sl T_api_Access) l] (some 1)),(3,0,.box 3 [.d (.int .i64) own] (some 2)),(4,0,.box 86 [.pt 4097 0 0] (some 3)),(5,0,.box 23 [.own 5121 0 none] (some 4)),(6,0,.box 3 [.d (.int .i64) a] (some 5)),(7,0,.box 86 [.pt 7169 0 0] (some 6)),(4097,0,.box 117 [.d (.int .i64) h1,.mp 4195330 0] none),(5121,0,.row 3 (.int .i64) h2 false),(7169,0,.box 117 [.d (.int .i64) h4,.mp 7341058 0] none),(4195330,0,.map (.int .i64) (.int .u64) h3),(7341058,0,.map (.int .i64) (.int .u64) h5)]⟩)
theorem en_clash_Back_1 (x:Int) (l:List (El T_api_Access)) (own:Int) (come:Int×List (Int×Int)) (open_:List Int) (a:Int) (back:Int×List (Int×Int)) (L:Lt):entryA Go.Proofs.Tryz.prog (clOf t_clash_Back_1) tb_clash_Back_1 Go.Proofs.Tryz.f87 c_clash_Back_1 L (toPs sg_clash_Back_1 (x,l,own,come,open_,a,back,()))=(T0_clash_Back_1 x l own come open_ a back).run (fun v=>some (K_clash_Back_1 v)) fun j=>L (S_clash_Back_1 x l own come open_ a back j).1 (S_clash_Back_1 x l own come open_ a back j).2:=by kernel_rfl
theorem lp_clash_Back_1 (x:Int) (l:List (El T_api_Access)) (own:Int) (come:Int×List (Int×Int)) (open_:List Int) (a:Int) (back:Int×List (Int×Int)):∀(L:Lt) (j:J_clash_Back_1),procOf (procsF Go.Proofs.Tryz.prog (clOf t_clash_Back_1) tb_clash_Back_1 Go.Proofs.Tryz.f87 c_clash_Back_1 (toPs sg_clash_Back_1 (x,l,own,come,open_,a,back,()))) (S_clash_Back_1 x l own come open_ a back j).1 L (S_clash_Back_1 x l own come open_ a back j).2=(T_clash_Back_1 x l own come open_ a back j).run (fun v=>some (K_clash_Back_1 v)) fun j=>L (S_clash_Back_1 x l own come open_ a back j).1 (S_clash_Back_1 x l own come open_ a back j).2 | L,.l1 h h1 h2 h3 h4 h5=>by kernel_rfl
end
end Go.Ev
end

section
open Go
namespace Go.Ev
abbrev SetT:=Int×List (Int×Int)
def meet1 (l : List Acc) (x own a : Int) (h : Nat) (s : SetT × List Int × SetT) : SetT × List Int × SetT :=
  if clB l x.toNat h = true then
    (if thA l h ≠ own then ((putS s.1 (h : Int)).2, (if (putS s.1 (h : Int)).1 = true then s.2.1 ++ [(h : Int)] else s.2.1), s.2.2)
     else if x ≠ a then (s.1, s.2.1, (putS s.2.2 (h : Int)).2) else s)
  else s
def meetF (l:List Acc) (x own a:Int):List Nat→SetT×List Int×SetT→SetT×List Int×SetT
 | [],s=>s
 | h :: r,s=>meetF l x own a r (meet1 l x own a h s)
def v_clash_Back_1 (x:Int) (l:List (El T_api_Access)) (own:Int) (come:SetT) (open_:List Int) (a:Int) (back:SetT):(List (El T_api_Access))×Int×SetT×(List Int)×Int×SetT:=
 (l,own,(meetF l x own a (List.range' 0 l.length) (come,open_,back)).1,(meetF l x own a (List.range' 0 l.length) (come,open_,back)).2.1,a,(meetF l x own a (List.range' 0 l.length) (come,open_,back)).2.2)
def k_clash_Back_1 (x:Int) (l:List (El T_api_Access)) (own:Int) (come:SetT) (open_:List Int) (a:Int) (back:SetT):Bool:=decide (0≤x∧x < (l.length:Int)∧l.length < 1099511627776∧open_.length < 1099511627776)
theorem g_clash_Back_1 (x:Int) (l:List (El T_api_Access)) (own:Int) (come:SetT) (open_:List Int) (a:Int) (back:SetT) (hk:k_clash_Back_1 x l own come open_ a back=true):Goes (T_clash_Back_1 x l own come open_ a back) (T0_clash_Back_1 x l own come open_ a back) (v_clash_Back_1 x l own come open_ a back):=by
 obtain ⟨x0,x1,hN,hO⟩:=of_decide_eq_true hk
 obtain ⟨T,hT⟩:∃T,T=T_clash_Back_1 x l own come open_ a back:=⟨_,rfl⟩
 rw[←hT]
 have loop:∀h,h≤l.length→∀s:SetT×List Int×SetT,s.2.1.length≤open_.length+h→Goes T (.jmp (.l1 (h:Int) s.1.1 s.2.1 s.1.2 s.2.2.1 s.2.2.2)) (l,own,(meetF l x own a (List.range' h (l.length - h)) s).1,(meetF l x own a (List.range' h (l.length - h)) s).2.1,a,(meetF l x own a (List.range' h (l.length - h)) s).2.2):=by
  refine down ?_ fun h hh ih=>?_
  ·intro s hs
   rw[goes_jmp,hT,T_clash_Back_1,←hT,goes_br,if_neg (by rw[lt_len_not (Nat.lt_irrefl _)];decide),Nat.sub_self]
   exact .leaf
  ·intro s hs
   have hx1:decide ((0:Int)≤x)=true:=decide_eq_true x0
   have hx2:decide (x < Int.ofNat l.length)=true:=decide_eq_true x1
   rw[show l.length - h=(l.length - (h+1))+1 by omega,List.range'_succ,meetF]
   have ec:v_clash_clash (List.getD l x.toNat (dflt T_api_Access)) (List.getD l h (dflt T_api_Access))=clB l x.toNat h:=rfl
   have et:(List.getD l h (dflt T_api_Access)).1=thA l h:=rfl
   have hp:v_bits_Set_Put (s.1.1,s.1.2) (h:Int)=putS s.1 (h:Int):=rfl
   have hp2:v_bits_Set_Put (s.2.2.1,s.2.2.2) (h:Int)=putS s.2.2 (h:Int):=rfl
   have b1:Nat.ble ((s.2.1.length+1)*8) limit=true:=Nat.ble_eq_true_of_le (by unfold limit;omega)
   have key:=ih (meet1 l x own a h s)
   rw[goes_jmp,hT,T_clash_Back_1,←hT]
   simp only[goes_br,lt_len hh,nng,hx1,hx2,Bool.and_self,if_true,Int.toNat_natCast,ec,et,hp,hp2,b1,wrap_succ (k:=h) (by omega)]
   by_cases c1:clB l x.toNat h=true
   ·rw[if_neg (by rw[c1];decide)]
    by_cases c2:thA l h=own
    ·rw[if_neg (by simp[c2])]
     by_cases c3:x=a
     ·have hm:meet1 l x own a h s=s:=by unfold meet1;rw[if_pos c1,if_neg (by simp[c2]),if_neg (by simp[c3])]
      rw[hm] at key ⊢
      rw[if_neg (by simp[c3])]
      exact key (by omega)
     ·have hm:meet1 l x own a h s=(s.1,s.2.1,(putS s.2.2 (h:Int)).2):=by unfold meet1;rw[if_pos c1,if_neg (by simp[c2]),if_pos c3]
      rw[hm] at key ⊢
      rw[if_pos (by simpa using c3)]
      exact key (by show s.2.1.length≤_;omega)
    ·rw[if_pos (by simpa using c2)]
     by_cases c4:(putS s.1 (h:Int)).1=true
     ·have hm:meet1 l x own a h s=((putS s.1 (h:Int)).2,s.2.1++[(h:Int)],s.2.2):=by unfold meet1;rw[if_pos c1,if_pos c2,if_pos c4]
      rw[hm] at key ⊢
      rw[if_pos c4]
      exact key (by show (s.2.1++[(h:Int)]).length≤_;simp;omega)
     ·have hm:meet1 l x own a h s=((putS s.1 (h:Int)).2,s.2.1,s.2.2):=by unfold meet1;rw[if_pos c1,if_pos c2,if_neg c4]
      rw[hm] at key ⊢
      rw[if_neg c4]
      exact key (by show s.2.1.length≤_;omega)
   ·have hm:meet1 l x own a h s=s:=by unfold meet1;rw[if_neg c1]
    rw[hm] at key ⊢
    rw[if_pos (by simpa using c1)]
    exact key (by omega)
 exact loop 0 (Nat.zero_le _) (come,open_,back) (by simp)
end Go.Ev
end

section
open Go Go.Ev
namespace Go.Ev
noncomputable section
noncomputable def e_clash_Back_1:Run:=entO sg_clash_Back_1 K_clash_Back_1 (fun a=>k_clash_Back_1 a.1 a.2.1 a.2.2.1 a.2.2.2.1 a.2.2.2.2.1 a.2.2.2.2.2.1 a.2.2.2.2.2.2.1) (fun a=>v_clash_Back_1 a.1 a.2.1 a.2.2.1 a.2.2.2.1 a.2.2.2.2.1 a.2.2.2.2.2.1 a.2.2.2.2.2.2.1)
theorem ok_clash_Back_1:EntOK Go.Proofs.Tryz.prog 87 e_clash_Back_1:=entO_ok (tb:=tb_clash_Back_1) (c:=c_clash_Back_1) (noRun_ok (known_of (fn:=Go.Proofs.Tryz.f87) (c:=c_clash_Back_1) (by kernel_rfl) (by kernel_rfl) (by kernel_rfl))) tk_clash_Back_1 (by kernel_rfl) (by kernel_rfl) (fun a=>by kernel_rfl) fun ⟨x,l,own,come,open_,a,back,_⟩ hk=>evF_goes (c:=c_clash_Back_1) (K:=K_clash_Back_1) (S:=S_clash_Back_1 x l own come open_ a back) (by kernel_rfl) (en_clash_Back_1 x l own come open_ a back) (lp_clash_Back_1 x l own come open_ a back) (g_clash_Back_1 x l own come open_ a back hk)
end
end Go.Ev
end

section
open Go Go.Ev
namespace Go.Ev
noncomputable section
def sg_clash_behind:Sig:=[(true,T_api_Prog),(false,(.sl T_api_Access)),(false,(.int .i64))]
noncomputable def t_clash_behind:Tbl:=[(51,e_bits_New),(52,e_flow_From),(53,e_bits_Set_Put),(54,e_bits_Set_Has)]
theorem tk_clash_behind:∀p∈t_clash_behind,EntOK Go.Proofs.Tryz.prog p.1 p.2:=tbl_cons ok_bits_New (tbl_cons ok_flow_From (tbl_cons ok_bits_Set_Put (tbl_cons ok_bits_Set_Has (tbl_nil))))
noncomputable def c_clash_behind:Code:=Go.Proofs.Tryz.f89.body.getD .skip
def tb_clash_behind:Tb:=[(6,⟨[1,2,7,9,32,33,34,58,64,69,70,72,76],[]⟩),(14,⟨[2,7,9,12,42,43,44],[(13,46)]⟩)]
inductive J_clash_behind where | l6 (h:Int) (x:Int) (x1:Int) (x2:Int) (x3:Int) (x4:Bool) (x5:Bool) (from_:Int) (h1:List Int) (from_1:List (Int×Int)) (h2:Int) | l14 (x:Int) (x1:Int) (x2:Int) (x3:Int) (x4:Bool) (x5:Bool) (from_:Int) (from_1:List (Int×Int)) (h:Int) (out:List Int)
def T_clash_behind (p:El T_api_Prog) (l:List (El T_api_Access)) (c:Int):J_clash_behind→JT J_clash_behind (List Int) |.l6 h x x1 x2 x3 x4 x5 from_ h1 from_1 h2=>.br (decide (h2 < h)) (.br ((decide ((0:Int)≤h2))&&(decide (h2 < (Int.ofNat (List.length h1))))) (.jmp (.l6 h x x1 x2 x3 x4 x5 (v_bits_Set_Put (from_,from_1) (List.getD h1 (Int.toNat h2) (dflt (.int .i64)))).2.1 h1 (v_bits_Set_Put (from_,from_1) (List.getD h1 (Int.toNat h2) (dflt (.int .i64)))).2.2 (IntKind.i64.wrap (h2+(1:Int))))) (.no)) (.jmp (.l14 x x1 x2 x3 x4 x5 from_ from_1 (0:Int) [])) |.l14 x x1 x2 x3 x4 x5 from_ from_1 h out=>.br (decide (h < (Int.ofNat (List.length l)))) (.br ((decide ((0:Int)≤h))&&(decide (h < (Int.ofNat (List.length l))))) (.br ((List.getD l (Int.toNat h) (dflt T_api_Access)).1==x) (.br (h==c) (.br (Nat.ble (((List.length out)+1)*8) limit) (.jmp (.l14 x x1 x2 x3 x4 x5 from_ from_1 (IntKind.i64.wrap (h+(1:Int))) (out++[h]))) (.no)) (.br ((List.getD l (Int.toNat h) (dflt T_api_Access)).2.1==x1) (.br (decide ((List.getD l (Int.toNat h) (dflt T_api_Access)).2.2.1 > x2)) (.br (Nat.ble (((List.length out)+1)*8) limit) (.jmp (.l14 x x1 x2 x3 x4 x5 from_ from_1 (IntKind.i64.wrap (h+(1:Int))) (out++[h]))) (.no)) (.br (v_bits_Set_Has (from_,from_1) (List.getD l (Int.toNat h) (dflt T_api_Access)).2.1).1 (.br (Nat.ble (((List.length out)+1)*8) limit) (.jmp (.l14 x x1 x2 x3 x4 x5 (v_bits_Set_Has (from_,from_1) (List.getD l (Int.toNat h) (dflt T_api_Access)).2.1).2.1 (v_bits_Set_Has (from_,from_1) (List.getD l (Int.toNat h) (dflt T_api_Access)).2.1).2.2 (IntKind.i64.wrap (h+(1:Int))) (out++[h]))) (.no)) (.jmp (.l14 x x1 x2 x3 x4 x5 (v_bits_Set_Has (from_,from_1) (List.getD l (Int.toNat h) (dflt T_api_Access)).2.1).2.1 (v_bits_Set_Has (from_,from_1) (List.getD l (Int.toNat h) (dflt T_api_Access)).2.1).2.2 (IntKind.i64.wrap (h+(1:Int))) out)))) (.br (v_bits_Set_Has (from_,from_1) (List.getD l (Int.toNat h) (dflt T_api_Access)).2.1).1 (.br (Nat.ble (((List.length out)+1)*8) limit) (.jmp (.l14 x x1 x2 x3 x4 x5 (v_bits_Set_Has (from_,from_1) (List.getD l (Int.toNat h) (dflt T_api_Access)).2.1).2.1 (v_bits_Set_Has (from_,from_1) (List.getD l (Int.toNat h) (dflt T_api_Access)).2.1).2.2 (IntKind.i64.wrap (h+(1:Int))) (out++[h]))) (.no)) (.jmp (.l14 x x1 x2 x3 x4 x5 (v_bits_Set_Has (from_,from_1) (List.getD l (Int.toNat h) (dflt T_api_Access)).2.1).2.1 (v_bits_Set_Has (from_,from_1) (List.getD l (Int.toNat h) (dflt T_api_Access)).2.1).2.2 (IntKind.i64.wrap (h+(1:Int))) out))))) (.jmp (.l14 x x1 x2 x3 x4 x5 from_ from_1 (IntKind.i64.wrap (h+(1:Int))) out))) (.no)) (.leaf out)
def T0_clash_behind (p:El T_api_Prog) (l:List (El T_api_Access)) (c:Int):JT J_clash_behind (List Int):=.br ((decide ((0:Int)≤c))&&(decide (c < (Int.ofNat (List.length l))))) (.br ((decide ((0:Int)≤(List.getD l (Int.toNat c) (dflt T_api_Access)).1))&&(decide ((List.getD l (Int.toNat c) (dflt T_api_Access)).1 < (Int.ofNat (List.length p.2))))) (.br (k_flow_From (List.getD p.2 (Int.toNat (List.getD l (Int.toNat c) (dflt T_api_Access)).1) (dflt (.sl T_api_Ins))) (List.getD l (Int.toNat c) (dflt T_api_Access)).2.1) (.jmp (.l6 (Int.ofNat (List.length (v_flow_From (List.getD p.2 (Int.toNat (List.getD l (Int.toNat c) (dflt T_api_Access)).1) (dflt (.sl T_api_Ins))) (List.getD l (Int.toNat c) (dflt T_api_Access)).2.1))) (List.getD l (Int.toNat c) (dflt T_api_Access)).1 (List.getD l (Int.toNat c) (dflt T_api_Access)).2.1 (List.getD l (Int.toNat c) (dflt T_api_Access)).2.2.1 (List.getD l (Int.toNat c) (dflt T_api_Access)).2.2.2.1 (List.getD l (Int.toNat c) (dflt T_api_Access)).2.2.2.2.1 (List.getD l (Int.toNat c) (dflt T_api_Access)).2.2.2.2.2 (v_bits_New (Int.ofNat (List.length (List.getD p.2 (Int.toNat (List.getD l (Int.toNat c) (dflt T_api_Access)).1) (dflt (.sl T_api_Ins)))))).1 (v_flow_From (List.getD p.2 (Int.toNat (List.getD l (Int.toNat c) (dflt T_api_Access)).1) (dflt (.sl T_api_Ins))) (List.getD l (Int.toNat c) (dflt T_api_Access)).2.1) (v_bits_New (Int.ofNat (List.length (List.getD p.2 (Int.toNat (List.getD l (Int.toNat c) (dflt T_api_Access)).1) (dflt (.sl T_api_Ins)))))).2 (0:Int))) (.no)) (.no)) (.no)
def R_clash_behind:List Int→AV:=fun (r:List Int)=>.rw 3 (.int .i64) r
def S_clash_behind (p:El T_api_Prog) (l:List (El T_api_Access)) (c:Int):J_clash_behind→Nat×St |.l6 h x x1 x2 x3 x4 x5 from_ h1 from_1 h2=>(6,⟨mkTm 85 [(1,.d (.sl T_api_Access) l),(2,.d (.int .i64) c),(7,.pt 8 0 0),(9,.pt 10 0 0),(32,.own 33 0 none),(33,.d (.int .i64) h),(34,.d (.int .i64) h2)],[(8,0,.box 90 [.d (.int .i64) x,.d (.int .i64) x1,.d (.int .i64) x2,.d (.int .i64) x3,.d .bool x4,.d .bool x5] none),(10,0,.box 117 [.d (.int .i64) from_,.mp 10242 0] none),(33,0,.row 3 (.int .i64) h1 false),(10242,0,.map (.int .i64) (.int .u64) from_1)]⟩) |.l14 x x1 x2 x3 x4 x5 from_ from_1 h out=>(14,⟨mkTm 85 [(2,.d (.int .i64) c),(7,.pt 8 0 0),(9,.pt 10 0 0),(12,.own 13 0 none),(42,.d (.sl T_api_Access) l),(43,.d (.int .i64) (Int.ofNat (List.length l))),(44,.d (.int .i64) h)],[(8,0,.box 90 [.d (.int .i64) x,.d (.int .i64) x1,.d (.int .i64) x2,.d (.int .i64) x3,.d .bool x4,.d .bool x5] none),(10,0,.box 117 [.d (.int .i64) from_,.mp 10242 0] none),(13,0,.row 3 (.int .i64) out false),(10242,0,.map (.int .i64) (.int .u64) from_1)]⟩)
theorem en_clash_behind (p:El T_api_Prog) (l:List (El T_api_Access)) (c:Int) (L:Lt):entryA Go.Proofs.Tryz.prog (clOf t_clash_behind) tb_clash_behind Go.Proofs.Tryz.f89 c_clash_behind L (toForms sg_clash_behind (p,l,c,()))=(T0_clash_behind p l c).run (fun v=>some (R_clash_behind v,tps (toForms sg_clash_behind (p,l,c,())))) fun j=>L (S_clash_behind p l c j).1 (S_clash_behind p l c j).2:=by kernel_rfl
theorem lp_clash_behind (p:El T_api_Prog) (l:List (El T_api_Access)) (c:Int):∀(L:Lt) (j:J_clash_behind),procOf (procsF Go.Proofs.Tryz.prog (clOf t_clash_behind) tb_clash_behind Go.Proofs.Tryz.f89 c_clash_behind (toForms sg_clash_behind (p,l,c,()))) (S_clash_behind p l c j).1 L (S_clash_behind p l c j).2=(T_clash_behind p l c j).run (fun v=>some (R_clash_behind v,tps (toForms sg_clash_behind (p,l,c,())))) fun j=>L (S_clash_behind p l c j).1 (S_clash_behind p l c j).2 | L,.l6 h x x1 x2 x3 x4 x5 from_ h1 from_1 h2=>by kernel_rfl | L,.l14 x x1 x2 x3 x4 x5 from_ from_1 h out=>by kernel_rfl
end
end Go.Ev
end

section
open Go
namespace Go.Ev
noncomputable def v_clash_behind (p:El T_api_Prog) (l:List (El T_api_Access)) (c:Int):List Int:=listOf l.length (behB p l c.toNat)
def k_clash_behind (p:El T_api_Prog) (l:List (El T_api_Access)) (c:Int):Bool:=decide (0≤c∧c < (l.length:Int)∧l.length < 1099511627776)&&(decide (0≤thA l c.toNat∧thA l c.toNat < (p.2.length:Int))&&flowOK (thrOf p l c.toNat))
theorem g_clash_behind (p:El T_api_Prog) (l:List (El T_api_Access)) (c:Int) (hk:k_clash_behind p l c=true):Goes (T_clash_behind p l c) (T0_clash_behind p l c) (v_clash_behind p l c):=by
 unfold k_clash_behind at hk
 simp only[Bool.and_eq_true,decide_eq_true_eq] at hk
 obtain ⟨⟨c0,c1,hN⟩,⟨t0,t1⟩,hf⟩:=hk
 obtain ⟨c,rfl⟩:=Int.eq_ofNat_of_zero_le c0
 rw[Int.toNat_natCast] at t0 t1 hf
 have hc:c < l.length:=by omega
 have htl:=flowOK_len hf
 obtain ⟨t,ht⟩:∃t,thrOf p l c=t:=⟨_,rfl⟩
 have hg:List.getD p.2 (Int.toNat (List.getD l c (dflt T_api_Access)).1) (dflt (.sl T_api_Ins))=t:=ht
 rw[ht] at hf htl
 have kf:k_flow_From t (List.getD l c (dflt T_api_Access)).2.1=true:=hf
 obtain ⟨L,hL⟩:∃L,v_flow_From t (List.getD l c (dflt T_api_Access)).2.1=L:=⟨_,rfl⟩
 have hLl:L.length≤t.length:=by rw[←hL];unfold v_flow_From;rw[listOf_length];exact card_le
 have hmem:∀x,x∈L↔∃i:Nat,i < t.length∧fromB t (inA l c) i=true∧x=(i:Int):=fun x=>by rw[←hL];exact listOf_mem
 unfold T0_clash_behind v_clash_behind
 rw[goes_br,if_pos (bound_len hc),goes_br,Int.toNat_natCast]
 have hth:(decide ((0:Int)≤(List.getD l c (dflt T_api_Access)).1)&&decide ((List.getD l c (dflt T_api_Access)).1 < Int.ofNat p.2.length))=true:=by
  rw[Bool.and_eq_true,decide_eq_true_eq,decide_eq_true_eq];exact ⟨t0,t1⟩
 rw[if_pos hth,goes_br,hg,if_pos kf,hL]
 have hnew:v_bits_New (Int.ofNat (List.length t))=(((t.length:Nat):Int),[]):=by
  unfold v_bits_New
  simp
  omega
 rw[hnew]
 have second:∀(s:Int×List (Int×Int)),SetOK s t.length (fromB t (inA l c))→∀h,h≤l.length→∀out:List Int,out.length≤h→
   Goes (T_clash_behind p l (c:Int)) (.jmp (.l14 (List.getD l c (dflt T_api_Access)).1 (List.getD l c (dflt T_api_Access)).2.1 (List.getD l c (dflt T_api_Access)).2.2.1 (List.getD l c (dflt T_api_Access)).2.2.2.1 (List.getD l c (dflt T_api_Access)).2.2.2.2.1 (List.getD l c (dflt T_api_Access)).2.2.2.2.2 s.1 s.2 (h:Int) out)) (out++listR l.length (behB p l c) h):=by
  intro s hs
  refine down ?_ fun h hh ih=>?_
  ·intro out ho
   rw[goes_jmp,T_clash_behind,goes_br,if_neg (by rw[lt_len_not (Nat.lt_irrefl _)];decide),listR_end,List.append_nil]
   exact .leaf
  ·intro out ho
   have b1:Nat.ble ((out.length+1)*8) limit=true:=Nat.ble_eq_true_of_le (by unfold limit;omega)
   have hhas:v_bits_Set_Has (s.1,s.2) (inA l h)=(decide (0≤inA l h)&&fromB t (inA l c) (inA l h).toNat,s):=by
    show (hasS s (inA l h),s)=_
    rw[hs.has (by omega)]
   have add:behB p l c h=true→Goes (T_clash_behind p l (c:Int)) (.jmp (.l14 (List.getD l c (dflt T_api_Access)).1 (List.getD l c (dflt T_api_Access)).2.1 (List.getD l c (dflt T_api_Access)).2.2.1 (List.getD l c (dflt T_api_Access)).2.2.2.1 (List.getD l c (dflt T_api_Access)).2.2.2.2.1 (List.getD l c (dflt T_api_Access)).2.2.2.2.2 s.1 s.2 ((h+1:Nat):Int) (out++[(h:Int)]))) (out++listR l.length (behB p l c) h):=fun hb=>by
    rw[listR_step hh,if_pos hb]
    have:=ih (out++[(h:Int)]) (by simp;omega)
    rwa[List.append_assoc] at this
   have skip:behB p l c h=false→Goes (T_clash_behind p l (c:Int)) (.jmp (.l14 (List.getD l c (dflt T_api_Access)).1 (List.getD l c (dflt T_api_Access)).2.1 (List.getD l c (dflt T_api_Access)).2.2.1 (List.getD l c (dflt T_api_Access)).2.2.2.1 (List.getD l c (dflt T_api_Access)).2.2.2.2.1 (List.getD l c (dflt T_api_Access)).2.2.2.2.2 s.1 s.2 ((h+1:Nat):Int) out)) (out++listR l.length (behB p l c) h):=fun hb=>by
    rw[listR_step hh,hb,if_neg (by decide)]
    exact ih out (by omega)
   have e1:(List.getD l h (dflt T_api_Access)).1=thA l h:=rfl
   have e2:(List.getD l h (dflt T_api_Access)).2.1=inA l h:=rfl
   have e3:(List.getD l h (dflt T_api_Access)).2.2.1=paA l h:=rfl
   have f1:(List.getD l c (dflt T_api_Access)).1=thA l c:=rfl
   have f2:(List.getD l c (dflt T_api_Access)).2.1=inA l c:=rfl
   have f3:(List.getD l c (dflt T_api_Access)).2.2.1=paA l c:=rfl
   have hbe:behB p l c h=(thA l h==thA l c&&(h==c || ((inA l h==inA l c&&decide (paA l h > paA l c)) || (decide (0≤inA l h)&&fromB t (inA l c) (inA l h).toNat)))):=by
    unfold behB
    rw[decide_eq_true hh,Bool.true_and,ht]
   have hhc:((h:Int)==(c:Int))=(h==c):=by
    by_cases e:h=c
    ·subst e;simp
    ·have:(h==c)=false:=by simpa using e
     rw[this];simp;omega
   rw[goes_jmp,T_clash_behind]
   simp only[goes_br,lt_len hh,nng,Bool.and_self,if_true,Int.toNat_natCast,b1,wrap_succ (k:=h) (by omega),e1,e2,e3,hhas,hhc]
   rw[f1,f2,f3] at*
   generalize hq:(decide (0≤inA l h)&&fromB t (inA l c) (inA l h).toNat)=q at*
   by_cases c1:(thA l h==thA l c)=true
   ·rw[if_pos c1]
    rw[c1,Bool.true_and] at hbe
    by_cases c2:(h==c)=true
    ·rw[if_pos c2]
     rw[c2,Bool.true_or] at hbe
     exact add hbe
    ·rw[if_neg c2]
     rw[Bool.eq_false_iff.2 c2,Bool.false_or] at hbe
     by_cases c3:(inA l h==inA l c)=true
     ·rw[if_pos c3]
      rw[c3,Bool.true_and] at hbe
      by_cases c4:decide (paA l h > paA l c)=true
      ·rw[if_pos c4]
       rw[c4,Bool.true_or] at hbe
       exact add hbe
      ·rw[if_neg c4]
       rw[Bool.eq_false_iff.2 c4,Bool.false_or] at hbe
       cases q with
       | true=>rw[if_pos rfl];exact add hbe
       | false=>rw[if_neg (by decide)];exact skip hbe
     ·rw[if_neg c3]
      rw[Bool.eq_false_iff.2 c3,Bool.false_and,Bool.false_or] at hbe
      cases q with
      | true=>rw[if_pos rfl];exact add hbe
      | false=>rw[if_neg (by decide)];exact skip hbe
   ·rw[if_neg c1]
    rw[Bool.eq_false_iff.2 c1,Bool.false_and] at hbe
    exact skip hbe
 have first:∀h,h≤L.length→∀(s:Int×List (Int×Int)),SetOK s t.length (fun j=>(L.take h).contains (j:Int))→
   Goes (T_clash_behind p l (c:Int)) (.jmp (.l6 (Int.ofNat L.length) (List.getD l c (dflt T_api_Access)).1 (List.getD l c (dflt T_api_Access)).2.1 (List.getD l c (dflt T_api_Access)).2.2.1 (List.getD l c (dflt T_api_Access)).2.2.2.1 (List.getD l c (dflt T_api_Access)).2.2.2.2.1 (List.getD l c (dflt T_api_Access)).2.2.2.2.2 s.1 L s.2 (h:Int))) (listOf l.length (behB p l c)):=by
  refine down ?_ fun h hh ih=>?_
  ·intro s hs
   rw[goes_jmp,T_clash_behind,goes_br,if_neg (by simp)]
   have:=second s (hs.congr' fun j=>by
    rw[List.take_length,Bool.eq_iff_iff,List.contains_iff_mem,hmem]
    constructor
    ·rintro ⟨i,_,h1,h2⟩;have:j=i:=by omega
     subst this;exact h1
    ·intro h;exact ⟨j,fromB_lt h,h,rfl⟩) 0 (Nat.zero_le _) [] (Nat.le_refl _)
   rwa[List.nil_append,listR_zero] at this
  ·intro s hs
   obtain ⟨i,hi,_,hie⟩:=(hmem L[h]).1 (List.getElem_mem hh)
   obtain ⟨_,p2⟩:=hs.putO (by omega) hi
   have hp:v_bits_Set_Put (s.1,s.2) (i:Int)=putS s (i:Int):=rfl
   rw[goes_jmp,T_clash_behind,goes_br,if_pos (lt_len hh),goes_br,if_pos (bound_len hh),Int.toNat_natCast,getD_lt hh,hie,hp,wrap_succ (by omega)]
   refine ih _ (p2.congr' fun j=>?_)
   rw[List.take_succ_eq_append_getElem hh,Bool.eq_iff_iff,Bool.or_eq_true,List.contains_iff_mem,List.contains_iff_mem,List.mem_append,List.mem_singleton,hie,beq_iff_eq]
   exact or_congr Iff.rfl (by omega)
 exact first 0 (Nat.zero_le _) (((t.length:Nat):Int),[]) ((SetOK.new t.length).congr' fun j=>by simp)
end Go.Ev
end

section
open Go Go.Ev
namespace Go.Ev
noncomputable section
noncomputable def e_clash_behind:Run:=entG sg_clash_behind R_clash_behind (fun a=>k_clash_behind a.1 a.2.1 a.2.2.1) (fun a=>v_clash_behind a.1 a.2.1 a.2.2.1)
theorem ok_clash_behind:EntOK Go.Proofs.Tryz.prog 89 e_clash_behind:=entG_ok (tb:=tb_clash_behind) (c:=c_clash_behind) tk_clash_behind (by kernel_rfl) (by kernel_rfl) (by kernel_rfl) (fun a=>by kernel_rfl) fun ⟨p,l,c,_⟩ hk=>evF_goes (c:=c_clash_behind) (K:=fun v=>(R_clash_behind v,tps (toForms sg_clash_behind (p,l,c,())))) (S:=S_clash_behind p l c) (by kernel_rfl) (en_clash_behind p l c) (lp_clash_behind p l c) (g_clash_behind p l c hk)
end
end Go.Ev
end

section
open Go Go.Ev
namespace Go.Ev
noncomputable section
def sg_clash_Back:Sig:=[(true,T_api_Prog),(false,(.int .i64))]
noncomputable def t_clash_Back:Tbl:=[(49,e_touch_Of),(51,e_bits_New),(87,e_clash_Back_1),(89,e_clash_behind),(53,e_bits_Set_Put),(80,e_bits_Set_List)]
theorem tk_clash_Back:∀p∈t_clash_Back,EntOK Go.Proofs.Tryz.prog p.1 p.2:=tbl_cons ok_touch_Of (tbl_cons ok_bits_New (tbl_cons ok_clash_Back_1 (tbl_cons ok_clash_behind (tbl_cons ok_bits_Set_Put (tbl_cons ok_bits_Set_List (tbl_nil))))))
noncomputable def c_clash_Back:Code:=Go.Proofs.Tryz.f55.body.getD .skip
def tb_clash_Back:Tb:=[(11,⟨[2,5,7,9,10,11],[]⟩),(17,⟨[2,5,7,9,10,11,54,55,56],[]⟩),(hintK,⟨[],[(1,46)]⟩)]
inductive J_clash_Back where | l11 (l:List (El T_api_Access)) (back:Int) (open_:List Int) (meet:Int) (meet1:Int) (back1:List (Int×Int)) (meet2:Int) (meet3:List (Int×Int)) (gone:Int) (gone1:List (Int×Int)) | l17 (h:Int) (l:List (El T_api_Access)) (h1:List Int) (back:Int) (open_:List Int) (meet:Int) (meet1:Int) (back1:List (Int×Int)) (meet2:Int) (meet3:List (Int×Int)) (h2:Int) (gone:Int) (gone1:List (Int×Int))
def T_clash_Back (p:El T_api_Prog) (a:Int):J_clash_Back→JT J_clash_Back (List Int) |.l11 l back open_ meet meet1 back1 meet2 meet3 gone gone1=>.br (decide ((Int.ofNat (List.length open_)) > (0:Int))) (.br (decide ((0:Int) < (Int.ofNat (List.length open_)))) (.br (Nat.ble 1 (List.length open_)) (.br (k_clash_behind p l (List.getD open_ 0 (dflt (.int .i64)))) (.jmp (.l17 (Int.ofNat (List.length (v_clash_behind p l (List.getD open_ 0 (dflt (.int .i64)))))) l (v_clash_behind p l (List.getD open_ 0 (dflt (.int .i64)))) back (List.drop 1 open_) meet meet1 back1 meet2 meet3 (0:Int) gone gone1)) (.no)) (.no)) (.no)) (.br (k_bits_Set_List (back,back1)) (.leaf (v_bits_Set_List (back,back1)).1) (.no)) |.l17 h l h1 back open_ meet meet1 back1 meet2 meet3 h2 gone gone1=>.br (decide (h2 < h)) (.br ((decide ((0:Int)≤h2))&&(decide (h2 < (Int.ofNat (List.length h1))))) (.br (v_bits_Set_Put (gone,gone1) (List.getD h1 (Int.toNat h2) (dflt (.int .i64)))).1 (.br (k_clash_Back_1 (List.getD h1 (Int.toNat h2) (dflt (.int .i64))) l meet (meet2,meet3) open_ meet1 (back,back1)) (.jmp (.l17 h (v_clash_Back_1 (List.getD h1 (Int.toNat h2) (dflt (.int .i64))) l meet (meet2,meet3) open_ meet1 (back,back1)).1 h1 (v_clash_Back_1 (List.getD h1 (Int.toNat h2) (dflt (.int .i64))) l meet (meet2,meet3) open_ meet1 (back,back1)).2.2.2.2.2.1 (v_clash_Back_1 (List.getD h1 (Int.toNat h2) (dflt (.int .i64))) l meet (meet2,meet3) open_ meet1 (back,back1)).2.2.2.1 (v_clash_Back_1 (List.getD h1 (Int.toNat h2) (dflt (.int .i64))) l meet (meet2,meet3) open_ meet1 (back,back1)).2.1 (v_clash_Back_1 (List.getD h1 (Int.toNat h2) (dflt (.int .i64))) l meet (meet2,meet3) open_ meet1 (back,back1)).2.2.2.2.1 (v_clash_Back_1 (List.getD h1 (Int.toNat h2) (dflt (.int .i64))) l meet (meet2,meet3) open_ meet1 (back,back1)).2.2.2.2.2.2 (v_clash_Back_1 (List.getD h1 (Int.toNat h2) (dflt (.int .i64))) l meet (meet2,meet3) open_ meet1 (back,back1)).2.2.1.1 (v_clash_Back_1 (List.getD h1 (Int.toNat h2) (dflt (.int .i64))) l meet (meet2,meet3) open_ meet1 (back,back1)).2.2.1.2 (IntKind.i64.wrap (h2+(1:Int))) (v_bits_Set_Put (gone,gone1) (List.getD h1 (Int.toNat h2) (dflt (.int .i64)))).2.1 (v_bits_Set_Put (gone,gone1) (List.getD h1 (Int.toNat h2) (dflt (.int .i64)))).2.2)) (.no)) (.jmp (.l17 h l h1 back open_ meet meet1 back1 meet2 meet3 (IntKind.i64.wrap (h2+(1:Int))) (v_bits_Set_Put (gone,gone1) (List.getD h1 (Int.toNat h2) (dflt (.int .i64)))).2.1 (v_bits_Set_Put (gone,gone1) (List.getD h1 (Int.toNat h2) (dflt (.int .i64)))).2.2))) (.no)) (.jmp (.l11 l back open_ meet meet1 back1 meet2 meet3 gone gone1))
def T0_clash_Back (p:El T_api_Prog) (a:Int):JT J_clash_Back (List Int):=.br (k_touch_Of p) (.br (decide (a < (0:Int))) (.leaf []) (.br (decide (a≥(Int.ofNat (List.length (v_touch_Of p))))) (.leaf []) (.br ((decide ((0:Int)≤a))&&(decide (a < (Int.ofNat (List.length (v_touch_Of p)))))) (.br (k_clash_Back_1 a (v_touch_Of p) (List.getD (v_touch_Of p) (Int.toNat a) (dflt T_api_Access)).1 (v_bits_New (Int.ofNat (List.length (v_touch_Of p)))) [] a (v_bits_New (Int.ofNat (List.length (v_touch_Of p))))) (.jmp (.l11 (v_clash_Back_1 a (v_touch_Of p) (List.getD (v_touch_Of p) (Int.toNat a) (dflt T_api_Access)).1 (v_bits_New (Int.ofNat (List.length (v_touch_Of p)))) [] a (v_bits_New (Int.ofNat (List.length (v_touch_Of p))))).1 (v_clash_Back_1 a (v_touch_Of p) (List.getD (v_touch_Of p) (Int.toNat a) (dflt T_api_Access)).1 (v_bits_New (Int.ofNat (List.length (v_touch_Of p)))) [] a (v_bits_New (Int.ofNat (List.length (v_touch_Of p))))).2.2.2.2.2.1 (v_clash_Back_1 a (v_touch_Of p) (List.getD (v_touch_Of p) (Int.toNat a) (dflt T_api_Access)).1 (v_bits_New (Int.ofNat (List.length (v_touch_Of p)))) [] a (v_bits_New (Int.ofNat (List.length (v_touch_Of p))))).2.2.2.1 (v_clash_Back_1 a (v_touch_Of p) (List.getD (v_touch_Of p) (Int.toNat a) (dflt T_api_Access)).1 (v_bits_New (Int.ofNat (List.length (v_touch_Of p)))) [] a (v_bits_New (Int.ofNat (List.length (v_touch_Of p))))).2.1 (v_clash_Back_1 a (v_touch_Of p) (List.getD (v_touch_Of p) (Int.toNat a) (dflt T_api_Access)).1 (v_bits_New (Int.ofNat (List.length (v_touch_Of p)))) [] a (v_bits_New (Int.ofNat (List.length (v_touch_Of p))))).2.2.2.2.1 (v_clash_Back_1 a (v_touch_Of p) (List.getD (v_touch_Of p) (Int.toNat a) (dflt T_api_Access)).1 (v_bits_New (Int.ofNat (List.length (v_touch_Of p)))) [] a (v_bits_New (Int.ofNat (List.length (v_touch_Of p))))).2.2.2.2.2.2 (v_clash_Back_1 a (v_touch_Of p) (List.getD (v_touch_Of p) (Int.toNat a) (dflt T_api_Access)).1 (v_bits_New (Int.ofNat (List.length (v_touch_Of p)))) [] a (v_bits_New (Int.ofNat (List.length (v_touch_Of p))))).2.2.1.1 (v_clash_Back_1 a (v_touch_Of p) (List.getD (v_touch_Of p) (Int.toNat a) (dflt T_api_Access)).1 (v_bits_New (Int.ofNat (List.length (v_touch_Of p)))) [] a (v_bits_New (Int.ofNat (List.length (v_touch_Of p))))).2.2.1.2 (v_bits_New (Int.ofNat (List.length (v_touch_Of p)))).1 (v_bits_New (Int.ofNat (List.length (v_touch_Of p)))).2)) (.no)) (.no)))) (.no)
def R_clash_Back:List Int→AV:=fun (r:List Int)=>.rw 3 (.int .i64) r
def S_clash_Back (p:El T_api_Prog) (a:Int):J_clash_Back→Nat×St |.l11 l back open_ meet meet1 back1 meet2 meet3 gone gone1=>(11,⟨mkTm 69 [(2,.pt 3 0 0),(5,.pt 6 0 0),(7,.pt 8 0 0),(9,.pt 10 0 0),(10,.pt 11 0 0),(11,.fn 87 [.pt 6 0 0,.pt 12290 0 0,.pt 12291 0 0,.pt 11 0 0,.pt 12293 0 0,.pt 8 0 0])],[(3,0,.box 27 [.d (.sl T_api_Sym) p.1,.d (.sl (.sl T_api_Ins)) p.2] none),(6,0,.box 82 [.d (.sl T_api_Access) l] none),(8,0,.box 86 [.pt 8193 0 0] none),(10,0,.box 117 [.d (.int .i64) gone,.mp 10242 0] none),(11,0,.box 23 [.own 11265 0 none] none),(8193,0,.box 117 [.d (.int .i64) back,.mp 8389634 0] none),(10242,0,.map (.int .i64) (.int .u64) gone1),(11265,0,.row 3 (.int .i64) open_ false),(12290,0,.box 3 [.d (.int .i64) meet] none),(12291,0,.box 86 [.pt 12585985 0 0] none),(12293,0,.box 3 [.d (.int .i64) meet1] none),(8389634,0,.map (.int .i64) (.int .u64) back1),(12585985,0,.box 117 [.d (.int .i64) meet2,.mp 12888048642 0] none),(12888048642,0,.map (.int .i64) (.int .u64) meet3)]⟩) |.l17 h l h1 back open_ meet meet1 back1 meet2 meet3 h2 gone gone1=>(17,⟨mkTm 69 [(2,.pt 3 0 0),(5,.pt 6 0 0),(7,.pt 8 0 0),(9,.pt 10 0 0),(10,.pt 11 0 0),(11,.fn 87 [.pt 6 0 0,.pt 12290 0 0,.pt 12291 0 0,.pt 11 0 0,.pt 12293 0 0,.pt 8 0 0]),(54,.own 55 0 none),(55,.d (.int .i64) h),(56,.d (.int .i64) h2)],[(3,0,.box 27 [.d (.sl T_api_Sym) p.1,.d (.sl (.sl T_api_Ins)) p.2] none),(6,0,.box 82 [.d (.sl T_api_Access) l] none),(8,0,.box 86 [.pt 8193 0 0] none),(10,0,.box 117 [.d (.int .i64) gone,.mp 10242 0] none),(11,0,.box 23 [.own 11265 0 none] none),(55,0,.row 3 (.int .i64) h1 false),(8193,0,.box 117 [.d (.int .i64) back,.mp 8389634 0] none),(10242,0,.map (.int .i64) (.int .u64) gone1),(11265,0,.row 3 (.int .i64) open_ false),(12290,0,.box 3 [.d (.int .i64) meet] none),(12291,0,.box 86 [.pt 12585985 0 0] none),(12293,0,.box 3 [.d (.int .i64) meet1] none),(8389634,0,.map (.int .i64) (.int .u64) back1),(12585985,0,.box 117 [.d (.int .i64) meet2,.mp 12888048642 0] none),(12888048642,0,.map (.int .i64) (.int .u64) meet3)]⟩)
theorem en_clash_Back (p:El T_api_Prog) (a:Int) (L:Lt):entryA Go.Proofs.Tryz.prog (clOf t_clash_Back) tb_clash_Back Go.Proofs.Tryz.f55 c_clash_Back L (toForms sg_clash_Back (p,a,()))=(T0_clash_Back p a).run (fun v=>some (R_clash_Back v,tps (toForms sg_clash_Back (p,a,())))) fun j=>L (S_clash_Back p a j).1 (S_clash_Back p a j).2:=by kernel_rfl
theorem lp_clash_Back (p:El T_api_Prog) (a:Int):∀(L:Lt) (j:J_clash_Back),procOf (procsF Go.Proofs.Tryz.prog (clOf t_clash_Back) tb_clash_Back Go.Proofs.Tryz.f55 c_clash_Back (toForms sg_clash_Back (p,a,()))) (S_clash_Back p a j).1 L (S_clash_Back p a j).2=(T_clash_Back p a j).run (fun v=>some (R_clash_Back v,tps (toForms sg_clash_Back (p,a,())))) fun j=>L (S_clash_Back p a j).1 (S_clash_Back p a j).2 | L,.l11 l back open_ meet meet1 back1 meet2 meet3 gone gone1=>by kernel_rfl | L,.l17 h l h1 back open_ meet meet1 back1 meet2 meet3 h2 gone gone1=>by kernel_rfl
end
end Go.Ev
end

section
namespace Go.Ev
open Go
theorem accT_memX {t:Nat} {a:El T_api_Access} :∀ {l:List (El T_api_Ins)} {k:Nat},a∈accT t k l↔∃(j:Nat) (i:El T_api_Ins),l[j]? =some i∧a∈accI t (k+j) i
 | [],k=>by simp[accT]
 | i :: r,k=>by
  unfold accT
  rw[List.mem_append,accT_memX (l:=r)]
  constructor
  ·rintro (h | ⟨j,i',h1,h2⟩)
   ·exact ⟨0,i,rfl,h⟩
   ·exact ⟨j+1,i',by simpa using h1,by rw[show k+(j+1)=k+1+j by omega];exact h2⟩
  ·rintro ⟨j,i',h1,h2⟩
   cases j with
   | zero=>left;simp at h1;subst h1;exact h2
   | succ j=>right;exact ⟨j,i',by simpa using h1,by rw[show k+1+j=k+(j+1) by omega];exact h2⟩
theorem accI_memX {t k:Nat} {i:El T_api_Ins} {a:El T_api_Access} :a∈accI t k i↔((v_ins_Reads i).2=true∧a=((t:Int),((k:Int),((0:Int),((v_ins_Reads i).1.2.2.1,(false,v_ins_Locked i))))))∨((v_ins_Writes i).2=true∧a=((t:Int),((k:Int),((if (v_ins_Reads i).2 then (1:Int) else 0),((v_ins_Writes i).1.2.2.1,(true,v_ins_Locked i)))))):=by
 unfold accI
 rw[List.mem_append]
 cases (v_ins_Reads i).2 <;> cases (v_ins_Writes i).2 <;> simp
theorem accI_atX {t k:Nat} {i:El T_api_Ins} {a:El T_api_Access} (h:a∈accI t k i):(show Int from a.1)=(t:Int)∧(show Int from a.2.1)=(k:Int):=by
 rcases accI_memX.1 h with ⟨_,rfl⟩ | ⟨_,rfl⟩ <;> exact ⟨rfl,rfl⟩
theorem accP_memX {a:El T_api_Access} :∀ {l:List (List (El T_api_Ins))} {t:Nat},a∈accP t l↔∃(u:Nat) (x:List (El T_api_Ins)) (j:Nat) (i:El T_api_Ins),l[u]? =some x∧x[j]? =some i∧a∈accI (t+u) j i
 | [],t=>by simp[accP]
 | x :: r,t=>by
  unfold accP
  rw[List.mem_append,accT_memX,accP_memX (l:=r)]
  constructor
  ·rintro (⟨j,i,h1,h2⟩ | ⟨u,y,j,i,h1,h2,h3⟩)
   ·exact ⟨0,x,j,i,rfl,h1,by rw[Nat.zero_add] at h2;exact h2⟩
   ·exact ⟨u+1,y,j,i,by simpa using h1,h2,by rw[show t+(u+1)=t+1+u by omega];exact h3⟩
  ·rintro ⟨u,y,j,i,h1,h2,h3⟩
   cases u with
   | zero=>
    left
    simp at h1
    subst h1
    exact ⟨j,i,h2,by rw[Nat.zero_add];exact h3⟩
   | succ u=>right;exact ⟨u,y,j,i,by simpa using h1,h2,by rw[show t+1+u=t+(u+1) by omega];exact h3⟩
theorem acc_where {p:El T_api_Prog} {a:El T_api_Access} (h:a∈ofC p):∃(u:Nat) (x:List (El T_api_Ins)) (j:Nat) (i:El T_api_Ins),p.2[u]? =some x∧x[j]? =some i∧a∈accI u j i∧(show Int from a.1)=(u:Int)∧(show Int from a.2.1)=(j:Int):=by
 unfold ofC at h
 split at h
 ·obtain ⟨u,x,j,i,h1,h2,h3⟩:=accP_memX.1 h
  rw[Nat.zero_add] at h3
  exact ⟨u,x,j,i,h1,h2,h3,(accI_atX h3).1,(accI_atX h3).2⟩
 ·cases h
def ltNX (t k q t' k' q':Int):Prop:=t < t'∨t=t'∧(k < k'∨k=k'∧q < q')
def ltAX (a b:El T_api_Access):Prop:=ltNX a.1 a.2.1 a.2.2.1 b.1 b.2.1 b.2.2.1
theorem accI_ordX (t k:Nat) (i:El T_api_Ins):(accI t k i).Pairwise ltAX:=by
 unfold accI
 cases (v_ins_Reads i).2 <;> cases (v_ins_Writes i).2 <;> simp[List.pairwise_cons]
 exact .inr ⟨rfl,.inr ⟨rfl,by show (0:Int) < 1;omega⟩⟩
theorem accT_atX {t:Nat} {l:List (El T_api_Ins)} {k:Nat} {a:El T_api_Access} (h:a∈accT t k l):∃(j:Nat) (i:El T_api_Ins),l[j]? =some i∧a∈accI t (k+j) i∧(show Int from a.1)=(t:Int)∧(show Int from a.2.1)=((k+j:Nat):Int):=by
 obtain ⟨j,i,h1,h2⟩:=accT_memX.1 h
 exact ⟨j,i,h1,h2,accI_atX h2⟩
theorem accT_ordX (t:Nat):∀(k:Nat) (l:List (El T_api_Ins)),(accT t k l).Pairwise ltAX
 | _,[]=>.nil
 | k,i :: r=>by
  unfold accT
  refine List.pairwise_append.2 ⟨accI_ordX t k i,accT_ordX t (k+1) r,fun a ha b hb=>?_⟩
  obtain ⟨h1,h2⟩:=accI_atX ha
  obtain ⟨j,_,_,_,h3,h4⟩:=accT_atX hb
  have key:∀a1 a2 a3 b1 b2 b3:Int,a1=t→a2=k→b1=t→b2=((k+1+j:Nat):Int)→ltNX a1 a2 a3 b1 b2 b3:=fun a1 a2 a3 b1 b2 b3 e1 e2 e3 e4=>.inr ⟨by omega,.inl (by omega)⟩
  exact key _ _ _ _ _ _ h1 h2 h3 h4
theorem accP_ordX:∀(t:Nat) (l:List (List (El T_api_Ins))),(accP t l).Pairwise ltAX
 | _,[]=>.nil
 | t,x :: r=>by
  unfold accP
  refine List.pairwise_append.2 ⟨accT_ordX t 0 x,accP_ordX (t+1) r,fun a ha b hb=>?_⟩
  obtain ⟨_,_,_,_,h1,_⟩:=accT_atX ha
  obtain ⟨u,_,_,_,_,_,hb3⟩:=accP_memX.1 hb
  have h3:=(accI_atX hb3).1
  have key:∀a1 a2 a3 b1 b2 b3:Int,a1=t→b1=((t+1+u:Nat):Int)→ltNX a1 a2 a3 b1 b2 b3:=fun a1 a2 a3 b1 b2 b3 e1 e3=>.inl (by omega)
  exact key _ _ _ _ _ _ h1 h3
theorem ofC_ord (p:El T_api_Prog):(ofC p).Pairwise ltAX:=by
 unfold ofC
 split
 ·exact accP_ordX 0 p.2
 ·exact .nil
theorem flow_small {t:List (El T_api_Ins)} (h:smallThread t=true):flowOK t=true:=by
 have labs:∀ {t:List (El T_api_Ins)} {i:El T_api_Ins},i∈t→i.2.2.2.2.2.2.length≤(labels t).length:=fun {t i} hi=>by
  unfold labels
  induction t with
  | nil=>cases hi
  | cons x r ih=>
   rw[List.flatMap_cons,List.length_append]
   rcases List.mem_cons.1 hi with rfl | hi
   ·omega
   ·have:=ih hi;omega
 unfold smallThread at h
 simp only[Bool.and_eq_true,List.all_eq_true,decide_eq_true_eq] at h
 unfold flowOK
 simp only[Bool.and_eq_true,List.all_eq_true,decide_eq_true_eq]
 refine ⟨h.1,fun i hi=>⟨(h.2.2 i hi).1,?_⟩⟩
 have:=labs hi
 omega
end Go.Ev
end

section
open Go
namespace Go.Ev
noncomputable def v_clash_Back (p:El T_api_Prog) (a:Int):List Int:=if 0≤a∧a < ((ofC p).length:Int) then listOf (ofC p).length (backB p (ofC p) a.toNat) else []
def k_clash_Back (p:El T_api_Prog) (a:Int):Bool:=smallAll p
theorem meetF_ok {l:List Acc} {x:Nat} {own a:Int} :∀(n h:Nat) (s:SetT×List Int×SetT) (C B:Nat→Bool),l.length < 1099511627776→h+n≤l.length→SetOK s.1 l.length C→SetOK s.2.2 l.length B→
  ∃C' B',SetOK (meetF l (x:Int) own a (List.range' h n) s).1 l.length C'∧SetOK (meetF l (x:Int) own a (List.range' h n) s).2.2 l.length B'∧
   (∀j,C' j=true↔C j=true∨(h≤j∧j < h+n∧clB l x j=true∧thA l j≠own))∧(∀j,B' j=true↔B j=true∨(h≤j∧j < h+n∧clB l x j=true∧thA l j=own∧(x:Int)≠a))∧
   (∀y∈s.2.1,y∈(meetF l (x:Int) own a (List.range' h n) s).2.1)∧(∀y∈(meetF l (x:Int) own a (List.range' h n) s).2.1,y∈s.2.1∨∃j:Nat,y=(j:Int)∧C' j=true)∧
   (∀j,C' j=true→C j=true∨(j:Int)∈(meetF l (x:Int) own a (List.range' h n) s).2.1)∧(meetF l (x:Int) own a (List.range' h n) s).2.1.length+card l.length C=s.2.1.length+card l.length C'
 | 0,h,s,C,B,_,_,hC,hB=>⟨C,B,hC,hB,fun j=>⟨.inl,fun h=>h.elim id fun h=>by omega⟩,fun j=>⟨.inl,fun h=>h.elim id fun h=>by omega⟩,fun y hy=>hy,fun y hy=>.inl hy,fun j hj=>.inl hj,rfl⟩
 | n+1,h,s,C,B,hN,hn,hC,hB=>by
  rw[List.range'_succ,meetF]
  have hh:h < l.length:=by omega
  have one:∃C1 B1,SetOK (meet1 l (x:Int) own a h s).1 l.length C1∧SetOK (meet1 l (x:Int) own a h s).2.2 l.length B1∧(∀j,C1 j=true↔C j=true∨(j=h∧clB l x h=true∧thA l h≠own))∧(∀j,B1 j=true↔B j=true∨(j=h∧clB l x h=true∧thA l h=own∧(x:Int)≠a))∧
    (∀y∈s.2.1,y∈(meet1 l (x:Int) own a h s).2.1)∧(∀y∈(meet1 l (x:Int) own a h s).2.1,y∈s.2.1∨∃j:Nat,y=(j:Int)∧C1 j=true)∧(∀j,C1 j=true→C j=true∨(j:Int)∈(meet1 l (x:Int) own a h s).2.1)∧
    (meet1 l (x:Int) own a h s).2.1.length+card l.length C=s.2.1.length+card l.length C1:=by
   unfold meet1
   rw[Int.toNat_natCast]
   by_cases c1:clB l x h=true
   ·rw[if_pos c1]
    by_cases c2:thA l h=own
    ·rw[if_neg (by simp[c2])]
     by_cases c3:(x:Int)=a
     ·rw[if_neg (by simp[c3])]
      exact ⟨C,B,hC,hB,fun j=>⟨.inl,fun h=>h.elim id fun h=>absurd c2 h.2.2⟩,fun j=>⟨.inl,fun h=>h.elim id fun h=>absurd c3 h.2.2.2⟩,fun y hy=>hy,fun y hy=>.inl hy,fun j hj=>.inl hj,rfl⟩
     ·rw[if_pos c3]
      obtain ⟨_,p2⟩:=hB.putO (by omega) hh
      refine ⟨C,_,hC,p2,fun j=>⟨.inl,fun h=>h.elim id fun h=>absurd c2 h.2.2⟩,fun j=>?_,fun y hy=>hy,fun y hy=>.inl hy,fun j hj=>.inl hj,rfl⟩
      rw[Bool.or_eq_true,beq_iff_eq]
      exact or_congr Iff.rfl ⟨fun h=>⟨h,c1,c2,c3⟩,fun h=>h.1⟩
    ·rw[if_pos c2]
     obtain ⟨p1,p2⟩:=hC.putO (by omega) hh
     have hB':∀j,B j=true↔B j=true∨(j=h∧clB l x h=true∧thA l h=own∧(x:Int)≠a):=fun j=>⟨.inl,fun h=>h.elim id fun h=>absurd h.2.2.1 c2⟩
     have hC':∀j,(C j || (j==h))=true↔C j=true∨(j=h∧clB l x h=true∧thA l h≠own):=fun j=>by
      rw[Bool.or_eq_true,beq_iff_eq]
      exact or_congr Iff.rfl ⟨fun h=>⟨h,c1,c2⟩,fun h=>h.1⟩
     refine ⟨_,B,p2,hB,hC',hB',?_⟩
     cases hCh:C h with
     | true=>
      rw[hCh] at p1
      rw[if_neg (by rw[p1];decide)]
      have e:(fun k=>C k || (k==h))=C:=funext fun k=>by
       by_cases hk:k=h
       ·subst hk;rw[hCh];rfl
       ·have:(k==h)=false:=by simpa using hk
        rw[this,Bool.or_false]
      refine ⟨fun y hy=>hy,fun y hy=>.inl hy,fun j hj=>.inl ?_,by rw[e]⟩
      have:=congrFun e j
      rw[←this];exact hj
     | false=>
      rw[hCh] at p1
      rw[if_pos (by rw[p1];rfl)]
      refine ⟨fun y hy=>List.mem_append_left _ hy,fun y hy=>?_,fun j hj=>?_,?_⟩
      ·rcases List.mem_append.1 hy with hy | hy
       ·exact .inl hy
       ·simp only[List.mem_singleton] at hy
        exact .inr ⟨h,hy,by simp⟩
      ·rw[Bool.or_eq_true,beq_iff_eq] at hj
       rcases hj with hj | rfl
       ·exact .inl hj
       ·exact .inr (List.mem_append_right _ (by simp))
      ·rw[card_add hCh hh,List.length_append,List.length_singleton]
       omega
   ·rw[if_neg c1]
    exact ⟨C,B,hC,hB,fun j=>⟨.inl,fun h=>h.elim id fun h=>absurd h.2.1 c1⟩,fun j=>⟨.inl,fun h=>h.elim id fun h=>absurd h.2.1 c1⟩,fun y hy=>hy,fun y hy=>.inl hy,fun j hj=>.inl hj,rfl⟩
  obtain ⟨C1,B1,a1,a2,a3,a4,a5,a6,a7,a8⟩:=one
  obtain ⟨C2,B2,b1,b2,b3,b4,b5,b6,b7,b8⟩:=meetF_ok n (h+1) (meet1 l (x:Int) own a h s) C1 B1 hN (by omega) a1 a2
  refine ⟨C2,B2,b1,b2,fun j=>?_,fun j=>?_,fun y hy=>b5 y (a5 y hy),fun y hy=>?_,fun j hj=>?_,by omega⟩
  ·rw[b3,a3,or_assoc]
   refine or_congr Iff.rfl ⟨?_,?_⟩
   ·rintro (⟨rfl,h1⟩ | ⟨h1,h2,h3⟩)
    ·exact ⟨Nat.le_refl _,by omega,h1⟩
    ·exact ⟨by omega,by omega,h3⟩
   ·rintro ⟨h1,h2,h3⟩
    by_cases e:j=h
    ·subst e;exact .inl ⟨rfl,h3⟩
    ·exact .inr ⟨by omega,by omega,h3⟩
  ·rw[b4,a4,or_assoc]
   refine or_congr Iff.rfl ⟨?_,?_⟩
   ·rintro (⟨rfl,h1⟩ | ⟨h1,h2,h3⟩)
    ·exact ⟨Nat.le_refl _,by omega,h1⟩
    ·exact ⟨by omega,by omega,h3⟩
   ·rintro ⟨h1,h2,h3⟩
    by_cases e:j=h
    ·subst e;exact .inl ⟨rfl,h3⟩
    ·exact .inr ⟨by omega,by omega,h3⟩
  ·rcases b6 y hy with h1 | h1
   ·rcases a6 y h1 with h2 | ⟨j,h2,h3⟩
    ·exact .inl h2
    ·exact .inr ⟨j,h2,(b3 j).2 (.inl h3)⟩
   ·exact .inr h1
  ·rcases b7 j hj with h1 | h1
   ·rcases a7 j h1 with h2 | h2
    ·exact .inl h2
    ·exact .inr (b5 _ h2)
   ·exact .inr h1
structure BInv (p:El T_api_Prog) (l:List Acc) (a:Nat) (C G B:Nat→Bool) (O:List Int):Prop where
 c:∀c,C c=true↔c < l.length∧thA l c≠thA l a∧(clB l a c=true∨∃k,G k=true∧clB l k c=true)
 g:∀d,G d=true→∃c,C c=true∧behB p l c d=true
 o:∀x∈O,∃c:Nat,x=(c:Int)∧C c=true
 b:∀b,B b=true↔b < l.length∧thA l b=thA l a∧∃k,G k=true∧clB l k b=true
 s:∀d,G d=true→isB p l a d=true
theorem BInv.is {p:El T_api_Prog} {l:List Acc} {a:Nat} {C G B:Nat→Bool} {O:List Int} (h:BInv p l a C G B O) {c:Nat} (hc:C c=true):isB p l a c=true:=by
 obtain ⟨h1,h2,h3⟩:=(h.c c).1 hc
 rcases h3 with h3 | ⟨k,hk,h3⟩
 ·exact comeB_iff.2 (.start (by unfold chS;rw[decide_eq_true h1,h3];rfl))
 ·refine comeB_iff.2 (.step (comeB_iff.1 (h.s k hk)) ?_)
  unfold chB
  simp only[Bool.and_eq_true,decide_eq_true_eq,Bool.not_eq_true',beq_eq_false_iff_ne,Bool.or_eq_true]
  exact ⟨h1,h2,.inl h3⟩
theorem BInv.meet {p:El T_api_Prog} {l:List Acc} {a d:Nat} {C G B C' B':Nat→Bool} {O O':List Int} {c:Nat} (h:BInv p l a C G B O) (hc:C c=true) (hd:behB p l c d=true) (hl:d < l.length)
  (hC:∀j,C' j=true↔C j=true∨(0≤j∧j < 0+l.length∧clB l d j=true∧thA l j≠thA l a)) (hB:∀j,B' j=true↔B j=true∨(0≤j∧j < 0+l.length∧clB l d j=true∧thA l j=thA l a∧(d:Int)≠(a:Int)))
  (hO:∀y∈O',y∈O∨∃j:Nat,y=(j:Int)∧C' j=true):BInv p l a C' (fun k=>G k || (k==d)) B' O':=by
 have hth:=behB_lt hd
 have hne:=((h.c c).1 hc).2.1
 have hdis:isB p l a d=true:=by
  refine comeB_iff.2 (.step (comeB_iff.1 (h.is hc)) ?_)
  unfold chB
  simp only[Bool.and_eq_true,decide_eq_true_eq,Bool.not_eq_true',beq_eq_false_iff_ne,Bool.or_eq_true]
  exact ⟨hl,by rw[hth.2];exact hne,.inr hd⟩
 have hg:∀k,(G k || (k==d))=true↔G k=true∨k=d:=fun k=>by rw[Bool.or_eq_true,beq_iff_eq]
 refine ⟨fun j=>?_,fun j hj=>?_,fun y hy=>?_,fun j=>?_,fun j hj=>?_⟩
 ·rw[hC,h.c]
  constructor
  ·rintro (⟨h1,h2,h3⟩ | ⟨_,h1,h2,h3⟩)
   ·exact ⟨h1,h2,h3.imp id fun ⟨k,hk,h4⟩=>⟨k,(hg k).2 (.inl hk),h4⟩⟩
   ·exact ⟨by omega,h3,.inr ⟨d,(hg d).2 (.inr rfl),h2⟩⟩
  ·rintro ⟨h1,h2,h3⟩
   rcases h3 with h3 | ⟨k,hk,h3⟩
   ·exact .inl ⟨h1,h2,.inl h3⟩
   ·rcases (hg k).1 hk with hk | rfl
    ·exact .inl ⟨h1,h2,.inr ⟨k,hk,h3⟩⟩
    ·exact .inr ⟨Nat.zero_le _,by omega,h3,h2⟩
 ·rcases (hg j).1 hj with hj | rfl
  ·obtain ⟨c',h1,h2⟩:=h.g j hj
   exact ⟨c',(hC c').2 (.inl h1),h2⟩
  ·exact ⟨c,(hC c).2 (.inl hc),hd⟩
 ·rcases hO y hy with hy | hy
  ·obtain ⟨c',h1,h2⟩:=h.o y hy
   exact ⟨c',h1,(hC c').2 (.inl h2)⟩
  ·exact hy
 ·rw[hB,h.b]
  constructor
  ·rintro (⟨h1,h2,k,hk,h3⟩ | ⟨_,h1,h2,h3,_⟩)
   ·exact ⟨h1,h2,k,(hg k).2 (.inl hk),h3⟩
   ·exact ⟨by omega,h3,d,(hg d).2 (.inr rfl),h2⟩
  ·rintro ⟨h1,h2,k,hk,h3⟩
   rcases (hg k).1 hk with hk | rfl
   ·exact .inl ⟨h1,h2,k,hk,h3⟩
   ·refine .inr ⟨Nat.zero_le _,by omega,h3,h2,fun e=>hne ?_⟩
    have:k=a:=by omega
    subst this
    rw[←hth.2]
 ·rcases (hg j).1 hj with hj | rfl
  ·exact h.s j hj
  ·exact hdis
theorem g_clash_Back (p:El T_api_Prog) (a:Int) (hk:k_clash_Back p a=true):Goes (T_clash_Back p a) (T0_clash_Back p a) (v_clash_Back p a):=by
 have hA:=smallA hk
 have hNl:=ofC_len hk
 have kt:k_touch_Of p=true:=hk
 have vt:v_touch_Of p=ofC p:=rfl
 have hacc:∀c,c < (ofC p).length→0≤thA (ofC p) c∧thA (ofC p) c < (p.2.length:Int)∧flowOK (thrOf p (ofC p) c)=true:=fun c hc=>by
  have hm:accA (ofC p) c∈ofC p:=by unfold accA;rw[getD_lt hc];exact List.getElem_mem hc
  obtain ⟨u,x,j,i,h1,h2,h3,h4,h5⟩:=acc_where hm
  have hth:thA (ofC p) c=(u:Int):=h4
  have hu:=(List.getElem?_eq_some_iff.1 h1).1
  have hx:x∈p.2:=List.mem_of_getElem? h1
  refine ⟨by omega,by omega,?_⟩
  unfold thrOf
  rw[hth,Int.toNat_natCast,List.getD_eq_getElem?_getD,h1]
  exact flow_small (hA.thr x hx)
 obtain ⟨l,hl⟩:∃l,ofC p=l:=⟨_,rfl⟩
 rw[hl] at hNl vt hacc
 obtain ⟨T,hT⟩:∃T,T=T_clash_Back p a:=⟨_,rfl⟩
 rw[←hT]
 unfold T0_clash_Back v_clash_Back
 rw[goes_br,if_pos kt,vt,hl,goes_br]
 by_cases h0:a < 0
 ·rw[if_pos (decide_eq_true h0),if_neg (by omega)];exact .leaf
 rw[if_neg (by simpa using h0),goes_br]
 by_cases h1:a≥Int.ofNat l.length
 ·rw[if_pos (decide_eq_true h1),if_neg (by simp at h1;omega)];exact .leaf
 obtain ⟨a,rfl⟩:=Int.eq_ofNat_of_zero_le (show 0≤a by omega)
 have ha:a < l.length:=by simp at h1;omega
 rw[if_neg (by simpa using h1),goes_br,if_pos (bound_len ha),goes_br,Int.toNat_natCast]
 have hval:(if (0:Int)≤(a:Int)∧(a:Int) < (l.length:Int) then listOf l.length (backB p l a) else [])=listOf l.length (backB p l a):=if_pos ⟨by omega,by omega⟩
 rw[hval]
 have hown:(List.getD l a (dflt T_api_Access)).1=thA l a:=rfl
 have hnew:v_bits_New (Int.ofNat l.length)=(((l.length:Nat):Int),[]):=by
  unfold v_bits_New
  simp
  omega
 rw[hown,hnew]
 have kb:∀(x:Nat) (come:SetT) (o:List Int) (b:SetT),x < l.length→o.length < 1099511627776→k_clash_Back_1 (x:Int) l (thA l a) come o (a:Int) b=true:=fun x come o b hx ho=>decide_eq_true ⟨by omega,by omega,by omega,ho⟩
 have fin:∀(C G B:Nat→Bool) (sc sg sb:SetT),SetOK sb l.length B→BInv p l a C G B []→
   (∀c,C c=true→(c:Int)∈([]:List Int)∨∀d,behB p l c d=true→G d=true)→Goes T (.jmp (.l11 l sb.1 [] (thA l a) (a:Int) sb.2 sc.1 sc.2 sg.1 sg.2)) (listOf l.length (backB p l a)):=by
  intro C G B sc sg sb hb hi hp
  rw[goes_jmp,hT,T_clash_Back,←hT,goes_br,if_neg (by decide)]
  have hkl:k_bits_Set_List (sb.1,sb.2)=true:=Nat.ble_eq_true_of_le (by have:=hb.few;unfold limit;show sb.2.length*512≤_;omega)
  rw[goes_br,if_pos hkl]
  have hGi:∀d,G d=isB p l a d:=gone_is hi.c (fun d=>⟨hi.g d,fun ⟨c,h1,h2⟩=>(hp c h1).elim (fun h=>by cases h) fun h=>h d h2⟩) hi.s
  have hv:(v_bits_Set_List (sb.1,sb.2)).1=listOf l.length (backB p l a):=by
   show listS sb=_
   rw[hb.list (by omega)]
   refine listOf_congr fun j hj=>?_
   unfold backB
   rw[Bool.eq_iff_iff,hi.b,Bool.and_eq_true,beq_iff_eq,List.any_eq_true]
   constructor
   ·rintro ⟨_,h2,k,hk,h3⟩
    rw[hGi] at hk
    exact ⟨h2,k,List.mem_range.2 (is_lt hk).1,by rw[hk,h3];rfl⟩
   ·rintro ⟨h2,k,_,h3⟩
    rw[Bool.and_eq_true] at h3
    exact ⟨hj,h2,k,by rw[hGi];exact h3.1,h3.2⟩
  rw[hv]
  exact .leaf
 have loop:∀m,∀(C G B:Nat→Bool) (sc sg sb:SetT) (O:List Int),2*(l.length - card l.length C)+O.length≤m→O.length≤card l.length C→SetOK sc l.length C→SetOK sg l.length G→SetOK sb l.length B→BInv p l a C G B O→
   (∀c,C c=true→(c:Int)∈O∨∀d,behB p l c d=true→G d=true)→Goes T (.jmp (.l11 l sb.1 O (thA l a) (a:Int) sb.2 sc.1 sc.2 sg.1 sg.2)) (listOf l.length (backB p l a)):=by
  intro m
  induction m with
  | zero=>
   intro C G B sc sg sb O hm hO1 hc hg hb hi hp
   have:O=[]:=List.eq_nil_of_length_eq_zero (by omega)
   subst this
   exact fin C G B sc sg sb hb hi hp
  | succ m ih=>
   intro C G B sc sg sb O hm hO1 hc hg hb hi hp
   cases O with
   | nil=>exact fin C G B sc sg sb hb hi hp
   | cons x O=>
    obtain ⟨c,rfl,hCc⟩:=hi.o x (by simp)
    have hcl:=((hi.c c).1 hCc).1
    have hcard:= @card_le l.length C
    obtain ⟨q1,q2,q3⟩:=hacc c hcl
    have kbh:k_clash_behind p l (c:Int)=true:=by
     unfold k_clash_behind
     rw[Int.toNat_natCast,q3,decide_eq_true ⟨by omega,by omega,by omega⟩,decide_eq_true ⟨q1,q2⟩];rfl
    have e0:List.getD ((c:Int) :: O) 0 (dflt (.int .i64))=(c:Int):=rfl
    have g1:decide (Int.ofNat ((c:Int) :: O).length > (0:Int))=true:=decide_eq_true (by simp <;> omega)
    have g2:decide ((0:Int) < Int.ofNat ((c:Int) :: O).length)=true:=decide_eq_true (by simp <;> omega)
    have g3:Nat.ble 1 ((c:Int) :: O).length=true:=Nat.ble_eq_true_of_le (by simp)
    rw[goes_jmp,hT,T_clash_Back,←hT,goes_br,if_pos g1,goes_br,if_pos g2,goes_br,if_pos g3,e0,goes_br,if_pos kbh]
    obtain ⟨L,hL⟩:∃L,v_clash_behind p l (c:Int)=L:=⟨_,rfl⟩
    have hLm:∀y,y∈L↔∃d:Nat,d < l.length∧behB p l c d=true∧y=(d:Int):=fun y=>by rw[←hL];unfold v_clash_behind;rw[Int.toNat_natCast];exact listOf_mem
    have hLl:L.length≤l.length:=by rw[←hL];unfold v_clash_behind;rw[listOf_length];exact card_le
    rw[hL,show List.drop 1 ((c:Int) :: O)=O from rfl]
    have inner:∀h,h≤L.length→∀(C G B:Nat→Bool) (sc sg sb:SetT) (O:List Int),2*(l.length - card l.length C)+O.length≤m→O.length≤card l.length C→SetOK sc l.length C→SetOK sg l.length G→SetOK sb l.length B→BInv p l a C G B O→C c=true→
      (∀c',C c'=true→c'≠c→(c':Int)∈O∨∀d,behB p l c' d=true→G d=true)→(∀d,behB p l c d=true→G d=true∨(d:Int)∈L.drop h)→
      Goes T (.jmp (.l17 (Int.ofNat L.length) l L sb.1 O (thA l a) (a:Int) sb.2 sc.1 sc.2 (h:Int) sg.1 sg.2)) (listOf l.length (backB p l a)):=by
     refine down ?_ fun h hh ih2=>?_
     ·intro C G B sc sg sb O hm hO1 hc hg hb hi hCc hp hcur
      rw[goes_jmp,hT,T_clash_Back,←hT,goes_br,if_neg (by simp)]
      refine ih C G B sc sg sb O hm hO1 hc hg hb hi fun c' hc'=>?_
      by_cases e:c'=c
      ·subst e
       right
       intro d hd
       rcases hcur d hd with h1 | h1
       ·exact h1
       ·rw[List.drop_length] at h1;cases h1
      ·exact hp c' hc' e
     ·intro C G B sc sg sb O hm hO1 hc hg hb hi hCc hp hcur
      obtain ⟨d,hd,hbd,hde⟩:=(hLm L[h]).1 (List.getElem_mem hh)
      have hcard:= @card_le l.length C
      obtain ⟨p1,p2⟩:=hg.putO (by omega) hd
      have hput:v_bits_Set_Put (sg.1,sg.2) (d:Int)=putS sg (d:Int):=rfl
      have hkb:=kb d (sc.1,sc.2) O (sb.1,sb.2) hd (by omega)
      rw[goes_jmp,hT,T_clash_Back,←hT,goes_br,if_pos (lt_len hh),goes_br,if_pos (bound_len hh),Int.toNat_natCast,getD_lt hh,hde,hput,wrap_succ (by omega),goes_br]
      have hdrop:=drop_cons hh
      cases hGd:G d with
      | true=>
       rw[hGd] at p1
       rw[if_neg (by rw[p1];decide)]
       have e:∀k,(G k || (k==d))=G k:=fun k=>by
        by_cases hk:k=d
        ·subst hk;rw[hGd];rfl
        ·have:(k==d)=false:=by simpa using hk
         rw[this,Bool.or_false]
       refine ih2 C G B sc _ sb O hm hO1 hc (p2.congr' e) hb hi hCc hp fun d' hd'=>?_
       rcases hcur d' hd' with h1 | h1
       ·exact .inl h1
       ·rw[hdrop] at h1
        rcases List.mem_cons.1 h1 with h1 | h1
        ·rw[hde] at h1
         have:d'=d:=by omega
         subst this
         exact .inl hGd
        ·exact .inr h1
      | false=>
       rw[hGd] at p1
       rw[if_pos (by rw[p1];rfl),goes_br,if_pos hkb]
       obtain ⟨C',B',b1,b2,b3,b4,b5,b6,b7,b8⟩:=meetF_ok (l:=l) (x:=d) (own:=thA l a) (a:=(a:Int)) l.length 0 (sc,O,sb) C B (by omega) (by omega) hc hb
       have hv:v_clash_Back_1 (d:Int) l (thA l a) (sc.1,sc.2) O (a:Int) (sb.1,sb.2)=(l,thA l a,(meetF l (d:Int) (thA l a) (a:Int) (List.range' 0 l.length) (sc,O,sb)).1,(meetF l (d:Int) (thA l a) (a:Int) (List.range' 0 l.length) (sc,O,sb)).2.1,(a:Int),(meetF l (d:Int) (thA l a) (a:Int) (List.range' 0 l.length) (sc,O,sb)).2.2):=rfl
       rw[hv]
       generalize meetF l (d:Int) (thA l a) (a:Int) (List.range' 0 l.length) (sc,O,sb)=R at*
       have hi':=hi.meet (O':=R.2.1) hCc hbd hd b3 b4 b6
       have hcl2:= @card_le l.length C'
       simp only at b5 b6 b7 b8
       have b8':R.2.1.length+card l.length C=O.length+card l.length C':=b8
       have hcm:card l.length C≤card l.length C':=card_mono fun j h=>(b3 j).2 (.inl h)
       have m1:2*(l.length - card l.length C')+R.2.1.length≤m:=by omega
       have m2:R.2.1.length≤card l.length C':=by omega
       refine ih2 C' _ B' R.1 _ R.2.2 R.2.1 m1 m2 b1 p2 b2 hi' ((b3 c).2 (.inl hCc)) (fun c' hc' hne=>?_) fun d' hd'=>?_
       ·rcases b7 c' hc' with h1 | h1
        ·rcases hp c' h1 hne with h2 | h2
         ·exact .inl (b5 _ h2)
         ·exact .inr fun d'' hd''=>by rw[h2 d'' hd''];rfl
        ·exact .inl h1
       ·rcases hcur d' hd' with h1 | h1
        ·left;rw[h1];rfl
        ·rw[hdrop] at h1
         rcases List.mem_cons.1 h1 with h1 | h1
         ·rw[hde] at h1
          have:d'=d:=by omega
          subst this
          left;simp
         ·exact .inr h1
    refine inner 0 (Nat.zero_le _) C G B sc sg sb O (by simp at hm;omega) (by simp at hO1;omega) hc hg hb ⟨hi.c,hi.g,fun y hy=>hi.o y (List.mem_cons_of_mem _ hy),hi.b,hi.s⟩ hCc (fun c' hc' hne=>?_) fun d hd=>?_
    ·rcases hp c' hc' with h1 | h1
     ·rcases List.mem_cons.1 h1 with h1 | h1
      ·exact absurd (by omega) hne
      ·exact .inl h1
     ·exact .inr h1
    ·exact .inr (by rw[List.drop_zero];exact (hLm _).2 ⟨d,(behB_lt hd).1,hd,rfl⟩)
 rw[if_pos (kb a _ [] _ ha (by simp))]
 obtain ⟨C',B',b1,b2,b3,b4,b5,b6,b7,b8⟩:=meetF_ok (l:=l) (x:=a) (own:=thA l a) (a:=(a:Int)) l.length 0 ((((l.length:Nat):Int),[]),[],(((l.length:Nat):Int),[])) (fun _=>false) (fun _=>false) (by omega) (by omega) (SetOK.new _) (SetOK.new _)
 have hv:v_clash_Back_1 (a:Int) l (thA l a) (((l.length:Nat):Int),[]) [] (a:Int) (((l.length:Nat):Int),[])=(l,thA l a,(meetF l (a:Int) (thA l a) (a:Int) (List.range' 0 l.length) ((((l.length:Nat):Int),[]),[],(((l.length:Nat):Int),[]))).1,(meetF l (a:Int) (thA l a) (a:Int) (List.range' 0 l.length) ((((l.length:Nat):Int),[]),[],(((l.length:Nat):Int),[]))).2.1,(a:Int),(meetF l (a:Int) (thA l a) (a:Int) (List.range' 0 l.length) ((((l.length:Nat):Int),[]),[],(((l.length:Nat):Int),[]))).2.2):=rfl
 rw[hv]
 generalize meetF l (a:Int) (thA l a) (a:Int) (List.range' 0 l.length) ((((l.length:Nat):Int),[]),[],(((l.length:Nat):Int),[]))=R at*
 simp only at b5 b6 b7 b8
 have hcl2:= @card_le l.length C'
 have h00:card l.length (fun _=>false)=0:=by unfold card;simp
 rw[h00] at b8
 refine loop _ C' (fun _=>false) B' R.1 (((l.length:Nat):Int),[]) R.2.2 R.2.1 (Nat.le_refl _) (by simp at b8;omega) b1 (SetOK.new _) b2 ⟨fun c=>?_,fun d hd=>(by cases hd),fun y hy=>?_,fun b=>?_,fun d hd=>(by cases hd)⟩ fun c hc=>?_
 ·rw[b3]
  constructor
  ·rintro (h | ⟨_,h1,h2,h3⟩)
   ·cases h
   ·exact ⟨by omega,h3,.inl h2⟩
  ·rintro ⟨h1,h2,h3 | ⟨k,hk,_⟩⟩
   ·exact .inr ⟨Nat.zero_le _,by omega,h3,h2⟩
   ·cases hk
 ·rcases b6 y hy with h | h
  ·cases h
  ·exact h
 ·rw[b4]
  constructor
  ·rintro (h | ⟨_,_,_,_,h⟩)
   ·cases h
   ·exact absurd rfl h
  ·rintro ⟨_,_,k,hk,_⟩
   cases hk
 ·rcases b7 c hc with h | h
  ·cases h
  ·exact .inl h
end Go.Ev
end

section
open Go Go.Ev
namespace Go.Ev
noncomputable section
noncomputable def e_clash_Back:Run:=entG sg_clash_Back R_clash_Back (fun a=>k_clash_Back a.1 a.2.1) (fun a=>v_clash_Back a.1 a.2.1)
theorem ok_clash_Back:EntOK Go.Proofs.Tryz.prog 55 e_clash_Back:=entG_ok (tb:=tb_clash_Back) (c:=c_clash_Back) tk_clash_Back (by kernel_rfl) (by kernel_rfl) (by kernel_rfl) (fun a=>by kernel_rfl) fun ⟨p,a,_⟩ hk=>evF_goes (c:=c_clash_Back) (K:=fun v=>(R_clash_Back v,tps (toForms sg_clash_Back (p,a,())))) (S:=S_clash_Back p a) (by kernel_rfl) (en_clash_Back p a) (lp_clash_Back p a) (g_clash_Back p a hk)
end
end Go.Ev
end

section
open Go Go.Ev
namespace Go.Ev
noncomputable section
def dpB:Code:=Go.Proofs.Tryz.f26.body.getD .skip
def lpR1 (K:Code):Code:=fstC (innC (innC K))
def lpB (K:Code):Code:=innC (fstC (sndC (sndC (innC (innC K)))))
def lpR2 (K:Code):Code:=sndC (sndC (sndC (innC (innC K))))
def dp0:Code:=fstC dpB
def dp1:Code:=fstC (sndC dpB)
def dp2:Code:=fstC (sndC (sndC dpB))
def dp3:Code:=fstC (fstC (sndC (sndC (sndC dpB))))
def dpK0:Code:=sndC (fstC (sndC (sndC (sndC dpB))))
def dpE:Code:=fstC (sndC (sndC (sndC (sndC dpB))))
def dpT:Tbl:=[(49,e_touch_Of),(50,e_delay_plain),(51,e_bits_New),(52,e_flow_From),(53,e_bits_Set_Put),(54,e_bits_Set_Has),(55,e_clash_Back)]
theorem dpT_ok:∀p∈dpT,EntOK Go.Proofs.Tryz.prog p.1 p.2:=tbl_cons ok_touch_Of (tbl_cons ok_delay_plain (tbl_cons ok_bits_New (tbl_cons ok_flow_From (tbl_cons ok_bits_Set_Put (tbl_cons ok_bits_Set_Has (tbl_cons ok_clash_Back (tbl_nil)))))))
theorem dpB_eq:dpB=.seq dp0 (.seq dp1 (.seq dp2 (.seq (.seq dp3 dpK0) (.seq dpE .ret)))):=by kernel_rfl
theorem dpK0_eq:dpK0=.block 0 (.loop (.seq (lpR1 dpK0) (.seq (.cond (.tmp 23) .skip (.exit 0)) (.seq (.block 1 (lpB dpK0)) (lpR2 dpK0))))):=by kernel_rfl
def dp4:Code:=fstC (lpB dpK0)
def dp5:Code:=fstC (sndC (lpB dpK0))
def dp6:Code:=fstC (sndC (sndC (lpB dpK0)))
def dpK2:Code:=sndC (sndC (sndC (lpB dpK0)))
theorem dpB1_eq:lpB dpK0=.seq dp4 (.seq (.region (ridC dp5) (ropsC dp5) false) (.seq dp6 dpK2)):=by kernel_rfl
theorem dpK2_eq:dpK2=.block 2 (.loop (.seq (lpR1 dpK2) (.seq (.cond (.tmp 32) .skip (.exit 2)) (.seq (.block 3 (lpB dpK2)) (lpR2 dpK2))))):=by kernel_rfl
def dp7:Code:=fstC (lpB dpK2)
def dp8:Code:=fstC (sndC (lpB dpK2))
def dp9:Code:=fstC (fstC (sndC (sndC (lpB dpK2))))
def dpK4:Code:=sndC (fstC (sndC (sndC (lpB dpK2))))
def dp10:Code:=fstC (sndC (sndC (sndC (lpB dpK2))))
def dpK6:Code:=sndC (sndC (sndC (sndC (lpB dpK2))))
theorem dpB3_eq:lpB dpK2=.seq dp7 (.seq dp8 (.seq (.seq dp9 dpK4) (.seq dp10 dpK6))):=by kernel_rfl
theorem dpK4_eq:dpK4=.block 4 (.loop (.seq (lpR1 dpK4) (.seq (.cond (.tmp 56) .skip (.exit 4)) (.seq (.block 5 (lpB dpK4)) (lpR2 dpK4))))):=by kernel_rfl
theorem dpK6_eq:dpK6=.block 6 (.loop (.seq (lpR1 dpK6) (.seq (.cond (.tmp 68) .skip (.exit 6)) (.seq (.block 7 (lpB dpK6)) (lpR2 dpK6))))):=by kernel_rfl
def dp11:Code:=fstC (lpB dpK6)
def dp12:Code:=fstC (fstC (sndC (lpB dpK6)))
def dpX1:Code:=fstC (sndC (sndC (lpB dpK6)))
def dp13:Code:=fstC dpX1
def dpY:Code:=thenC (sndC dpX1)
def dp14:Code:=fstC dpY
def dp15:Code:=fstC (sndC dpY)
def dpK8:Code:=sndC (sndC dpY)
def dp16:Code:=fstC (sndC (sndC (sndC (lpB dpK6))))
def dp17:Code:=thenC (sndC (sndC (sndC (sndC (lpB dpK6)))))
theorem dpB7_eq:lpB dpK6=.seq dp11 (.seq (.seq dp12 (.cond (.tmp 78) (.exit 7) .skip)) (.seq (.seq (.region (ridC dp13) (ropsC dp13) false) (.cond (.tmp 82) (.seq (.region (ridC dp14) (ropsC dp14) false) (.seq dp15 dpK8)) .skip)) (.seq (.region (ridC dp16) (ropsC dp16) false) (.cond (.tmp 106) dp17 .skip)))):=by kernel_rfl
theorem dpK8_eq:dpK8=.block 8 (.loop (.seq (lpR1 dpK8) (.seq (.cond (.tmp 93) .skip (.exit 8)) (.seq (.block 9 (lpB dpK8)) (lpR2 dpK8))))):=by kernel_rfl
def dp18:Code:=fstC (lpB dpK8)
def dp19:Code:=sndC (lpB dpK8)
theorem dpB9_eq:lpB dpK8=.seq dp18 (.region (ridC dp19) (ropsC dp19) false):=by kernel_rfl
abbrev SetD:=Int×List (El (.int .i64)×El (.int .u64))
def dObP (p:El T_api_Prog):Id×Nat×Obj:=(2,0,.box 27 [.d (.sl T_api_Sym) p.1,.d (.sl (.sl T_api_Ins)) p.2] none)
def dObO (out:List (El T_api_Pair)):Id×Nat×Obj:=(5,0,.row 70 T_api_Pair out false)
def stA (p:El T_api_Prog) (l:List (El T_api_Access)) (out:List (El T_api_Pair)) (t:Int):St:=
 ⟨mkTm 126 [(1,.pt 2 0 0),(3,.d (.sl T_api_Access) l),(4,.own 5 0 none),(21,.d (.int .i64) (Int.ofNat (List.length p.2))),(22,.d (.int .i64) t)],[dObP p,dObO out]⟩
def labA:Lab:=⟨[1,3,4,21,22],[(5,118)]⟩
def stA5 (p:El T_api_Prog) (l:List (El T_api_Access)) (out:List (El T_api_Pair)) (t:Int):St:=
 ⟨mkTm 126 [(1,.pt 2 0 0),(3,.d (.sl T_api_Access) l),(4,.own 5 0 none),(5,.d (.int .i64) t),(21,.d (.int .i64) (Int.ofNat (List.length p.2))),(22,.d (.int .i64) t)],[dObP p,dObO out]⟩
def labA5:Lab:=⟨[1,3,4,5,21,22],[(5,118)]⟩
def stB (p:El T_api_Prog) (l:List (El T_api_Access)) (out:List (El T_api_Pair)) (t:Int) (m:Nat) (ss:List Int) (k:Int):St:=
 ⟨mkTm 126 [(1,.pt 2 0 0),(3,.d (.sl T_api_Access) l),(4,.own 5 0 none),(5,.d (.int .i64) t),(7,.cst (.map (some m))),(21,.d (.int .i64) (Int.ofNat (List.length p.2))),(22,.d (.int .i64) t),(29,.own 30 0 none),(30,.d (.int .i64) (Int.ofNat (List.length ss))),(31,.d (.int .i64) k)],[dObP p,dObO out,(30,0,.row 3 (.int .i64) ss false)]⟩
def labB:Lab:=⟨[1,3,4,5,7,21,22,29,30,31],[(5,118)]⟩
def stB9 (p:El T_api_Prog) (l:List (El T_api_Access)) (out:List (El T_api_Pair)) (t:Int) (m:Nat) (ss:List Int) (k s:Int):St:=
 ⟨mkTm 126 [(1,.pt 2 0 0),(3,.d (.sl T_api_Access) l),(4,.own 5 0 none),(5,.d (.int .i64) t),(7,.cst (.map (some m))),(9,.d (.int .i64) s),(21,.d (.int .i64) (Int.ofNat (List.length p.2))),(22,.d (.int .i64) t),(29,.own 30 0 none),(30,.d (.int .i64) (Int.ofNat (List.length ss))),(31,.d (.int .i64) k)],[dObP p,dObO out,(30,0,.row 3 (.int .i64) ss false)]⟩
def labB9:Lab:=⟨[1,3,4,5,7,9,21,22,29,30,31],[(5,118)]⟩
def stB10 (p:El T_api_Prog) (l:List (El T_api_Access)) (out:List (El T_api_Pair)) (t:Int) (m:Nat) (ss:List Int) (k s:Int) (fr:SetD):St:=
 ⟨mkTm 126 [(1,.pt 2 0 0),(3,.d (.sl T_api_Access) l),(4,.own 5 0 none),(5,.d (.int .i64) t),(7,.cst (.map (some m))),(9,.d (.int .i64) s),(10,.pt 11 0 0),(21,.d (.int .i64) (Int.ofNat (List.length p.2))),(22,.d (.int .i64) t),(29,.own 30 0 none),(30,.d (.int .i64) (Int.ofNat (List.length ss))),(31,.d (.int .i64) k)],[dObP p,dObO out,(11,0,.box 117 [.d (.int .i64) fr.1,.mp 11266 0] none),(30,0,.row 3 (.int .i64) ss false),(11266,0,.map (.int .i64) (.int .u64) fr.2)]⟩
def labB10:Lab:=⟨[1,3,4,5,7,9,10,21,22,29,30,31],[(5,118)]⟩
def stC (p:El T_api_Prog) (l:List (El T_api_Access)) (out:List (El T_api_Pair)) (t:Int) (m:Nat) (ss:List Int) (k s:Int) (fr:SetD) (fs:List Int) (j:Int):St:=
 ⟨mkTm 126 [(1,.pt 2 0 0),(3,.d (.sl T_api_Access) l),(4,.own 5 0 none),(5,.d (.int .i64) t),(7,.cst (.map (some m))),(9,.d (.int .i64) s),(10,.pt 11 0 0),(21,.d (.int .i64) (Int.ofNat (List.length p.2))),(22,.d (.int .i64) t),(29,.own 30 0 none),(30,.d (.int .i64) (Int.ofNat (List.length ss))),(31,.d (.int .i64) k),(53,.own 54 0 none),(54,.d (.int .i64) (Int.ofNat (List.length fs))),(55,.d (.int .i64) j)],[dObP p,dObO out,(11,0,.box 117 [.d (.int .i64) fr.1,.mp 11266 0] none),(30,0,.row 3 (.int .i64) ss false),(54,0,.row 3 (.int .i64) fs false),(11266,0,.map (.int .i64) (.int .u64) fr.2)]⟩
def labC:Lab:=⟨[1,3,4,5,7,9,10,21,22,29,30,31,53,54,55],[(5,118)]⟩
def stD (p:El T_api_Prog) (l:List (El T_api_Access)) (out:List (El T_api_Pair)) (t:Int) (m:Nat) (ss:List Int) (k s:Int) (fr:SetD) (ls:List Int) (j:Int):St:=
 ⟨mkTm 126 [(1,.pt 2 0 0),(3,.d (.sl T_api_Access) l),(4,.own 5 0 none),(5,.d (.int .i64) t),(7,.cst (.map (some m))),(9,.d (.int .i64) s),(10,.pt 11 0 0),(21,.d (.int .i64) (Int.ofNat (List.length p.2))),(22,.d (.int .i64) t),(29,.own 30 0 none),(30,.d (.int .i64) (Int.ofNat (List.length ss))),(31,.d (.int .i64) k),(65,.own 66 0 none),(66,.d (.int .i64) (Int.ofNat (List.length ls))),(67,.d (.int .i64) j)],[dObP p,dObO out,(11,0,.box 117 [.d (.int .i64) fr.1,.mp 11266 0] none),(30,0,.row 3 (.int .i64) ss false),(66,0,.row 3 (.int .i64) ls false),(11266,0,.map (.int .i64) (.int .u64) fr.2)]⟩
def labD:Lab:=⟨[1,3,4,5,7,9,10,21,22,29,30,31,65,66,67],[(5,118)]⟩
def stD14 (p:El T_api_Prog) (l:List (El T_api_Access)) (out:List (El T_api_Pair)) (t:Int) (m:Nat) (ss:List Int) (k s:Int) (fr:SetD) (ls:List Int) (j r:Int):St:=
 ⟨mkTm 126 [(1,.pt 2 0 0),(3,.d (.sl T_api_Access) l),(4,.own 5 0 none),(5,.d (.int .i64) t),(7,.cst (.map (some m))),(9,.d (.int .i64) s),(10,.pt 11 0 0),(14,.d (.int .i64) r),(21,.d (.int .i64) (Int.ofNat (List.length p.2))),(22,.d (.int .i64) t),(29,.own 30 0 none),(30,.d (.int .i64) (Int.ofNat (List.length ss))),(31,.d (.int .i64) k),(65,.own 66 0 none),(66,.d (.int .i64) (Int.ofNat (List.length ls))),(67,.d (.int .i64) j)],[dObP p,dObO out,(11,0,.box 117 [.d (.int .i64) fr.1,.mp 11266 0] none),(30,0,.row 3 (.int .i64) ss false),(66,0,.row 3 (.int .i64) ls false),(11266,0,.map (.int .i64) (.int .u64) fr.2)]⟩
def labD14:Lab:=⟨[1,3,4,5,7,9,10,14,21,22,29,30,31,65,66,67],[(5,118)]⟩
def stE (p:El T_api_Prog) (l:List (El T_api_Access)) (out:List (El T_api_Pair)) (t:Int) (m:Nat) (ss:List Int) (k s:Int) (fr:SetD) (ls:List Int) (j r:Int) (bs:List Int) (i:Int):St:=
 ⟨mkTm 126 [(1,.pt 2 0 0),(3,.d (.sl T_api_Access) l),(4,.own 5 0 none),(5,.d (.int .i64) t),(7,.cst (.map (some m))),(9,.d (.int .i64) s),(10,.pt 11 0 0),(14,.d (.int .i64) r),(21,.d (.int .i64) (Int.ofNat (List.length p.2))),(22,.d (.int .i64) t),(29,.own 30 0 none),(30,.d (.int .i64) (Int.ofNat (List.length ss))),(31,.d (.int .i64) k),(65,.own 66 0 none),(66,.d (.int .i64) (Int.ofNat (List.length ls))),(67,.d (.int .i64) j),(90,.own 91 0 none),(91,.d (.int .i64) (Int.ofNat (List.length bs))),(92,.d (.int .i64) i)],[dObP p,dObO out,(11,0,.box 117 [.d (.int .i64) fr.1,.mp 11266 0] none),(30,0,.row 3 (.int .i64) ss false),(66,0,.row 3 (.int .i64) ls false),(91,0,.row 3 (.int .i64) bs false),(11266,0,.map (.int .i64) (.int .u64) fr.2)]⟩
def labE:Lab:=⟨[1,3,4,5,7,9,10,14,21,22,29,30,31,65,66,67,90,91,92],[(5,118)]⟩
end
end Go.Ev
end

section
open Go Go.Ev
namespace Go.Ev
noncomputable section
abbrev dEv (c:Code) (lab:Lab) (s s':St):Prop:=∀(L:Lt) (k:Kt) (x:Nat→Kt) (r:Kt),evC Go.Proofs.Tryz.prog (clOf dpT) [] L c 0 (fun t=>k (norm Go.Proofs.Tryz.prog lab t)) x r s=k s'
abbrev dEvI (c:Code) (s s':St):Prop:=∀(L:Lt) (k:Kt) (x:Nat→Kt) (r:Kt),evC Go.Proofs.Tryz.prog (clOf dpT) [] L c 0 (fun t=>k t) x r s=k s'
abbrev dEvG (c:Code) (lab:Lab) (s s':St) (b:Bool):Prop:=∀(L:Lt) (k:Kt) (x:Nat→Kt) (r:Kt),evC Go.Proofs.Tryz.prog (clOf dpT) [] L c 0 (fun t=>k (norm Go.Proofs.Tryz.prog lab t)) x r s=bif b then k s' else none
theorem dEvG.ok {c:Code} {lab:Lab} {s s':St} {b:Bool} (h:dEvG c lab s s' b) (hb:b=true):dEv c lab s s':=fun L k x r=>by rw[h,hb];rfl
section
variable (p:El T_api_Prog) (l:List (El T_api_Access)) (out:List (El T_api_Pair)) (t:Int) (m:Nat) (ss:List Int) (k s:Int) (fr:SetD) (fs:List Int) (j:Int) (ls:List Int) (r:Int) (bs:List Int) (i:Int) (b:Bool)
def dS0:St:=⟨.ag [.d (.sl T_api_Sym) p.1,.d (.sl (.sl T_api_Ins)) p.2] :: tops 125,[]⟩
def dS1:St:=⟨mkTm 126 [(1,.pt 2 0 0)],[dObP p]⟩
def dS2:St:=⟨mkTm 126 [(1,.pt 2 0 0),(3,.d (.sl T_api_Access) l)],[dObP p]⟩
def dS3:St:=⟨mkTm 126 [(1,.pt 2 0 0),(3,.d (.sl T_api_Access) l),(4,.own 5 0 none)],[dObP p,dObO []]⟩
@[reducible] def inB (i:Int) (n:Nat):Bool:=decide ((0:Int)≤i)&&decide (i < Int.ofNat n)
theorem dp_0:dEv dp0 ⟨[1],[]⟩ (dS0 p) (dS1 p):=fun L k x r=>by kernel_rfl
theorem dp_1:dEvG dp1 ⟨[1,3],[]⟩ (dS1 p) (dS2 p (v_touch_Of p)) (k_touch_Of p):=fun L k x r=>by kernel_rfl
theorem dp_2:dEv dp2 ⟨[1,3,4],[(5,118)]⟩ (dS2 p l) (dS3 p l):=fun L k x r=>by kernel_rfl
theorem dp_3:dEv dp3 labA (dS3 p l) (stA p l [] 0):=fun L k x r=>by kernel_rfl
theorem dp_A1:dEvI (lpR1 dpK0) (stA p l out t) ((stA p l out t).put (some 23) (.d .bool (decide (t < Int.ofNat (List.length p.2))))):=fun L k x r=>by kernel_rfl
theorem dp_4:dEv dp4 labA5 ((stA p l out t).put (some 23) (.d .bool b)) (stA5 p l out t):=fun L k x r=>by kernel_rfl
theorem dp_B1:dEvI (lpR1 dpK2) (stB p l out t m ss k) ((stB p l out t m ss k).put (some 32) (.d .bool (decide (k < Int.ofNat (List.length ss))))):=fun L k x r=>by kernel_rfl
theorem dp_7:dEvG dp7 labB9 ((stB p l out t m ss k).put (some 32) (.d .bool b)) (stB9 p l out t m ss k (List.getD ss (Int.toNat k) (dflt (.int .i64)))) (inB k (List.length ss)):=fun L k x r=>by kernel_rfl
theorem dp_8:dEvG dp8 labB10 (stB9 p l out t m ss k s) (stB10 p l out t m ss k s (v_bits_New (Int.ofNat (List.length (List.getD p.2 (Int.toNat t) (dflt (.sl T_api_Ins))))))) (inB t (List.length p.2)):=fun L k x r=>by kernel_rfl
theorem dp_9:dEvG dp9 labC (stB10 p l out t m ss k s fr) (stC p l out t m ss k s fr (v_flow_From (List.getD p.2 (Int.toNat t) (dflt (.sl T_api_Ins))) (List.getD l (Int.toNat s) (dflt T_api_Access)).2.1) 0) (bif inB t (List.length p.2) then (bif inB s (List.length l) then k_flow_From (List.getD p.2 (Int.toNat t) (dflt (.sl T_api_Ins))) (List.getD l (Int.toNat s) (dflt T_api_Access)).2.1 else false) else false):=fun L k x r=>by
 rw[show ∀(a b c:Bool) (u:Option Ans),(bif (bif a then (bif b then c else false) else false) then u else none)=(bif a then (bif b then (bif c then u else none) else none) else none) from fun a b c u=>by cases a <;> cases b <;> rfl]
 kernel_rfl
theorem dp_C1:dEvI (lpR1 dpK4) (stC p l out t m ss k s fr fs j) ((stC p l out t m ss k s fr fs j).put (some 56) (.d .bool (decide (j < Int.ofNat (List.length fs))))):=fun L k x r=>by kernel_rfl
theorem dp_C2:dEvG (lpB dpK4) labC ((stC p l out t m ss k s fr fs j).put (some 56) (.d .bool b)) (stC p l out t m ss k s (v_bits_Set_Put fr (List.getD fs (Int.toNat j) (dflt (.int .i64)))).2 fs j) (inB j (List.length fs)):=fun L k x r=>by kernel_rfl
theorem dp_C3:dEv (lpR2 dpK4) labC (stC p l out t m ss k s fr fs j) (stC p l out t m ss k s fr fs (IntKind.i64.wrap (j+1))):=fun L k x r=>by kernel_rfl
theorem dp_10:dEvG dp10 labD ((stC p l out t m ss k s fr fs j).put (some 56) (.d .bool b)) (stD p l out t m ss k s fr (v_delay_plain l t false) 0) (k_delay_plain l t false):=fun L k x r=>by kernel_rfl
theorem dp_D1:dEvI (lpR1 dpK6) (stD p l out t m ss k s fr ls j) ((stD p l out t m ss k s fr ls j).put (some 68) (.d .bool (decide (j < Int.ofNat (List.length ls))))):=fun L k x r=>by kernel_rfl
theorem dp_11:dEvG dp11 labD14 ((stD p l out t m ss k s fr ls j).put (some 68) (.d .bool b)) (stD14 p l out t m ss k s fr ls j (List.getD ls (Int.toNat j) (dflt (.int .i64)))) (inB j (List.length ls)):=fun L k x r=>by kernel_rfl
def labD78:Lab:=⟨[1,3,4,5,7,9,10,14,21,22,29,30,31,65,66,67,78],[(5,118)]⟩
theorem dp_12:dEvG dp12 labD78 (stD14 p l out t m ss k s fr ls j r) ((stD14 p l out t m ss k s fr ls j r).put (some 78) (.d .bool (! (v_bits_Set_Has fr (List.getD l (Int.toNat r) (dflt T_api_Access)).2.1).1))) (inB r (List.length l)):=fun L k x r=>by kernel_rfl
theorem dn_D:norm Go.Proofs.Tryz.prog labD ((stD14 p l out t m ss k s fr ls j r).put (some 78) (.d .bool b))=stD p l out t m ss k s fr ls j:=by kernel_rfl
theorem dn_D14:norm Go.Proofs.Tryz.prog labD14 ((stD14 p l out t m ss k s fr ls j r).put (some 78) (.d .bool b))=stD14 p l out t m ss k s fr ls j r:=by kernel_rfl
theorem dp_D2:dEv (lpR2 dpK6) labD (stD p l out t m ss k s fr ls j) (stD p l out t m ss k s fr ls (IntKind.i64.wrap (j+1))):=fun L k x r=>by kernel_rfl
theorem dp_15:dEvG dp15 labE (stD14 p l out t m ss k s fr ls j r) (stE p l out t m ss k s fr ls j r (v_clash_Back p r) 0) (k_clash_Back p r):=fun L k x r=>by kernel_rfl
theorem dp_E1:dEvI (lpR1 dpK8) (stE p l out t m ss k s fr ls j r bs i) ((stE p l out t m ss k s fr ls j r bs i).put (some 93) (.d .bool (decide (i < Int.ofNat (List.length bs))))):=fun L k x r=>by kernel_rfl
def labE16:Lab:=⟨[1,3,4,5,7,9,10,14,16,21,22,29,30,31,65,66,67,90,91,92],[(5,118)]⟩
theorem dp_18:dEvG dp18 labE16 ((stE p l out t m ss k s fr ls j r bs i).put (some 93) (.d .bool b)) ((stE p l out t m ss k s fr ls j r bs i).put (some 16) (.d (.int .i64) (List.getD bs (Int.toNat i) (dflt (.int .i64))))) (inB i (List.length bs)):=fun L k x r=>by kernel_rfl
theorem dp_E2:dEv (lpR2 dpK8) labE (stE p l out t m ss k s fr ls j r bs i) (stE p l out t m ss k s fr ls j r bs (IntKind.i64.wrap (i+1))):=fun L k x r=>by kernel_rfl
theorem dn_E14:norm Go.Proofs.Tryz.prog labD14 ((stE p l out t m ss k s fr ls j r bs i).put (some 93) (.d .bool b))=stD14 p l out t m ss k s fr ls j r:=by kernel_rfl
theorem dp_B2:dEv (lpR2 dpK2) labB ((stD p l out t m ss k s fr ls j).put (some 68) (.d .bool b)) (stB p l out t m ss (IntKind.i64.wrap (k+1))):=fun L k x r=>by kernel_rfl
theorem dp_A2:dEv (lpR2 dpK0) labA ((stB p l out t m ss k).put (some 32) (.d .bool b)) (stA p l out (IntKind.i64.wrap (t+1))):=fun L k x r=>by kernel_rfl
end
end
end Go.Ev
end

section
open Go Go.Ev
namespace Go.Ev
noncomputable section
section
variable [Orgs] {Mod F0:Nat→Prop} {w0:World} {h:HS} {a:Act} {w:World} {Q:Exit→Act→World→Prop}
variable {p:El T_api_Prog} {l:List (El T_api_Access)} {out:List (El T_api_Pair)} {t:Int} {m:Nat} {ss:List Int} {k s:Int} {fr:SetD} {fs:List Int} {j:Int} {ls:List Int} {r:Int} {bs:List Int} {i x:Int} {b:Bool}
theorem dcl:Spec Go.Proofs.Tryz.prog (clOf dpT)∧DetC (clOf dpT):=clOf_ok dpT_ok
abbrev dProg:Program:=Go.Proofs.Tryz.prog
def cOf (o:Oper):Call:=match o.op with |.call c=>c | _=>default
def st5a (p:El T_api_Prog) (l:List (El T_api_Access)) (out:List (El T_api_Pair)) (t:Int):St:=((stA5 p l out t).put (some 25) (.d (.sl T_api_Access) l)).put (some 26) (.d (.int .i64) t)
def st5b (p:El T_api_Prog) (l:List (El T_api_Access)) (out:List (El T_api_Pair)) (t:Int) (ss:List Int):St:=((st5a p l out t).setOb 28 0 (.row 3 (.int .i64) ss false)).put (some 27) (.own 28 0 none)
def st5c (p:El T_api_Prog) (l:List (El T_api_Access)) (out:List (El T_api_Pair)) (t:Int) (ss:List Int) (m:Nat):St:=(((st5b p l out t ss).put (some 28) (.cst (.map (some m)))).put (some 6) (.own 28 0 none)).put (some 7) (.cst (.map (some m)))
theorem dp_5c (k:St→Option Ans):opA dProg (clOf dpT) (opC dp5 2) (st5a p l out t) k=bif k_delay_plain l t true then k (st5b p l out t (v_delay_plain l t true)) else none:=by kernel_rfl
theorem dp_6:dEv dp6 labB (st5c p l out t ss m) (stB p l out t m ss 0):=fun L k x r=>by kernel_rfl
theorem w_5 (hk:k_delay_plain l t true=true) (hr:Rel Mod F0 w0 (stA5 p l out t) a w) (hQ:∀m a' w',RelH 117 Mod F0 w0 ⟨m,[]⟩ (st5c p l out t (v_delay_plain l t true) m) a' w'→Q .normal a' w'):(Code.region (ridC dp5) (ropsC dp5) false).wp dProg Q a w:=by
 refine wp_region ?_
 rw[show List.range (ropsC dp5).size=[0,1,2,3,4,5] from by kernel_rfl]
 refine evOp dcl.1 (o:=opC dp5 0) (st1:=(stA5 p l out t).put (some 25) (.d (.sl T_api_Access) l)) (by kernel_rfl) (by kernel_rfl) (fun k=>by kernel_rfl) hr fun a w hr=>?_
 refine evOp dcl.1 (o:=opC dp5 1) (st1:=st5a p l out t) (by kernel_rfl) (by kernel_rfl) (fun k=>by kernel_rfl) hr fun a w hr=>?_
 refine evOp dcl.1 (o:=opC dp5 2) (st1:=st5b p l out t (v_delay_plain l t true)) (by kernel_rfl) (by kernel_rfl) (fun k=>by rw[dp_5c,hk];rfl) hr fun a w hr=>?_
 refine handOp (o:=opC dp5 3) (by kernel_rfl) (by kernel_rfl) ?_
 refine makeMapH (T:=117) (TM:=85) (by kernel_rfl) hr fun m a w hr=>?_
 rw[show (opC dp5 3).dst=some 28 from by kernel_rfl] at hr
 refine evOpH dcl.1 (o:=opC dp5 4) (st1:=((st5b p l out t (v_delay_plain l t true)).put (some 28) (.cst (.map (some m)))).put (some 6) (.own 28 0 none)) (by kernel_rfl) (by kernel_rfl) (fun k=>by kernel_rfl) hr fun a w hr=>?_
 refine evOpH dcl.1 (o:=opC dp5 5) (st1:=st5c p l out t (v_delay_plain l t true) m) (by kernel_rfl) (by kernel_rfl) (fun k=>by kernel_rfl) hr fun a w hr=>?_
 exact hQ m a w hr
def st13 (p:El T_api_Prog) (l:List (El T_api_Access)) (out:List (El T_api_Pair)) (t:Int) (m:Nat) (ss:List Int) (k s:Int) (fr:SetD) (ls:List Int) (j r:Int) (v:Value) (b:Bool):St:=
 ((((stD14 p l out t m ss k s fr ls j r).put (some 79) (.cst (.map (some m)))).put (some 80) (.d (.int .i64) r)).put (some 81) (.cst v)).put (some 82) (.d .bool b)
theorem dn_13 (v:Value):norm dProg labD14 (st13 p l out t m ss k s fr ls j r v b)=stD14 p l out t m ss k s fr ls j r:=by kernel_rfl
theorem w_13 (hr:RelH 117 Mod F0 w0 h (stD14 p l out t h.m ss k s fr ls j r) a w) (hQ:∀a' w',RelH 117 Mod F0 w0 h (st13 p l out t h.m ss k s fr ls j r (ptrOf (h.at_ r)) (h.at_ r).isNone) a' w'→Q .normal a' w'):(Code.region (ridC dp13) (ropsC dp13) false).wp dProg Q a w:=by
 refine wp_region ?_
 rw[show List.range (ropsC dp13).size=[0,1,2,3] from by kernel_rfl]
 refine evOpH dcl.1 (o:=opC dp13 0) (st1:=(stD14 p l out t h.m ss k s fr ls j r).put (some 79) (.cst (.map (some h.m)))) (by kernel_rfl) (by kernel_rfl) (fun k=>by kernel_rfl) hr fun a w hr=>?_
 refine evOpH dcl.1 (o:=opC dp13 1) (st1:=((stD14 p l out t h.m ss k s fr ls j r).put (some 79) (.cst (.map (some h.m)))).put (some 80) (.d (.int .i64) r)) (by kernel_rfl) (by kernel_rfl) (fun k=>by kernel_rfl) hr fun a w hr=>?_
 refine handOp (o:=opC dp13 2) (by kernel_rfl) (by kernel_rfl) ?_
 refine lookupH (TM:=85) (K:=3) (V:=86) (x:=.tmp 79) (k:=.tmp 80) (key:=r) (by kernel_rfl) (by kernel_rfl) (by kernel_rfl) (by kernel_rfl) (by kernel_rfl) (by kernel_rfl) hr fun a w hr=>?_
 rw[show (opC dp13 2).dst=some 81 from by kernel_rfl] at hr
 refine handOp (o:=opC dp13 3) (by kernel_rfl) (by kernel_rfl) ?_
 refine eqNilH (TT:=86) (TT':=(match (opC dp13 3).op with |.binOp _ _ _ _ T=>T | _=>0)) (E:=(match dProg.underlying 86 with | some (.pointer E)=>E | _=>0)) (x:=.tmp 81) (y:=.const (.pointer none)) (s:=h.at_ r) (by kernel_rfl) (by kernel_rfl) (by kernel_rfl) (by kernel_rfl) hr fun a w hr=>?_
 rw[show (opC dp13 3).dst=some 82 from by kernel_rfl] at hr
 exact hQ a w hr
def st14 (p:El T_api_Prog) (l:List (El T_api_Access)) (out:List (El T_api_Pair)) (t:Int) (m:Nat) (ss:List Int) (k s:Int) (fr:SetD) (ls:List Int) (j r:Int):St:=
 ((((stD14 p l out t m ss k s fr ls j r).put (some 83) (.cst (.map (some m)))).put (some 84) (.d (.int .i64) r)).put (some 85) (.d (.sl T_api_Access) l)).put (some 86) (.d (.int .i64) (Int.ofNat (List.length l)))
def st14b (p:El T_api_Prog) (l:List (El T_api_Access)) (out:List (El T_api_Pair)) (t:Int) (m:Nat) (ss:List Int) (k s:Int) (fr:SetD) (ls:List Int) (j r:Int) (d:SetD):St:=
 (((st14 p l out t m ss k s fr ls j r).setOb 90114 0 (.map (.int .i64) (.int .u64) d.2)).setOb 88 0 (.box 117 [.d (.int .i64) d.1,.mp 90114 0] none)).put (some 87) (.pt 88 0 0)
theorem dn_14 (d:SetD) (o:Option Nat) (ho:o=none):norm dProg labD14 ((dropIds [88,90114] (st14b p l out t m ss k s fr ls j r d)).put o .top)=stD14 p l out t m ss k s fr ls j r:=by
 subst ho
 kernel_rfl
theorem w_14 (hn:h.at_ r=none) (hr:RelH 117 Mod F0 w0 h (stD14 p l out t h.m ss k s fr ls j r) a w)
  (hQ:∀e a' w',e.key=r→(e.n,e.l)=v_bits_New (Int.ofNat (List.length l))→RelH 117 Mod F0 w0 ⟨h.m,h.es++[e]⟩ (stD14 p l out t h.m ss k s fr ls j r) a' w'→Q .normal a' w'):(Code.region (ridC dp14) (ropsC dp14) false).wp dProg Q a w:=by
 refine wp_region ?_
 rw[show List.range (ropsC dp14).size=[0,1,2,3,4,5] from by kernel_rfl]
 refine evOpH dcl.1 (o:=opC dp14 0) (st1:=(stD14 p l out t h.m ss k s fr ls j r).put (some 83) (.cst (.map (some h.m)))) (by kernel_rfl) (by kernel_rfl) (fun k=>by kernel_rfl) hr fun a w hr=>?_
 refine evOpH dcl.1 (o:=opC dp14 1) (st1:=((stD14 p l out t h.m ss k s fr ls j r).put (some 83) (.cst (.map (some h.m)))).put (some 84) (.d (.int .i64) r)) (by kernel_rfl) (by kernel_rfl) (fun k=>by kernel_rfl) hr fun a w hr=>?_
 refine evOpH dcl.1 (o:=opC dp14 2) (st1:=(((stD14 p l out t h.m ss k s fr ls j r).put (some 83) (.cst (.map (some h.m)))).put (some 84) (.d (.int .i64) r)).put (some 85) (.d (.sl T_api_Access) l)) (by kernel_rfl) (by kernel_rfl) (fun k=>by kernel_rfl) hr fun a w hr=>?_
 refine evOpH dcl.1 (o:=opC dp14 3) (st1:=st14 p l out t h.m ss k s fr ls j r) (by kernel_rfl) (by kernel_rfl) (fun k=>by kernel_rfl) hr fun a w hr=>?_
 refine evOpH dcl.1 (o:=opC dp14 4) (st1:=st14b p l out t h.m ss k s fr ls j r (v_bits_New (Int.ofNat (List.length l)))) (by kernel_rfl) (by kernel_rfl) (fun k=>by kernel_rfl) hr fun a w hr=>?_
 refine handOp (o:=opC dp14 5) (by kernel_rfl) (by kernel_rfl) ?_
 refine putH (TM:=85) (K:=3) (V:=86) (x:=.tmp 83) (k:=.tmp 84) (v:=.tmp 87) (key:=r) (id:=88) (ver:=0) (id2:=90114) (ver2:=0) (tg:=none) (n:=(v_bits_New (Int.ofNat (List.length l))).1) (l:=(v_bits_New (Int.ofNat (List.length l))).2)
  (by kernel_rfl) (by kernel_rfl) (by kernel_rfl) (by kernel_rfl) (by kernel_rfl) (by kernel_rfl) (by kernel_rfl) (by kernel_rfl) (by decide) hn hr fun b mb a w hr=>?_
 exact hQ _ a w rfl rfl (RelH.norm (dn_14 _ _ (by kernel_rfl)) hr)
def st19 (p:El T_api_Prog) (l:List (El T_api_Access)) (out:List (El T_api_Pair)) (t:Int) (m:Nat) (ss:List Int) (k s:Int) (fr:SetD) (ls:List Int) (j r:Int) (bs:List Int) (i x:Int) (v:Value):St:=
 (((((stE p l out t m ss k s fr ls j r bs i).put (some 16) (.d (.int .i64) x)).put (some 96) (.cst (.map (some m)))).put (some 97) (.d (.int .i64) r)).put (some 98) (.cst v)).put (some 99) (.d (.int .i64) x)
theorem dn_19 (v:Value) (o:Option Nat) (ho:o=some 100):norm dProg labE ((st19 p l out t m ss k s fr ls j r bs i x v).put o (.d .bool b))=stE p l out t m ss k s fr ls j r bs i:=by
 subst ho
 kernel_rfl
theorem w_19 {e:SE} (he:h.at_ r=some e) (hr:RelH 117 Mod F0 w0 h ((stE p l out t h.m ss k s fr ls j r bs i).put (some 16) (.d (.int .i64) x)) a w)
  (hQ:∀h' a' w',h'.m=h.m→h'.cont=putC h.cont r (v_bits_Set_Put (e.n,e.l) x).2→RelH 117 Mod F0 w0 h' (stE p l out t h'.m ss k s fr ls j r bs i) a' w'→Q .normal a' w'):(Code.region (ridC dp19) (ropsC dp19) false).wp dProg Q a w:=by
 refine wp_region ?_
 rw[show List.range (ropsC dp19).size=[0,1,2,3,4] from by kernel_rfl]
 refine evOpH dcl.1 (o:=opC dp19 0) (st1:=((stE p l out t h.m ss k s fr ls j r bs i).put (some 16) (.d (.int .i64) x)).put (some 96) (.cst (.map (some h.m)))) (by kernel_rfl) (by kernel_rfl) (fun k=>by kernel_rfl) hr fun a w hr=>?_
 refine evOpH dcl.1 (o:=opC dp19 1) (st1:=(((stE p l out t h.m ss k s fr ls j r bs i).put (some 16) (.d (.int .i64) x)).put (some 96) (.cst (.map (some h.m)))).put (some 97) (.d (.int .i64) r)) (by kernel_rfl) (by kernel_rfl) (fun k=>by kernel_rfl) hr fun a w hr=>?_
 refine handOp (o:=opC dp19 2) (by kernel_rfl) (by kernel_rfl) ?_
 refine lookupH (TM:=85) (K:=3) (V:=86) (x:=.tmp 96) (k:=.tmp 97) (key:=r) (by kernel_rfl) (by kernel_rfl) (by kernel_rfl) (by kernel_rfl) (by kernel_rfl) (by kernel_rfl) hr fun a w hr=>?_
 rw[show (opC dp19 2).dst=some 98 from by kernel_rfl] at hr
 refine evOpH dcl.1 (o:=opC dp19 3) (st1:=st19 p l out t h.m ss k s fr ls j r bs i x (ptrOf (h.at_ r))) (by kernel_rfl) (by kernel_rfl) (fun k=>by kernel_rfl) hr fun a w hr=>?_
 refine handOp (o:=opC dp19 4) (by kernel_rfl) (by kernel_rfl) ?_
 have hnd:(h.es.map SE.key).Nodup:=by obtain ⟨_,_,_,_,_,_,hH,_⟩:=hr;exact hH.2.1
 have hC:CallOK dProg 53 [.bx 117 [.d (.int .i64) e.n,.mv (.int .i64) (.int .u64) e.l],.d (.int .i64) x] (K_bits_Set_Put (v_bits_Set_Put (e.n,e.l) x)):=ent_call ok_bits_Set_Put fun k=>by kernel_rfl
 refine callSetH (c:=cOf (opC dp19 4)) (f:=53) (fn:=Go.Proofs.Tryz.f53) (body:=Go.Proofs.Tryz.f53.body.getD .skip) (x:=.tmp 98) (y:=.tmp 99) (key:=r) (i:=x) (by kernel_rfl) (by kernel_rfl) (by kernel_rfl) (by kernel_rfl) (by kernel_rfl) (by kernel_rfl) (by kernel_rfl) he (by kernel_rfl) hC hr fun A B mb' a w hAB hr=>?_
 refine hQ ⟨h.m,A++⟨r,e.b,mb',(v_bits_Set_Put (e.n,e.l) x).2.1,(v_bits_Set_Put (e.n,e.l) x).2.2⟩ :: B⟩ a w rfl ?_ (RelH.norm (dn_19 _ _ (by kernel_rfl)) hr)
 have hk:=(at_mem he).2
 have:=putC_mid (A:=A) (B:=B) (e:=e) (b:=e.b) (mb:=mb') (n:=0) (n':=(v_bits_Set_Put (e.n,e.l) x).2.1) (l':=(v_bits_Set_Put (e.n,e.l) x).2.2) hk (by rw[←hAB];exact hnd) h.m h.m
 rw[this]
 have:(⟨h.m,A++e :: B⟩:HS)=h:=by cases h;simp only[HS.mk.injEq,true_and];exact hAB.symm
 rw[this]
def st16 (p:El T_api_Prog) (l:List (El T_api_Access)) (out:List (El T_api_Pair)) (t:Int) (m:Nat) (ss:List Int) (k s:Int) (fr:SetD) (ls:List Int) (j r:Int) (v:Value) (b:Bool):St:=
 (((((stD14 p l out t m ss k s fr ls j r).put (some 102) (.cst (.map (some m)))).put (some 103) (.d (.int .i64) r)).put (some 104) (.cst v)).put (some 105) (.d (.int .i64) s)).put (some 106) (.d .bool b)
theorem dn_16 (v:Value):norm dProg labD (st16 p l out t m ss k s fr ls j r v b)=stD p l out t m ss k s fr ls j:=by kernel_rfl
theorem w_16 {e:SE} (he:h.at_ r=some e) (hr:RelH 117 Mod F0 w0 h (stD14 p l out t h.m ss k s fr ls j r) a w)
  (hQ:∀h' a' w',h'.m=h.m→h'.cont=h.cont→RelH 117 Mod F0 w0 h' (st16 p l out t h'.m ss k s fr ls j r (ptrOf (h.at_ r)) (v_bits_Set_Has (e.n,e.l) s).1) a' w'→Q .normal a' w'):(Code.region (ridC dp16) (ropsC dp16) false).wp dProg Q a w:=by
 refine wp_region ?_
 rw[show List.range (ropsC dp16).size=[0,1,2,3,4] from by kernel_rfl]
 refine evOpH dcl.1 (o:=opC dp16 0) (st1:=(stD14 p l out t h.m ss k s fr ls j r).put (some 102) (.cst (.map (some h.m)))) (by kernel_rfl) (by kernel_rfl) (fun k=>by kernel_rfl) hr fun a w hr=>?_
 refine evOpH dcl.1 (o:=opC dp16 1) (st1:=((stD14 p l out t h.m ss k s fr ls j r).put (some 102) (.cst (.map (some h.m)))).put (some 103) (.d (.int .i64) r)) (by kernel_rfl) (by kernel_rfl) (fun k=>by kernel_rfl) hr fun a w hr=>?_
 refine handOp (o:=opC dp16 2) (by kernel_rfl) (by kernel_rfl) ?_
 refine lookupH (TM:=85) (K:=3) (V:=86) (x:=.tmp 102) (k:=.tmp 103) (key:=r) (by kernel_rfl) (by kernel_rfl) (by kernel_rfl) (by kernel_rfl) (by kernel_rfl) (by kernel_rfl) hr fun a w hr=>?_
 rw[show (opC dp16 2).dst=some 104 from by kernel_rfl] at hr
 refine evOpH dcl.1 (o:=opC dp16 3) (st1:=((((stD14 p l out t h.m ss k s fr ls j r).put (some 102) (.cst (.map (some h.m)))).put (some 103) (.d (.int .i64) r)).put (some 104) (.cst (ptrOf (h.at_ r)))).put (some 105) (.d (.int .i64) s)) (by kernel_rfl) (by kernel_rfl) (fun k=>by kernel_rfl) hr fun a w hr=>?_
 refine handOp (o:=opC dp16 4) (by kernel_rfl) (by kernel_rfl) ?_
 have hnd:(h.es.map SE.key).Nodup:=by obtain ⟨_,_,_,_,_,_,hH,_⟩:=hr;exact hH.2.1
 have hC:CallOK dProg 54 [.bx 117 [.d (.int .i64) e.n,.mv (.int .i64) (.int .u64) e.l],.d (.int .i64) s] (K_bits_Set_Has (v_bits_Set_Has (e.n,e.l) s)):=ent_call ok_bits_Set_Has fun k=>by kernel_rfl
 refine callSetH (c:=cOf (opC dp16 4)) (f:=54) (fn:=Go.Proofs.Tryz.f54) (body:=Go.Proofs.Tryz.f54.body.getD .skip) (x:=.tmp 104) (y:=.tmp 105) (key:=r) (i:=s) (by kernel_rfl) (by kernel_rfl) (by kernel_rfl) (by kernel_rfl) (by kernel_rfl) (by kernel_rfl) (by kernel_rfl) he (by kernel_rfl) hC hr fun A B mb' a w hAB hr=>?_
 rw[show (opC dp16 4).dst=some 106 from by kernel_rfl] at hr
 refine hQ ⟨h.m,A++⟨r,e.b,mb',(v_bits_Set_Has (e.n,e.l) s).2.1,(v_bits_Set_Has (e.n,e.l) s).2.2⟩ :: B⟩ a w rfl ?_ hr
 have hk:=(at_mem he).2
 unfold HS.cont
 rw[hAB]
 simp only[List.map_append,List.map_cons,hk]
 rfl
theorem dp_17 (v:Value):dEvG dp17 labD (st16 p l out t m ss k s fr ls j r v b) (stD p l (out++[(t,((List.getD l (Int.toNat s) (dflt T_api_Access)).2.1,(List.getD l (Int.toNat r) (dflt T_api_Access)).2.1))]) t m ss k s fr ls j)
  (bif inB s (List.length l) then (bif inB r (List.length l) then Nat.ble ((List.length out+1)*24) limit else false) else false):=fun L k x r=>by
 rw[show ∀(a b c:Bool) (u:Option Ans),(bif (bif a then (bif b then c else false) else false) then u else none)=(bif a then (bif b then (bif c then u else none) else none) else none) from fun a b c u=>by cases a <;> cases b <;> rfl]
 kernel_rfl
end
end
end Go.Ev
end

section
open Go Go.Ev
namespace Go.Ev
noncomputable section
def putAll (d:SetD) (xs:List Int):SetD:=xs.foldl (fun d x=>(v_bits_Set_Put d x).2) d
def dBack (p:El T_api_Prog) (l:List (El T_api_Access)) (r:Int):SetD:=putAll (v_bits_New (Int.ofNat (List.length l))) (v_clash_Back p r)
abbrev OkS (p:El T_api_Prog) (l:List (El T_api_Access)) (ms:SetsD):Prop:=∀r d,getC ms r=some d→d=dBack p l r
abbrev OkBut (p:El T_api_Prog) (l:List (El T_api_Access)) (ms:SetsD) (r:Int):Prop:=∀r',r'≠r→∀d,getC ms r'=some d→d=dBack p l r'
theorem getC_put {ms:SetsD} {r:Int} {d d':SetD} (h:getC ms r=some d):getC (putC ms r d') r=some d':=by
 induction ms with
 | nil=>cases h
 | cons x ms ih=>
  unfold getC putC at*
  by_cases hx:x.1=r
  ·simp[hx]
  ·simp only[List.map_cons,hx,if_false]
   rw[List.find?_cons_of_neg (by simpa using hx)]
   rw[List.find?_cons_of_neg (by simpa using hx)] at h
   exact ih h
theorem getC_put_ne {ms:SetsD} {r r':Int} {d':SetD} (hne:r'≠r):getC (putC ms r d') r'=getC ms r':=by
 induction ms with
 | nil=>rfl
 | cons x ms ih=>
  unfold getC putC at*
  by_cases hx:x.1=r
  ·have h1:¬r=r':=fun e=>hne e.symm
   have h2:¬x.1=r':=by rw[hx];exact h1
   simp only[List.map_cons,hx,if_true]
   rw[List.find?_cons_of_neg (by simpa using h1),List.find?_cons_of_neg (by simpa using h2)]
   exact ih
  ·simp only[List.map_cons,hx,if_false]
   by_cases hx':x.1=r'
   ·rw[List.find?_cons_of_pos (by simpa using hx'),List.find?_cons_of_pos (by simpa using hx')]
   ·rw[List.find?_cons_of_neg (by simpa using hx'),List.find?_cons_of_neg (by simpa using hx')]
    exact ih
theorem getC_app {ms:SetsD} {r:Int} {d:SetD} (h:getC ms r=none):getC (ms++[(r,d)]) r=some d:=by
 unfold getC at*
 rw[List.find?_append]
 rw[Option.map_eq_none_iff] at h
 rw[h]
 simp
theorem getC_app_ne {ms:SetsD} {r r':Int} {d:SetD} (h:r'≠r):getC (ms++[(r,d)]) r'=getC ms r':=by
 unfold getC
 rw[List.find?_append]
 have:¬r=r':=fun e=>h e.symm
 simp[this]
theorem inB_ok {i n:Nat} (h:i < n):inB (i:Int) n=true:=by
 unfold inB
 rw[decide_eq_true (Int.natCast_nonneg i),decide_eq_true (show (i:Int) < Int.ofNat n from Int.ofNat_lt.2 h)]
 rfl
theorem dec_lt (i n:Nat):decide ((i:Int) < Int.ofNat n)=decide (i < n):=decide_eq_decide.2 Int.ofNat_lt
section
variable [Orgs] {Mod F0:Nat→Prop} {w0:World} {h:HS} {a:Act} {w:World} {Q:Exit→Act→World→Prop}
variable {p:El T_api_Prog} {l:List (El T_api_Access)} {out:List (El T_api_Pair)} {t:Int} {m:Nat} {ss:List Int} {k s:Int} {fr:SetD} {fs:List Int} {j:Int} {ls:List Int} {r:Int} {bs:List Int} {i x:Int} {b:Bool}
theorem w_K8 {d0:SetD} (hb:bs.length < 1000000000000) (ho:OkBut p l h.cont r) (hg:getC h.cont r=some d0) (hr:RelH 117 Mod F0 w0 h (stE p l out t h.m ss k s fr ls j r bs 0) a w)
  (hQ:∀h' a' w',OkBut p l h'.cont r→getC h'.cont r=some (putAll d0 bs)→RelH 117 Mod F0 w0 h' (stD14 p l out t h'.m ss k s fr ls j r) a' w'→Q .normal a' w'):dpK8.wp dProg Q a w:=by
 rw[dpK8_eq]
 refine forLoop (fun i a w=>∃h:HS,OkBut p l h.cont r∧getC h.cont r=some (putAll d0 (bs.take i))∧RelH 117 Mod F0 w0 h (stE p l out t h.m ss k s fr ls j r bs (i:Int)) a w)
  (fun i a w=>∃h:HS,OkBut p l h.cont r∧getC h.cont r=some (putAll d0 (bs.take i))∧RelH 117 Mod F0 w0 h ((stE p l out t h.m ss k s fr ls j r bs (i:Int)).put (some 93) (.d .bool (decide ((i:Int) < Int.ofNat (List.length bs))))) a w)
  (fun i a w=>∃h:HS,OkBut p l h.cont r∧getC h.cont r=some (putAll d0 (bs.take (i+1)))∧RelH 117 Mod F0 w0 h (stE p l out t h.m ss k s fr ls j r bs (i:Int)) a w)
  bs.length (toGo 92 bs.length) ?_ ?_ ?_ ?_ ?_ ⟨h,ho,hg,hr⟩ ?_
 ·intro i a w hi ⟨h,ho,hg,hr⟩
  exact pieceH dcl.1 dcl.2 (fun s=>s) (fun h=>h) (dp_E1 _ _ _ _ _ _ _ _ _ _ _ _ _ _) hr fun a' w' hr'=>⟨rfl,h,ho,hg,hr'⟩
 ·intro i a w hi ⟨h,ho,hg,hr⟩
  rw[hr.evb (x:=.tmp 93) (b:=decide ((i:Int) < Int.ofNat (List.length bs))) (by kernel_rfl),dec_lt]
 ·intro i a w hi ⟨h,ho,hg,hr⟩
  rw[dpB9_eq]
  refine wp_seq (pieceH dcl.1 dcl.2 (norm dProg labE16) (fun h=>norm_rel h) ((dp_18 p l out t h.m ss k s fr j ls r bs (i:Int) _).ok (inB_ok hi)) hr fun a w hr=>?_)
  have hat:=at_cont h r
  rw[hg] at hat
  obtain ⟨e,he,hed⟩:=Option.map_eq_some_iff.1 hat
  refine w_19 he hr fun h' a' w' hm hc hr'=>⟨.inl rfl,h',fun r' hr1 d hd=>?_,?_,hr'⟩
  ·rw[hc,getC_put_ne hr1] at hd
   exact ho r' hr1 d hd
  ·rw[hc,getC_put hg,hed,List.take_succ_eq_append_getElem hi]
   unfold putAll
   rw[List.foldl_append]
   simp only[List.foldl_cons,List.foldl_nil]
   rw[Int.toNat_natCast,List.getD_eq_getElem?_getD,List.getElem?_eq_getElem hi]
   rfl
 ·intro i a w hi ⟨h,ho,hg,hr⟩
  have e:=dp_E2 p l out t h.m ss k s fr j ls r bs (i:Int)
  rw[wrap_succ (by omega)] at e
  exact pieceH dcl.1 dcl.2 (norm dProg labE) (fun h=>norm_rel h) e hr fun a' w' hr'=>⟨rfl,h,ho,hg,hr'⟩
 ·intro i a w hi ⟨h,ho,hg,hr⟩
  unfold toGo
  rw[hr.ev (x:=.tmp 92) (k:=.i64) (n:=(i:Int)) (by kernel_rfl)]
  rfl
 ·intro a w ⟨h,ho,hg,hr⟩
  rw[List.take_length] at hg
  exact hQ h a w ho hg (hr.norm (dn_E14 _ _ _ _ _ _ _ _ _ _ _ _ _ _ _))
end
end
end Go.Ev
end

section
open Go Go.Ev
namespace Go.Ev
noncomputable section
def hitP (p:El T_api_Prog) (l:List (El T_api_Access)) (s:Int) (fr:SetD) (r:Int):Bool:=(v_bits_Set_Has fr (List.getD l (Int.toNat r) (dflt T_api_Access)).2.1).1&&(v_bits_Set_Has (dBack p l r) s).1
def oneP (p:El T_api_Prog) (l:List (El T_api_Access)) (t s:Int) (fr:SetD) (r:Int):List (El T_api_Pair):=
 if hitP p l s fr r=true then [(t,((List.getD l (Int.toNat s) (dflt T_api_Access)).2.1,(List.getD l (Int.toNat r) (dflt T_api_Access)).2.1))] else []
section
variable [Orgs] {Mod F0:Nat→Prop} {w0:World} {h:HS} {a:Act} {w:World} {Q:Exit→Act→World→Prop}
variable {p:El T_api_Prog} {l:List (El T_api_Access)} {out:List (El T_api_Pair)} {t:Int} {m:Nat} {ss:List Int} {k s:Int} {fr:SetD} {fs:List Int} {j:Int} {ls:List Int} {r:Int} {bs:List Int} {i x:Int} {b:Bool}
theorem inB_int {r:Int} {n:Nat} (h0:0≤r) (h1:r < (n:Int)):inB r n=true:=by
 unfold inB
 rw[decide_eq_true h0,decide_eq_true (show r < Int.ofNat n from h1)]
 rfl
theorem w_fin (hs:0≤s∧s < (l.length:Int)) (hrr:0≤r∧r < (l.length:Int)) (hlim:(out.length+1)*24≤limit) (hhas:(v_bits_Set_Has fr (List.getD l (Int.toNat r) (dflt T_api_Access)).2.1).1=true) (ho:OkS p l h.cont) (hg:getC h.cont r=some (dBack p l r))
  (hr:RelH 117 Mod F0 w0 h (stD14 p l out t h.m ss k s fr ls j r) a w) (hQ:∀h' a' w',OkS p l h'.cont→RelH 117 Mod F0 w0 h' (stD p l (out++oneP p l t s fr r) t h'.m ss k s fr ls j) a' w'→Q .normal a' w'):
  (Code.seq (.region (ridC dp16) (ropsC dp16) false) (.cond (.tmp 106) dp17 .skip)).wp dProg Q a w:=by
 have hat:=at_cont h r
 rw[hg] at hat
 obtain ⟨e,he,hed⟩:=Option.map_eq_some_iff.1 hat
 refine wp_seq (w_16 he hr fun h' a w hm hc hr=>?_)
 have ho':OkS p l h'.cont:=by rw[hc];exact ho
 have hone:hitP p l s fr r=(v_bits_Set_Has (e.n,e.l) s).1:=by unfold hitP;rw[hhas,hed];rfl
 refine wp_cond_split (t:=(v_bits_Set_Has (e.n,e.l) s).1) (hr.evb (x:=.tmp 106) (by kernel_rfl)) (fun ht=>?_) (fun hf=>?_)
 ·refine pieceH dcl.1 dcl.2 (norm dProg labD) (fun h=>norm_rel h) ((dp_17 _).ok ?_) hr fun a w hr=>hQ h' a w ho' ?_
  ·rw[inB_int hs.1 hs.2,inB_int hrr.1 hrr.2]
   exact Nat.ble_eq_true_of_le hlim
  ·unfold oneP
   rw[if_pos (hone.trans ht)]
   exact hr
 ·refine wp_skip (hQ h' a w ho' ?_)
  unfold oneP
  rw[if_neg (by rw[hone,hf];decide),List.append_nil]
  exact hr.norm (dn_16 _)
theorem w_B7 {j:Nat} (hj:j < ls.length) (hrd:List.getD ls j (dflt (.int .i64))=r) (hs:0≤s∧s < (l.length:Int)) (hrr:0≤r∧r < (l.length:Int)) (hlim:(out.length+1)*24≤limit) (hkb:k_clash_Back p r=true) (hbl:(v_clash_Back p r).length < 1000000000000) (ho:OkS p l h.cont)
  (hr:RelH 117 Mod F0 w0 h ((stD p l out t h.m ss k s fr ls (j:Int)).put (some 68) (.d .bool b)) a w):
  (lpB dpK6).wp dProg (fun e a' w'=>(e=.normal∨e=.exit 7)∧∃h':HS,OkS p l h'.cont∧RelH 117 Mod F0 w0 h' (stD p l (out++oneP p l t s fr r) t h'.m ss k s fr ls (j:Int)) a' w') a w:=by
 rw[dpB7_eq]
 refine wp_seq (pieceH dcl.1 dcl.2 (norm dProg labD14) (fun h=>norm_rel h) ((dp_11 p l out t h.m ss k s fr (j:Int) ls b).ok (inB_ok hj)) hr fun a w hr=>?_)
 rw[Int.toNat_natCast,hrd] at hr
 refine wp_seq (wp_seq (pieceH dcl.1 dcl.2 (norm dProg labD78) (fun h=>norm_rel h) ((dp_12 p l out t h.m ss k s fr (j:Int) ls r).ok (inB_int hrr.1 hrr.2)) hr fun a w hr=>?_))
 refine wp_cond_split (t:=! (v_bits_Set_Has fr (List.getD l (Int.toNat r) (dflt T_api_Access)).2.1).1) (hr.evb (x:=.tmp 78) (by kernel_rfl)) (fun ht=>?_) (fun hf=>?_)
 ·-- not behind it
  refine wp_exit ⟨.inr rfl,h,ho,?_⟩
  have:¬hitP p l s fr r=true:=by
   unfold hitP
   rw[Bool.not_eq_true'] at ht
   rw[ht,Bool.false_and];exact Bool.false_ne_true
  unfold oneP
  rw[if_neg this,List.append_nil]
  exact hr.norm (dn_D _ _ _ _ _ _ _ _ _ _ _ _ _)
 refine wp_skip ?_
 have hhas:(v_bits_Set_Has fr (List.getD l (Int.toNat r) (dflt T_api_Access)).2.1).1=true:=by simpa using hf
 have hr:=hr.norm (dn_D14 p l out t h.m ss k s fr (j:Int) ls r _)
 have fin:∀(h':HS) (a:Act) (w:World),OkS p l h'.cont→getC h'.cont r=some (dBack p l r)→RelH 117 Mod F0 w0 h' (stD14 p l out t h'.m ss k s fr ls (j:Int) r) a w→
   (Code.seq (.region (ridC dp16) (ropsC dp16) false) (.cond (.tmp 106) dp17 .skip)).wp dProg (fun e a' w'=>(e=.normal∨e=.exit 7)∧∃h':HS,OkS p l h'.cont∧RelH 117 Mod F0 w0 h' (stD p l (out++oneP p l t s fr r) t h'.m ss k s fr ls (j:Int)) a' w') a w:=fun h' a w ho hg hr=>
  w_fin hs hrr hlim hhas ho hg hr fun h'' a'' w'' ho'' hr''=>⟨.inl rfl,h'',ho'',hr''⟩
 refine wp_seq (wp_seq (w_13 hr fun a w hr=>?_))
 have hev:=hr.evb (x:=.tmp 82) (b:=(h.at_ r).isNone) (by kernel_rfl)
 have hr:=hr.norm (dn_13 _)
 have hat:=at_cont h r
 cases hc:h.at_ r with
 | none=>
  rw[hc] at hev hat
  refine wp_cond_true hev (wp_seq (w_14 hc hr fun e a w hek hed hr=>?_))
  refine wp_seq (pieceH dcl.1 dcl.2 (norm dProg labE) (fun h=>norm_rel h) ((dp_15 p l out t h.m ss k s fr (j:Int) ls r).ok hkb) hr fun a w hr=>?_)
  have hnone:getC h.cont r=none:=hat.symm
  have hcont:(⟨h.m,h.es++[e]⟩:HS).cont=h.cont++[(r,v_bits_New (Int.ofNat (List.length l)))]:=by
   unfold HS.cont
   rw[List.map_append]
   simp only[List.map_cons,List.map_nil,hek]
   rw[show (e.n,e.l)=v_bits_New (Int.ofNat (List.length l)) from hed]
  refine w_K8 (h:=⟨h.m,h.es++[e]⟩) (d0:=v_bits_New (Int.ofNat (List.length l))) hbl ?_ ?_ hr fun h' a w ho' hg' hr'=>?_
  ·intro r' hne d hd
   rw[hcont,getC_app_ne hne] at hd
   exact ho r' d hd
  ·rw[hcont];exact getC_app hnone
  ·refine fin h' a w (fun r' d hd=>?_) hg' hr'
   by_cases e:r'=r
   ·subst e
    rw[hg'] at hd
    exact (Option.some.inj hd).symm
   ·exact ho' r' e d hd
 | some e=>
  rw[hc] at hev hat
  have hg:getC h.cont r=some (e.n,e.l):=hat.symm
  have:=ho r _ hg
  exact wp_cond_false hev (wp_skip (fin h a w ho (by rw[hg,this]) hr))
end
end
end Go.Ev
end

section
open Go Go.Ev
namespace Go.Ev
noncomputable section
def insP (p:El T_api_Prog) (t:Int):List (El T_api_Ins):=List.getD p.2 (Int.toNat t) (dflt (.sl T_api_Ins))
def insL (l:List (El T_api_Access)) (s:Int):Int:=(List.getD l (Int.toNat s) (dflt T_api_Access)).2.1
def frS (p:El T_api_Prog) (l:List (El T_api_Access)) (t s:Int):SetD:=putAll (v_bits_New (Int.ofNat (List.length (insP p t)))) (v_flow_From (insP p t) (insL l s))
def outS (p:El T_api_Prog) (l:List (El T_api_Access)) (t s:Int):List (El T_api_Pair):=(v_delay_plain l t false).flatMap (oneP p l t s (frS p l t s))
def outT (p:El T_api_Prog) (l:List (El T_api_Access)) (t:Int):List (El T_api_Pair):=(v_delay_plain l t true).flatMap (outS p l t)
theorem listOf_leY {n:Nat} {M:Nat→Bool} :(listOf n M).length≤n:=by rw[listOf_length];exact card_le
theorem oneP_len (p:El T_api_Prog) (l:List (El T_api_Access)) (t s:Int) (fr:SetD) (r:Int):(oneP p l t s fr r).length≤1:=by
 unfold oneP
 split <;> simp
theorem flat_len {α β:Type} {f:α→List β} {n:Nat} (h:∀x,(f x).length≤n):∀l:List α,(l.flatMap f).length≤l.length*n
 | []=>by simp
 | x :: l=>by
  have:=flat_len h l
  have:=h x
  rw[List.flatMap_cons,List.length_append,List.length_cons,Nat.add_mul]
  omega
theorem outS_len (p:El T_api_Prog) (l:List (El T_api_Access)) (t s:Int):(outS p l t s).length≤l.length:=by
 have h1:=flat_len (oneP_len p l t s (frS p l t s)) (v_delay_plain l t false)
 have h2:(v_delay_plain l t false).length≤l.length:=listOf_leY
 unfold outS
 omega
theorem outT_len (p:El T_api_Prog) (l:List (El T_api_Access)) (t:Int):(outT p l t).length≤l.length*l.length:=by
 have h1:=flat_len (outS_len p l t) (v_delay_plain l t true)
 have h2:(v_delay_plain l t true).length≤l.length:=listOf_leY
 have h3:=Nat.mul_le_mul_right l.length h2
 unfold outT
 omega
theorem flat_take {α β:Type} {f:α→List β} {l:List α} {k:Nat} (hk:k < l.length) {x:α} (hx:l[k]? =some x):(l.take (k+1)).flatMap f=(l.take k).flatMap f++f x:=by
 rw[List.take_add_one,hx]
 simp
section
variable [Orgs] {Mod F0:Nat→Prop} {w0:World} {h:HS} {a:Act} {w:World} {Q:Exit→Act→World→Prop}
variable {p:El T_api_Prog} {l:List (El T_api_Access)} {out:List (El T_api_Pair)} {t:Int} {m:Nat} {ss:List Int} {k s:Int} {fr:SetD} {fs:List Int} {j:Int} {ls:List Int} {r:Int} {bs:List Int} {i x:Int} {b:Bool}
theorem getD_mem {ls:List Int} {j:Nat} (hj:j < ls.length):ls[j]? =some (List.getD ls j (dflt (.int .i64)))∧List.getD ls j (dflt (.int .i64))∈ls:=by
 have h:ls[j]? =some (List.getD ls j (dflt (.int .i64))):=by rw[List.getD_eq_getElem?_getD,List.getElem?_eq_getElem hj];rfl
 exact ⟨h,List.mem_of_getElem? h⟩
theorem lim1 {o f j n L:Nat} (h:(o+n+1)*24≤L) (h1:f≤min j n*1):(o+f+1)*24≤L:=Nat.le_trans (Nat.mul_le_mul_right _ (Nat.add_le_add_right (Nat.add_le_add_left (Nat.le_trans h1 (by rw[Nat.mul_one];exact Nat.min_le_right _ _)) _) _)) h
theorem lim2 {a b:Nat} (h:a≤b) (h1:b < 1000000000):a < 1000000000000:=Nat.lt_of_le_of_lt h (Nat.lt_trans h1 (by decide))
theorem lim3 {o a b L:Nat} (h:a≤b) (h1:(o+b+1)*24≤L):(o+a+1)*24≤L:=Nat.le_trans (Nat.mul_le_mul_right _ (Nat.add_le_add_right (Nat.add_le_add_left h _) _)) h1
attribute [local irreducible] stA stA5 stB stB9 stB10 stC stD stD14 stE St.put
theorem w_K6 (hs:0≤s∧s < (l.length:Int)) (hls:∀r∈ls,(0≤r∧r < (l.length:Int))∧k_clash_Back p r=true∧(v_clash_Back p r).length < 1000000000000) (hlen:ls.length < 1000000000000) (hlim:(out.length+ls.length+1)*24≤limit) (ho:OkS p l h.cont)
  (hr:RelH 117 Mod F0 w0 h (stD p l out t h.m ss k s fr ls 0) a w)
  (hQ:∀h' j b a' w',OkS p l h'.cont→RelH 117 Mod F0 w0 h' ((stD p l (out++ls.flatMap (oneP p l t s fr)) t h'.m ss k s fr ls j).put (some 68) (.d .bool b)) a' w'→Q .normal a' w'):dpK6.wp dProg Q a w:=by
 rw[dpK6_eq]
 refine forLoop (fun j a w=>∃h:HS,OkS p l h.cont∧RelH 117 Mod F0 w0 h (stD p l (out++(ls.take j).flatMap (oneP p l t s fr)) t h.m ss k s fr ls (j:Int)) a w)
  (fun j a w=>∃h:HS,OkS p l h.cont∧RelH 117 Mod F0 w0 h ((stD p l (out++(ls.take j).flatMap (oneP p l t s fr)) t h.m ss k s fr ls (j:Int)).put (some 68) (.d .bool (decide ((j:Int) < Int.ofNat (List.length ls))))) a w)
  (fun j a w=>∃h:HS,OkS p l h.cont∧RelH 117 Mod F0 w0 h (stD p l (out++(ls.take (j+1)).flatMap (oneP p l t s fr)) t h.m ss k s fr ls (j:Int)) a w)
  ls.length (toGo 67 ls.length) ?_ ?_ ?_ ?_ ?_ ⟨h,ho,by simpa using hr⟩ ?_
 ·intro j a w hj ⟨h,ho,hr⟩
  exact pieceH dcl.1 dcl.2 (fun s=>s) (fun h=>h) (dp_D1 _ _ _ _ _ _ _ _ _ _ _) hr fun a' w' hr'=>⟨rfl,h,ho,hr'⟩
 ·intro j a w hj ⟨h,ho,hr⟩
  rw[hr.evb (x:=.tmp 68) (b:=decide ((j:Int) < Int.ofNat (List.length ls))) (by kernel_rfl),dec_lt]
 ·intro j a w hj ⟨h,ho,hr⟩
  obtain ⟨g1,g2⟩:=getD_mem hj
  obtain ⟨q1,q2,q3⟩:=hls _ g2
  rw[flat_take hj g1,←List.append_assoc]
  refine w_B7 hj rfl hs q1 ?_ q2 q3 ho hr
  have h1:=flat_len (oneP_len p l t s fr) (ls.take j)
  rw[List.length_append]
  rw[List.length_take] at h1
  exact lim1 hlim h1
 ·intro j a w hj ⟨h,ho,hr⟩
  have e:=dp_D2 p l (out++(ls.take (j+1)).flatMap (oneP p l t s fr)) t h.m ss k s fr (j:Int) ls
  rw[wrap_succ (by omega)] at e
  exact pieceH dcl.1 dcl.2 (norm dProg labD) (fun h=>norm_rel h) e hr fun a' w' hr'=>⟨rfl,h,ho,hr'⟩
 ·intro j a w hj ⟨h,ho,hr⟩
  unfold toGo
  rw[hr.ev (x:=.tmp 67) (k:=.i64) (n:=(j:Int)) (by kernel_rfl)]
  rfl
 ·intro a w ⟨h,ho,hr⟩
  rw[List.take_length] at hr
  exact hQ h _ _ a w ho hr
theorem w_K4 (hlen:fs.length < 1000000000000) (hr:RelH 117 Mod F0 w0 h (stC p l out t h.m ss k s fr fs 0) a w)
  (hQ:∀j b a' w',RelH 117 Mod F0 w0 h ((stC p l out t h.m ss k s (putAll fr fs) fs j).put (some 56) (.d .bool b)) a' w'→Q .normal a' w'):dpK4.wp dProg Q a w:=by
 rw[dpK4_eq]
 refine forLoop (fun j a w=>RelH 117 Mod F0 w0 h (stC p l out t h.m ss k s (putAll fr (fs.take j)) fs (j:Int)) a w)
  (fun j a w=>RelH 117 Mod F0 w0 h ((stC p l out t h.m ss k s (putAll fr (fs.take j)) fs (j:Int)).put (some 56) (.d .bool (decide ((j:Int) < Int.ofNat (List.length fs))))) a w)
  (fun j a w=>RelH 117 Mod F0 w0 h (stC p l out t h.m ss k s (putAll fr (fs.take (j+1))) fs (j:Int)) a w)
  fs.length (toGo 55 fs.length) ?_ ?_ ?_ ?_ ?_ hr ?_
 ·intro j a w hj hr
  exact pieceH dcl.1 dcl.2 (fun s=>s) (fun h=>h) (dp_C1 _ _ _ _ _ _ _ _ _ _ _) hr fun a' w' hr'=>⟨rfl,hr'⟩
 ·intro j a w hj hr
  rw[hr.evb (x:=.tmp 56) (b:=decide ((j:Int) < Int.ofNat (List.length fs))) (by kernel_rfl),dec_lt]
 ·intro j a w hj hr
  refine pieceH dcl.1 dcl.2 (norm dProg labC) (fun h=>norm_rel h) ((dp_C2 p l out t h.m ss k s (putAll fr (fs.take j)) fs (j:Int) _).ok (inB_ok hj)) hr fun a' w' hr'=>⟨.inl rfl,?_⟩
  have:putAll fr (fs.take (j+1))=(v_bits_Set_Put (putAll fr (fs.take j)) (List.getD fs (Int.toNat (j:Int)) (dflt (.int .i64)))).2:=by
   rw[List.take_succ_eq_append_getElem hj]
   unfold putAll
   rw[List.foldl_append]
   simp only[List.foldl_cons,List.foldl_nil]
   rw[Int.toNat_natCast,List.getD_eq_getElem?_getD,List.getElem?_eq_getElem hj]
   rfl
  rw[this]
  exact hr'
 ·intro j a w hj hr
  have e:=dp_C3 p l out t h.m ss k s (putAll fr (fs.take (j+1))) fs (j:Int)
  rw[wrap_succ (by omega)] at e
  exact pieceH dcl.1 dcl.2 (norm dProg labC) (fun h=>norm_rel h) e hr fun a' w' hr'=>⟨rfl,hr'⟩
 ·intro j a w hj hr
  unfold toGo
  rw[hr.ev (x:=.tmp 55) (k:=.i64) (n:=(j:Int)) (by kernel_rfl)]
  rfl
 ·intro a w hr
  rw[List.take_length] at hr
  exact hQ _ _ a w hr
structure DelayOK (p:El T_api_Prog) (l:List (El T_api_Access)):Prop where
 len:l.length < 1000000000
 thr:p.2.length < 1000000000
 all:(p.2.length*(l.length*l.length)+1)*24≤limit
 back:∀r:Int,k_clash_Back p r=true∧(v_clash_Back p r).length < 1000000000000
 flow:∀(t:Nat) (i:Int),t < p.2.length→k_flow_From (insP p (t:Int)) i=true∧(v_flow_From (insP p (t:Int)) i).length < 1000000000000
theorem plain_in {l:List (El T_api_Access)} {t:Int} {b:Bool} {r:Int} (h:r∈v_delay_plain l t b):0≤r∧r < (l.length:Int):=by
 obtain ⟨i,hi,_,rfl⟩:=listOf_mem.1 h
 omega
theorem w_B3 (hd:DelayOK p l) {t:Nat} (ht:t < p.2.length) {k:Nat} (hk:k < ss.length) (hss:∀s∈ss,0≤s∧s < (l.length:Int)) (hlim:(out.length+l.length+1)*24≤limit) (ho:OkS p l h.cont)
  (hr:RelH 117 Mod F0 w0 h ((stB p l out (t:Int) h.m ss (k:Int)).put (some 32) (.d .bool b)) a w):
  (lpB dpK2).wp dProg (fun e a' w'=>(e=.normal∨e=.exit 3)∧∃(h':HS) (s:Int) (fr:SetD) (ls:List Int) (j:Int) (b:Bool),OkS p l h'.cont∧RelH 117 Mod F0 w0 h' ((stD p l (out++outS p l (t:Int) (List.getD ss k (dflt (.int .i64)))) (t:Int) h'.m ss (k:Int) s fr ls j).put (some 68) (.d .bool b)) a' w') a w:=by
 obtain ⟨g1,g2⟩:=getD_mem hk
 have hs:=hss _ g2
 obtain ⟨f1,f2⟩:=hd.flow t (insL l (List.getD ss k (dflt (.int .i64)))) ht
 rw[dpB3_eq]
 refine wp_seq (pieceH dcl.1 dcl.2 (norm dProg labB9) (fun h=>norm_rel h) ((dp_7 p l out (t:Int) h.m ss (k:Int) b).ok (inB_ok hk)) hr fun a w hr=>?_)
 rw[Int.toNat_natCast] at hr
 refine wp_seq (pieceH dcl.1 dcl.2 (norm dProg labB10) (fun h=>norm_rel h) ((dp_8 p l out (t:Int) h.m ss (k:Int) _).ok (inB_ok ht)) hr fun a w hr=>?_)
 refine wp_seq (wp_seq (pieceH dcl.1 dcl.2 (norm dProg labC) (fun h=>norm_rel h) ((dp_9 p l out (t:Int) h.m ss (k:Int) _ _).ok (by rw[inB_ok ht,inB_int hs.1 hs.2];exact f1)) hr fun a w hr=>?_))
 refine w_K4 f2 hr fun j b a w hr=>?_
 have hkp:k_delay_plain l (t:Int) false=true:=decide_eq_true hd.len
 refine wp_seq (pieceH dcl.1 dcl.2 (norm dProg labD) (fun h=>norm_rel h) ((dp_10 p l out (t:Int) h.m ss (k:Int) _ _ _ _ _).ok hkp) hr fun a w hr=>?_)
 have hl2:(v_delay_plain l (t:Int) false).length≤l.length:=listOf_leY
 refine w_K6 hs (fun r hrm=>⟨plain_in hrm,hd.back r⟩) (lim2 hl2 hd.len) (lim3 hl2 hlim) ho hr fun h' j b a w ho hr=>⟨.inl rfl,h',_,_,_,j,b,ho,hr⟩
end
end
end Go.Ev
end

section
open Go Go.Ev
namespace Go.Ev
noncomputable section
theorem limA {o c n N L:Nat} (hc:c < n) (h:(o+n*N+1)*24≤L) {f:Nat} (hf:f≤min c n*N):(o+f+N+1)*24≤L:=by
 refine Nat.le_trans (Nat.mul_le_mul_right _ (Nat.add_le_add_right ?_ _)) h
 rw[Nat.add_assoc]
 refine Nat.add_le_add_left ?_ _
 have h1:(c+1)*N≤n*N:=Nat.mul_le_mul_right _ hc
 have h2:min c n*N≤c*N:=Nat.mul_le_mul_right _ (Nat.min_le_left _ _)
 rw[Nat.succ_mul] at h1
 exact Nat.le_trans (Nat.add_le_add_right (Nat.le_trans hf h2) _) h1
section
variable [Orgs] {Mod F0:Nat→Prop} {w0:World} {h:HS} {a:Act} {w:World} {Q:Exit→Act→World→Prop}
variable {p:El T_api_Prog} {l:List (El T_api_Access)} {out:List (El T_api_Pair)} {m:Nat} {ss:List Int} {b:Bool}
attribute [local irreducible] stA stA5 stB stB9 stB10 stC stD stD14 stE St.put
theorem w_K2 (hd:DelayOK p l) {t:Nat} (ht:t < p.2.length) (hss:∀s∈ss,0≤s∧s < (l.length:Int)) (hlen:ss.length < 1000000000000) (hlim:(out.length+ss.length*l.length+1)*24≤limit) (ho:OkS p l h.cont)
  (hr:RelH 117 Mod F0 w0 h (stB p l out (t:Int) h.m ss 0) a w)
  (hQ:∀h' k b a' w',RelH 117 Mod F0 w0 h' ((stB p l (out++ss.flatMap (outS p l (t:Int))) (t:Int) h'.m ss k).put (some 32) (.d .bool b)) a' w'→Q .normal a' w'):dpK2.wp dProg Q a w:=by
 rw[dpK2_eq]
 refine forLoop (fun k a w=>∃h:HS,OkS p l h.cont∧RelH 117 Mod F0 w0 h (stB p l (out++(ss.take k).flatMap (outS p l (t:Int))) (t:Int) h.m ss (k:Int)) a w)
  (fun k a w=>∃h:HS,OkS p l h.cont∧RelH 117 Mod F0 w0 h ((stB p l (out++(ss.take k).flatMap (outS p l (t:Int))) (t:Int) h.m ss (k:Int)).put (some 32) (.d .bool (decide ((k:Int) < Int.ofNat (List.length ss))))) a w)
  (fun k a w=>∃(h:HS) (s:Int) (fr:SetD) (ls:List Int) (j:Int) (b:Bool),OkS p l h.cont∧RelH 117 Mod F0 w0 h ((stD p l (out++(ss.take (k+1)).flatMap (outS p l (t:Int))) (t:Int) h.m ss (k:Int) s fr ls j).put (some 68) (.d .bool b)) a w)
  ss.length (toGo 31 ss.length) ?_ ?_ ?_ ?_ ?_ ⟨h,ho,by simpa using hr⟩ ?_
 ·intro k a w hk ⟨h,ho,hr⟩
  exact pieceH dcl.1 dcl.2 (fun s=>s) (fun h=>h) (dp_B1 _ _ _ _ _ _ _) hr fun a' w' hr'=>⟨rfl,h,ho,hr'⟩
 ·intro k a w hk ⟨h,ho,hr⟩
  rw[hr.evb (x:=.tmp 32) (b:=decide ((k:Int) < Int.ofNat (List.length ss))) (by kernel_rfl),dec_lt]
 ·intro k a w hk ⟨h,ho,hr⟩
  obtain ⟨g1,g2⟩:=getD_mem hk
  rw[flat_take hk g1,←List.append_assoc]
  refine w_B3 hd ht hk hss ?_ ho hr
  have h1:=flat_len (outS_len p l (t:Int)) (ss.take k)
  rw[List.length_append]
  rw[List.length_take] at h1
  exact limA hk hlim h1
 ·intro k a w hk ⟨h,s,fr,ls,j,b,ho,hr⟩
  have e:=dp_B2 p l (out++(ss.take (k+1)).flatMap (outS p l (t:Int))) (t:Int) h.m ss (k:Int) s fr j ls b
  rw[wrap_succ (Nat.lt_trans (Nat.lt_trans hk hlen) (by decide))] at e
  exact pieceH dcl.1 dcl.2 (norm dProg labB) (fun h=>norm_rel h) e hr fun a' w' hr'=>⟨rfl,h,ho,hr'⟩
 ·intro k a w hk ⟨h,ho,hr⟩
  unfold toGo
  rw[hr.ev (x:=.tmp 31) (k:=.i64) (n:=(k:Int)) (by kernel_rfl)]
  rfl
 ·intro a w ⟨h,ho,hr⟩
  rw[List.take_length] at hr
  exact hQ h _ _ a w hr
def outN (p:El T_api_Prog) (l:List (El T_api_Access)) (n:Nat):List (El T_api_Pair):=(List.range n).flatMap fun t:Nat=>outT p l (t:Int)
theorem outN_len (p:El T_api_Prog) (l:List (El T_api_Access)) (n:Nat):(outN p l n).length≤n*(l.length*l.length):=by
 have:=flat_len (fun t:Nat=>outT_len p l (t:Int)) (List.range n)
 rw[List.length_range] at this
 unfold outN
 exact this
theorem outN_succ (p:El T_api_Prog) (l:List (El T_api_Access)) (n:Nat):outN p l (n+1)=outN p l n++outT p l (n:Int):=by
 unfold outN
 rw[List.range_succ,List.flatMap_append]
 simp
theorem limC {c n N L:Nat} (hc:c < n) (h:(n*(N*N)+1)*24≤L) {o s:Nat} (ho:o≤c*(N*N)) (hs:s≤N):(o+s*N+1)*24≤L:=by
 refine Nat.le_trans (Nat.mul_le_mul_right _ (Nat.add_le_add_right ?_ _)) h
 have h1:(c+1)*(N*N)≤n*(N*N):=Nat.mul_le_mul_right _ hc
 rw[Nat.succ_mul] at h1
 exact Nat.le_trans (Nat.add_le_add ho (Nat.mul_le_mul_right _ hs)) h1
theorem okS_nil (p:El T_api_Prog) (l:List (El T_api_Access)) (m:Nat):OkS p l (⟨m,[]⟩:HS).cont:=fun r d hrd=>by cases hrd
theorem w_B1 (hd:DelayOK p l) {t:Nat} (ht:t < p.2.length) (hr:Rel Mod F0 w0 ((stA p l (outN p l t) (t:Int)).put (some 23) (.d .bool b)) a w):
  (lpB dpK0).wp dProg (fun e a' w'=>(e=.normal∨e=.exit 1)∧∃(m:Nat) (ss:List Int) (k:Int) (b:Bool),Rel Mod F0 w0 ((stB p l (outN p l (t+1)) (t:Int) m ss k).put (some 32) (.d .bool b)) a' w') a w:=by
 rw[dpB1_eq]
 refine wp_seq (piece dcl.1 dcl.2 (norm dProg labA5) (fun h=>norm_rel h) (dp_4 p l (outN p l t) (t:Int) b) hr fun a w hr=>?_)
 have hkp:k_delay_plain l (t:Int) true=true:=decide_eq_true hd.len
 refine wp_seq (w_5 hkp hr fun m a w hr=>?_)
 refine wp_seq (pieceH dcl.1 dcl.2 (norm dProg labB) (fun h=>norm_rel h) dp_6 hr fun a w hr=>?_)
 have hl2:(v_delay_plain l (t:Int) true).length≤l.length:=listOf_leY
 refine w_K2 (h:=⟨m,[]⟩) hd ht (fun s hs=>plain_in hs) (lim2 hl2 hd.len) (limC ht hd.all (outN_len p l t) hl2) (okS_nil p l m) hr fun h' k b a w hr=>⟨.inl rfl,h'.m,v_delay_plain l (t:Int) true,k,b,?_⟩
 rw[outN_succ]
 exact hr.out
theorem w_K0 (hd:DelayOK p l) (hr:Rel Mod F0 w0 (stA p l [] 0) a w)
  (hQ:∀t b a' w',Rel Mod F0 w0 ((stA p l (outN p l p.2.length) t).put (some 23) (.d .bool b)) a' w'→Q .normal a' w'):dpK0.wp dProg Q a w:=by
 rw[dpK0_eq]
 refine forLoop (fun t a w=>Rel Mod F0 w0 (stA p l (outN p l t) (t:Int)) a w)
  (fun t a w=>Rel Mod F0 w0 ((stA p l (outN p l t) (t:Int)).put (some 23) (.d .bool (decide ((t:Int) < Int.ofNat (List.length p.2))))) a w)
  (fun t a w=>∃(m:Nat) (ss:List Int) (k:Int) (b:Bool),Rel Mod F0 w0 ((stB p l (outN p l (t+1)) (t:Int) m ss k).put (some 32) (.d .bool b)) a w)
  p.2.length (toGo 22 p.2.length) ?_ ?_ ?_ ?_ ?_ hr ?_
 ·intro t a w ht hr
  exact piece dcl.1 dcl.2 (fun s=>s) (fun h=>h) (dp_A1 _ _ _ _) hr fun a' w' hr'=>⟨rfl,hr'⟩
 ·intro t a w ht hr
  rw[hr.evb (x:=.tmp 23) (b:=decide ((t:Int) < Int.ofNat (List.length p.2))) (by kernel_rfl),dec_lt]
 ·intro t a w ht hr
  exact w_B1 hd ht hr
 ·intro t a w ht ⟨m,ss,k,b,hr⟩
  have e:=dp_A2 p l (outN p l (t+1)) (t:Int) m ss k b
  rw[wrap_succ (Nat.lt_trans (Nat.lt_trans ht hd.thr) (by decide))] at e
  exact piece dcl.1 dcl.2 (norm dProg labA) (fun h=>norm_rel h) e hr fun a' w' hr'=>⟨rfl,hr'⟩
 ·intro t a w ht hr
  unfold toGo
  rw[hr.ev (x:=.tmp 22) (k:=.i64) (n:=(t:Int)) (by kernel_rfl)]
  rfl
 ·intro a w hr
  exact hQ _ _ a w hr
end
end
end Go.Ev
end

section
open Go Go.Ev
namespace Go.Ev
def sg_delay_Pairs:Sig:=[(true,T_api_Prog)]
noncomputable def v_delay_Pairs (p:El T_api_Prog):List (El T_api_Pair):=outN p (ofC p) p.2.length
def k_delay_Pairs (p:El T_api_Prog):Bool:=smallAll p&&(decide ((ofC p).length < 1000000000)&&(decide (p.2.length < 1000000000)&&decide ((p.2.length*((ofC p).length*(ofC p).length)+1)*24≤limit)))
def R_delay_Pairs:List (El T_api_Pair)→AV:=fun (r:List (El T_api_Pair))=>.rw 70 T_api_Pair r
theorem le_totalX {x:List (El T_api_Ins)} :∀ {l:List (List (El T_api_Ins))},x∈l→x.length≤total l
 | y :: l,h=>by
  unfold total at*
  rw[List.map_cons,List.sum_cons]
  rcases List.mem_cons.1 h with rfl | h
  ·exact Nat.le_add_right _ _
  ·exact Nat.le_trans (by have:=le_totalX h;unfold total at this;exact this) (Nat.le_add_left _ _)
theorem back_shortY (p:El T_api_Prog) (a:Int):(v_clash_Back p a).length≤(ofC p).length:=by
 unfold v_clash_Back
 split
 ·exact listOf_leY
 ·exact Nat.zero_le _
theorem delayOK {p:El T_api_Prog} (hk:k_delay_Pairs p=true):smallAll p=true∧DelayOK p (ofC p):=by
 unfold k_delay_Pairs at hk
 simp only[Bool.and_eq_true] at hk
 obtain ⟨h1,h2,h3,h4⟩:=hk
 have h2:=of_decide_eq_true h2
 have hA:=smallA h1
 refine ⟨h1,h2,of_decide_eq_true h3,of_decide_eq_true h4,fun r=>⟨h1,Nat.lt_of_le_of_lt (back_shortY p r) (Nat.lt_trans h2 (by decide))⟩,fun t i ht=>?_⟩
 have hm:insP p (t:Int)∈p.2:=by
  unfold insP
  rw[Int.toNat_natCast,List.getD_eq_getElem?_getD,List.getElem?_eq_getElem ht]
  exact List.getElem_mem ht
 have hf:=flow_small (hA.thr _ hm)
 have h1:(v_flow_From (insP p (t:Int)) i).length≤(insP p (t:Int)).length:=listOf_leY
 have h2:(insP p (t:Int)).length < 1073741824:=by
  exact Nat.lt_of_le_of_lt (le_totalX hm) hA.tot
 exact ⟨hf,Nat.lt_of_le_of_lt h1 (Nat.lt_trans h2 (by decide))⟩
noncomputable section
theorem dp_E (p:El T_api_Prog) (l:List (El T_api_Access)) (out:List (El T_api_Pair)) (t:Int) (b:Bool):dEvI dpE ((stA p l out t).put (some 23) (.d .bool b)) ((((stA p l out t).put (some 23) (.d .bool b)).put (some 125) (.own 5 0 none)).put (some 2) (.own 5 0 none)):=fun L k x r=>by kernel_rfl
theorem callOK_delay_Pairs (p:El T_api_Prog) (hk:k_delay_Pairs p=true):CallOK dProg 26 (toForms sg_delay_Pairs (p,())) (R_delay_Pairs (v_delay_Pairs p),tps (toForms sg_delay_Pairs (p,()))):=by
 obtain ⟨hs,hd⟩:=delayOK hk
 refine callOK_of_wp (tb:=[]) (fn:=Go.Proofs.Tryz.f26) (c:=dpB) (vs:=[.ag [.d (.sl T_api_Sym) p.1,.d (.sl (.sl T_api_Ins)) p.2]]) (st:=⟨[],[]⟩) (by kernel_rfl) (by kernel_rfl) (by kernel_rfl) ?_
 intro _ Mod F0 w0 a w hr
 have hr:Rel Mod F0 w0 (dS0 p) a w:=hr
 rw[dpB_eq]
 refine wp_seq (piece dcl.1 dcl.2 (norm dProg ⟨[1],[]⟩) (fun h=>norm_rel h) (dp_0 p) hr fun a w hr=>?_)
 refine wp_seq (piece dcl.1 dcl.2 (norm dProg ⟨[1,3],[]⟩) (fun h=>norm_rel h) ((dp_1 p).ok hs) hr fun a w hr=>?_)
 refine wp_seq (piece dcl.1 dcl.2 (norm dProg ⟨[1,3,4],[(5,118)]⟩) (fun h=>norm_rel h) (dp_2 p (v_touch_Of p)) hr fun a w hr=>?_)
 refine wp_seq (wp_seq (piece dcl.1 dcl.2 (norm dProg labA) (fun h=>norm_rel h) (dp_3 p (v_touch_Of p)) hr fun a w hr=>?_))
 refine w_K0 (l:=ofC p) hd hr fun t b a w hr=>?_
 refine wp_seq (piece dcl.1 dcl.2 (fun s=>s) (fun h=>h) (dp_E p (ofC p) (outN p (ofC p) p.2.length) t b) hr fun a w hr=>?_)
 exact wp_ret ⟨.inr rfl,_,hr,by kernel_rfl⟩
noncomputable def e_delay_Pairs:Run:=entG sg_delay_Pairs R_delay_Pairs (fun a=>k_delay_Pairs a.1) (fun a=>v_delay_Pairs a.1)
theorem ok_delay_Pairs:EntOK dProg 26 e_delay_Pairs:=entG_hand (known_of (fn:=Go.Proofs.Tryz.f26) (c:=dpB) (by kernel_rfl) (by kernel_rfl) (by kernel_rfl)) fun a h=>callOK_delay_Pairs a.1 h
end
end Go.Ev
end

section
open Go Go.Ev
namespace Go.Ev
noncomputable section
def sg_ins_Fence:Sig:=[(true,T_api_Ins)]
noncomputable def t_ins_Fence:Tbl:=[(110,e_ins_Right),(83,e_ins_Locked)]
theorem tk_ins_Fence:∀p∈t_ins_Fence,EntOK Go.Proofs.Tryz.prog p.1 p.2:=tbl_cons ok_ins_Right (tbl_cons ok_ins_Locked (tbl_nil))
noncomputable def c_ins_Fence:Code:=Go.Proofs.Tryz.f79.body.getD .skip
def tb_ins_Fence:Tb:=[]
def T_ins_Fence (i:El T_api_Ins):Empty→JT Empty (Bool):=fun j=>nomatch j
def T0_ins_Fence (i:El T_api_Ins):JT Empty (Bool):=.br (k_ins_Right i) (.br ((v_ins_Right i)==(0:Int)) (.br (i.1==(12:Int)) (.leaf true) (.br (k_ins_Locked i) (.leaf (v_ins_Locked i)) (.no))) (.br (k_ins_Locked i) (.leaf (v_ins_Locked i)) (.no))) (.no)
def v_ins_Fence (i:El T_api_Ins):Bool:=bif (k_ins_Right i) then bif ((v_ins_Right i)==(0:Int)) then bif (i.1==(12:Int)) then true else bif (k_ins_Locked i) then (v_ins_Locked i) else false else bif (k_ins_Locked i) then (v_ins_Locked i) else false else false
def k_ins_Fence (i:El T_api_Ins):Bool:=bif (k_ins_Right i) then bif ((v_ins_Right i)==(0:Int)) then bif (i.1==(12:Int)) then true else bif (k_ins_Locked i) then true else false else bif (k_ins_Locked i) then true else false else false
theorem g_ins_Fence (i:El T_api_Ins) (hk:k_ins_Fence i=true):Goes (T_ins_Fence i) (T0_ins_Fence i) (v_ins_Fence i):=Goes.brk hk (fun hk=>Goes.brk hk (fun hk=>Goes.brk hk (fun hk=>Goes.leaf) (fun hk=>Goes.brk hk (fun hk=>Goes.leaf) (fun hk=>Goes.nok hk))) (fun hk=>Goes.brk hk (fun hk=>Goes.leaf) (fun hk=>Goes.nok hk))) (fun hk=>Goes.nok hk)
def R_ins_Fence:Bool→AV:=fun (r:Bool)=>.d .bool r
def S_ins_Fence (i:El T_api_Ins):Empty→Nat×St:=fun j=>nomatch j
theorem en_ins_Fence (i:El T_api_Ins) (L:Lt):entryA Go.Proofs.Tryz.prog (clOf t_ins_Fence) tb_ins_Fence Go.Proofs.Tryz.f79 c_ins_Fence L (toForms sg_ins_Fence (i,()))=(T0_ins_Fence i).run (fun v=>some (R_ins_Fence v,tps (toForms sg_ins_Fence (i,())))) fun j=>L (S_ins_Fence i j).1 (S_ins_Fence i j).2:=by kernel_rfl
theorem lp_ins_Fence (i:El T_api_Ins):∀(L:Lt) (j:Empty),procOf (procsF Go.Proofs.Tryz.prog (clOf t_ins_Fence) tb_ins_Fence Go.Proofs.Tryz.f79 c_ins_Fence (toForms sg_ins_Fence (i,()))) (S_ins_Fence i j).1 L (S_ins_Fence i j).2=(T_ins_Fence i j).run (fun v=>some (R_ins_Fence v,tps (toForms sg_ins_Fence (i,())))) fun j=>L (S_ins_Fence i j).1 (S_ins_Fence i j).2:=fun L j=>nomatch j
noncomputable def e_ins_Fence:Run:=entG sg_ins_Fence R_ins_Fence (fun a=>k_ins_Fence a.1) (fun a=>v_ins_Fence a.1)
theorem ok_ins_Fence:EntOK Go.Proofs.Tryz.prog 79 e_ins_Fence:=entG_ok (tb:=tb_ins_Fence) (c:=c_ins_Fence) tk_ins_Fence (by kernel_rfl) (by kernel_rfl) (by kernel_rfl) (fun a=>by kernel_rfl) fun ⟨i,_⟩ hk=>evF_goes (c:=c_ins_Fence) (K:=fun v=>(R_ins_Fence v,tps (toForms sg_ins_Fence (i,())))) (S:=S_ins_Fence i) (by kernel_rfl) (en_ins_Fence i) (lp_ins_Fence i) (g_ins_Fence i hk)
end
end Go.Ev
end

section
open Go Go.Ev
namespace Go.Ev
noncomputable section
def sg_road_Ends:Sig:=[(true,(.sl T_api_Ins)),(false,(.sl (.int .i64))),(false,(.int .i64))]
noncomputable def t_road_Ends:Tbl:=[(51,e_bits_New),(53,e_bits_Set_Put),(78,e_flow_Next),(54,e_bits_Set_Has),(79,e_ins_Fence),(80,e_bits_Set_List)]
theorem tk_road_Ends:∀p∈t_road_Ends,EntOK Go.Proofs.Tryz.prog p.1 p.2:=tbl_cons ok_bits_New (tbl_cons ok_bits_Set_Put (tbl_cons ok_flow_Next (tbl_cons ok_bits_Set_Has (tbl_cons ok_ins_Fence (tbl_cons ok_bits_Set_List (tbl_nil))))))
noncomputable def c_road_Ends:Code:=Go.Proofs.Tryz.f47.body.getD .skip
def tb_road_Ends:Tb:=[(4,⟨[2,3,7,8,23,24,25],[]⟩),(11,⟨[3,7,8,11],[(1000000000000000000000000000000000000000000000000000000000012,1)]⟩),(17,⟨[3,7,8,11,51,52,53],[(1000000000000000000000000000000000000000000000000000000000012,1)]⟩)]
inductive J_road_Ends where | l4 (h:Int) (closed:Int) (closed1:List (Int×Int)) | l11 (closed:Int) (closed1:List (Int×Int)) (len:Nat) (seen:Int) (open_:List Int) (seen1:List (Int×Int)) | l17 (closed:Int) (closed1:List (Int×Int)) (len:Nat) (h:Int) (seen:Int) (open_:List Int) (seen1:List (Int×Int)) (h1:Int) (h2:List Int)
def T_road_Ends (t:List (El T_api_Ins)) (points:List Int) (s:Int):J_road_Ends→JT J_road_Ends (List Int) |.l4 h closed closed1=>.br (decide (h < (Int.ofNat (List.length points)))) (.br ((decide ((0:Int)≤h))&&(decide (h < (Int.ofNat (List.length points))))) (.jmp (.l4 (IntKind.i64.wrap (h+(1:Int))) (v_bits_Set_Put (closed,closed1) (List.getD points (Int.toNat h) (dflt (.int .i64)))).2.1 (v_bits_Set_Put (closed,closed1) (List.getD points (Int.toNat h) (dflt (.int .i64)))).2.2)) (.no)) (.jmp (.l11 closed closed1 1 (v_bits_New (Int.ofNat (List.length t))).1 [s] (v_bits_New (Int.ofNat (List.length t))).2)) |.l11 closed closed1 len seen open_ seen1=>.br (decide ((Int.ofNat len) > (0:Int))) (.br ((decide ((0:Int)≤(IntKind.i64.wrap ((Int.ofNat len) - (1:Int)))))&&(decide ((IntKind.i64.wrap ((Int.ofNat len) - (1:Int))) < (Int.ofNat len)))) (.br ((decide ((0:Int)≤(IntKind.i64.wrap ((Int.ofNat len) - (1:Int)))))&&(decide ((IntKind.i64.wrap ((Int.ofNat len) - (1:Int)))≤(Int.ofNat len)))) (.br (k_flow_Next t (List.getD open_ (Int.toNat (IntKind.i64.wrap ((Int.ofNat len) - (1:Int)))) (dflt (.int .i64)))) (.jmp (.l17 closed closed1 (Int.toNat (IntKind.i64.wrap ((Int.ofNat len) - (1:Int)))) (0:Int) seen open_ seen1 (Int.ofNat (List.length (v_flow_Next t (List.getD open_ (Int.toNat (IntKind.i64.wrap ((Int.ofNat len) - (1:Int)))) (dflt (.int .i64)))))) (v_flow_Next t (List.getD open_ (Int.toNat (IntKind.i64.wrap ((Int.ofNat len) - (1:Int)))) (dflt (.int .i64)))))) (.no)) (.no)) (.no)) (.br (k_bits_Set_List (seen,seen1)) (.leaf (v_bits_Set_List (seen,seen1)).1) (.no)) |.l17 closed closed1 len h seen open_ seen1 h1 h2=>.br (decide (h < h1)) (.br ((decide ((0:Int)≤h))&&(decide (h < (Int.ofNat (List.length h2))))) (.br (! (v_bits_Set_Has (closed,closed1) (List.getD h2 (Int.toNat h) (dflt (.int .i64)))).1) (.br (v_bits_Set_Put (seen,seen1) (List.getD h2 (Int.toNat h) (dflt (.int .i64)))).1 (.br ((decide ((0:Int)≤(List.getD h2 (Int.toNat h) (dflt (.int .i64)))))&&(decide ((List.getD h2 (Int.toNat h) (dflt (.int .i64))) < (Int.ofNat (List.length t))))) (.br (k_ins_Fence (List.getD t (Int.toNat (List.getD h2 (Int.toNat h) (dflt (.int .i64)))) (dflt T_api_Ins))) (.br (! (v_ins_Fence (List.getD t (Int.toNat (List.getD h2 (Int.toNat h) (dflt (.int .i64)))) (dflt T_api_Ins)))) (.br (Nat.ble (((List.length (List.take len open_))+1)*8) limit) (.jmp (.l17 (v_bits_Set_Has (closed,closed1) (List.getD h2 (Int.toNat h) (dflt (.int .i64)))).2.1 (v_bits_Set_Has (closed,closed1) (List.getD h2 (Int.toNat h) (dflt (.int .i64)))).2.2 (List.length ((List.take len open_)++[(List.getD h2 (Int.toNat h) (dflt (.int .i64)))])) (IntKind.i64.wrap (h+(1:Int))) (v_bits_Set_Put (seen,seen1) (List.getD h2 (Int.toNat h) (dflt (.int .i64)))).2.1 ((List.take len open_)++[(List.getD h2 (Int.toNat h) (dflt (.int .i64)))]) (v_bits_Set_Put (seen,seen1) (List.getD h2 (Int.toNat h) (dflt (.int .i64)))).2.2 h1 h2)) (.no)) (.jmp (.l17 (v_bits_Set_Has (closed,closed1) (List.getD h2 (Int.toNat h) (dflt (.int .i64)))).2.1 (v_bits_Set_Has (closed,closed1) (List.getD h2 (Int.toNat h) (dflt (.int .i64)))).2.2 len (IntKind.i64.wrap (h+(1:Int))) (v_bits_Set_Put (seen,seen1) (List.getD h2 (Int.toNat h) (dflt (.int .i64)))).2.1 open_ (v_bits_Set_Put (seen,seen1) (List.getD h2 (Int.toNat h) (dflt (.int .i64)))).2.2 h1 h2))) (.no)) (.no)) (.jmp (.l17 (v_bits_Set_Has (closed,closed1) (List.getD h2 (Int.toNat h) (dflt (.int .i64)))).2.1 (v_bits_Set_Has (closed,closed1) (List.getD h2 (Int.toNat h) (dflt (.int .i64)))).2.2 len (IntKind.i64.wrap (h+(1:Int))) (v_bits_Set_Put (seen,seen1) (List.getD h2 (Int.toNat h) (dflt (.int .i64)))).2.1 open_ (v_bits_Set_Put (seen,seen1) (List.getD h2 (Int.toNat h) (dflt (.int .i64)))).2.2 h1 h2))) (.jmp (.l17 (v_bits_Set_Has (closed,closed1) (List.getD h2 (Int.toNat h) (dflt (.int .i64)))).2.1 (v_bits_Set_Has (closed,closed1) (List.getD h2 (Int.toNat h) (dflt (.int .i64)))).2.2 len (IntKind.i64.wrap (h+(1:Int))) seen open_ seen1 h1 h2))) (.no)) (.jmp (.l11 closed closed1 len seen open_ seen1))
def T0_road_Ends (t:List (El T_api_Ins)) (points:List Int) (s:Int):JT J_road_Ends (List Int):=.jmp (.l4 (0:Int) (v_bits_New (Int.ofNat (List.length t))).1 (v_bits_New (Int.ofNat (List.length t))).2)
def R_road_Ends:List Int→AV:=fun (r:List Int)=>.rw 3 (.int .i64) r
def S_road_Ends (t:List (El T_api_Ins)) (points:List Int) (s:Int):J_road_Ends→Nat×St |.l4 h closed closed1=>(4,⟨mkTm 82 [(2,.d (.int .i64) s),(3,.pt 4 0 0),(7,.pt 8 0 0),(8,.pt 9 0 0),(23,.d (.sl (.int .i64)) points),(24,.d (.int .i64) (Int.ofNat (List.length points))),(25,.d (.int .i64) h)],[(4,0,.box 33 [.d (.sl T_api_Ins) t] none),(8,0,.box 117 [.d (.int .i64) closed,.mp 8194 0] none),(9,0,.box 117 [.d (.int .i64) (v_bits_New (Int.ofNat (List.length t))).1,.mp 9218 0] none),(8194,0,.map (.int .i64) (.int .u64) closed1),(9218,0,.map (.int .i64) (.int .u64) (v_bits_New (Int.ofNat (List.length t))).2)]⟩) |.l11 closed closed1 len seen open_ seen1=>(11,⟨mkTm 82 [(3,.pt 4 0 0),(7,.pt 8 0 0),(8,.pt 9 0 0),(11,.own 12 0 (some len))],[(4,0,.box 33 [.d (.sl T_api_Ins) t] none),(8,0,.box 117 [.d (.int .i64) closed,.mp 8194 0] none),(9,0,.box 117 [.d (.int .i64) seen,.mp 9218 0] none),(12,0,.row 3 (.int .i64) open_ false),(8194,0,.map (.int .i64) (.int .u64) closed1),(9218,0,.map (.int .i64) (.int .u64) seen1)]⟩) |.l17 closed closed1 len h seen open_ seen1 h1 h2=>(17,⟨mkTm 82 [(3,.pt 4 0 0),(7,.pt 8 0 0),(8,.pt 9 0 0),(11,.own 12 0 (some len)),(51,.own 52 0 none),(52,.d (.int .i64) h1),(53,.d (.int .i64) h)],[(4,0,.box 33 [.d (.sl T_api_Ins) t] none),(8,0,.box 117 [.d (.int .i64) closed,.mp 8194 0] none),(9,0,.box 117 [.d (.int .i64) seen,.mp 9218 0] none),(12,0,.row 3 (.int .i64) open_ false),(52,0,.row 3 (.int .i64) h2 false),(8194,0,.map (.int .i64) (.int .u64) closed1),(9218,0,.map (.int .i64) (.int .u64) seen1)]⟩)
theorem en_road_Ends (t:List (El T_api_Ins)) (points:List Int) (s:Int) (L:Lt):entryA Go.Proofs.Tryz.prog (clOf t_road_Ends) tb_road_Ends Go.Proofs.Tryz.f47 c_road_Ends L (toForms sg_road_Ends (t,points,s,()))=(T0_road_Ends t points s).run (fun v=>some (R_road_Ends v,tps (toForms sg_road_Ends (t,points,s,())))) fun j=>L (S_road_Ends t points s j).1 (S_road_Ends t points s j).2:=by kernel_rfl
theorem lp_road_Ends (t:List (El T_api_Ins)) (points:List Int) (s:Int):∀(L:Lt) (j:J_road_Ends),procOf (procsF Go.Proofs.Tryz.prog (clOf t_road_Ends) tb_road_Ends Go.Proofs.Tryz.f47 c_road_Ends (toForms sg_road_Ends (t,points,s,()))) (S_road_Ends t points s j).1 L (S_road_Ends t points s j).2=(T_road_Ends t points s j).run (fun v=>some (R_road_Ends v,tps (toForms sg_road_Ends (t,points,s,())))) fun j=>L (S_road_Ends t points s j).1 (S_road_Ends t points s j).2 | L,.l4 h closed closed1=>by kernel_rfl | L,.l11 closed closed1 len seen open_ seen1=>by kernel_rfl | L,.l17 closed closed1 len h seen open_ seen1 h1 h2=>by kernel_rfl
end
end Go.Ev
end

section
open Go
namespace Go.Ev
theorem k_fence {i:El T_api_Ins} (h:smallText i.2.2.2.2.2.1=true):k_ins_Fence i=true:=by
 have h0:k_ins_Right i=true:=h
 have a:k_ins_Locked i=true:=by unfold k_ins_Locked;simp only[h0,cond_true,Bool.cond_self]
 unfold k_ins_Fence
 simp only[h0,a,cond_true,Bool.cond_self]
end Go.Ev
end

section
open Go
namespace Go.Ev
def fenceAtT (t:List (El T_api_Ins)) (k:Nat):Bool:=v_ins_Fence (t.getD k (dflt T_api_Ins))
def stepB (t:List (El T_api_Ins)) (points:List Int) (k j:Nat):Bool:=!fenceAtT t k&&(nextB t (k:Int) j&& !points.contains (j:Int))
def firstB (t:List (El T_api_Ins)) (points:List Int) (s:Int) (j:Nat):Bool:=nextB t s j&& !points.contains (j:Int)
noncomputable def endsB (t:List (El T_api_Ins)) (points:List Int) (s:Int) (j:Nat):Bool:=comeB (stepB t points) (firstB t points s) j
theorem stepB_lt {t:List (El T_api_Ins)} {points:List Int} {k j:Nat} (h:stepB t points k j=true):j < t.length:=by
 unfold stepB at h
 simp only[Bool.and_eq_true] at h
 exact nextB_lt h.2.1
theorem firstB_lt {t:List (El T_api_Ins)} {points:List Int} {s:Int} {j:Nat} (h:firstB t points s j=true):j < t.length:=by
 unfold firstB at h
 simp only[Bool.and_eq_true] at h
 exact nextB_lt h.1
end Go.Ev
end

section
open Go
namespace Go.Ev
noncomputable def v_road_Ends (t:List (El T_api_Ins)) (points:List Int) (s:Int):List Int:=listOf t.length (endsB t points s)
def k_road_Ends (t:List (El T_api_Ins)) (points:List Int) (s:Int):Bool:=flowOK t&&decide (points.length < 4611686018427387904)
def goB (t:List (El T_api_Ins)) (points:List Int) (x:Int) (j:Nat):Bool:=nextB t x j&& !points.contains (j:Int)
def nodeP (t:List (El T_api_Ins)) (s:Int) (M:Nat→Bool) (x:Int):Prop:=x=s∨∃j:Nat,x=(j:Int)∧M j=true∧fenceAtT t j=false
theorem take_pred' {l:List Int} {n:Nat} (h:n+1≤l.length):l.take (n+1)=l.take n++[l.getD n 0]:=by
 have hn:n < l.length:=by omega
 rw[List.take_succ_eq_append_getElem hn,getD_lt hn]
theorem g_road_Ends (t:List (El T_api_Ins)) (points:List Int) (s:Int) (hk:k_road_Ends t points s=true):Goes (T_road_Ends t points s) (T0_road_Ends t points s) (v_road_Ends t points s):=by
 unfold k_road_Ends at hk
 rw[Bool.and_eq_true] at hk
 obtain ⟨hf,hpl⟩:=hk
 have hpl:=of_decide_eq_true hpl
 have hlen:=flowOK_len hf
 generalize hn:t.length=n at hlen
 have kfe:∀k,k < n→k_ins_Fence (List.getD t k (dflt T_api_Ins))=true:=fun k hk=>by
  have hmem:t.getD k (dflt T_api_Ins)∈t:=by rw[getD_lt (by omega)];exact List.getElem_mem (by omega)
  exact k_fence (flowOK_text hf hmem)
 have main:∀(C:Nat→Bool) (cl:Int×List (Int×Int)),SetOK cl n C→(∀j,j < n→C j=points.contains (j:Int))→∀m,∀(M:Nat→Bool) (se:Int×List (Int×Int)) (open_:List Int) (len:Nat),len≤open_.length→2*(n - card n M)+len=m→SetOK se n M→
   (∀j,M j=true→Come (stepB t points) (firstB t points s) j)→(∀x∈open_.take len,nodeP t s M x)→(∀x,nodeP t s M x→x∈open_.take len∨∀j,goB t points x j=true→M j=true)→len≤card n M+1→
   Goes (T_road_Ends t points s) (.jmp (.l11 cl.1 cl.2 len se.1 open_ se.2)) (v_road_Ends t points s):=by
  intro C cl hcl hC m
  induction m using Nat.strongRecOn with
  | _ m ih=>
  intro M se open_ len hl hm hs h1 h2 h3 h5
  cases len with
  | zero=>
   rw[goes_jmp,T_road_Ends,goes_br,if_neg (by decide)]
   have hkl:k_bits_Set_List (se.1,se.2)=true:=Nat.ble_eq_true_of_le (by have:=hs.few;unfold limit;show se.2.length*512≤_;omega)
   rw[goes_br,if_pos hkl]
   have hv:(v_bits_Set_List (se.1,se.2)).1=v_road_Ends t points s:=by
    show listS se=_
    rw[hs.list (by omega)]
    unfold v_road_Ends endsB
    rw[hn]
    refine listOf_congr fun j _=>comeB_eq (fun j hj=>?_) (fun k j hk hj=>?_) h1 j
    ·rcases h3 s (.inl rfl) with h | h
     ·simp at h
     ·exact h j hj
    ·unfold stepB at hj
     rw[Bool.and_eq_true] at hj
     rcases h3 (k:Int) (.inr ⟨k,rfl,hk,by simpa using hj.1⟩) with h | h
     ·simp at h
     ·exact h j hj.2
   rw[hv];exact .leaf
  | succ len=>
   have hc:= @card_le n M
   have e:IntKind.i64.wrap (Int.ofNat (len+1) - 1)=(len:Int):=by
    rw[wrap_i64 (by simp <;> omega) (by simp <;> omega)];simp
   have g1:decide (Int.ofNat (len+1) > (0:Int))=true:=decide_eq_true (by simp <;> omega)
   have g2:(decide ((0:Int)≤(len:Int))&&decide ((len:Int) < Int.ofNat (len+1)))=true:=bound_len (by omega)
   have g3:(decide ((0:Int)≤(len:Int))&&decide ((len:Int)≤Int.ofNat (len+1)))=true:=by simp;omega
   rw[goes_jmp,T_road_Ends,e,goes_br,if_pos g1,goes_br,if_pos g2,goes_br,if_pos g3,Int.toNat_natCast]
   have htk:=take_pred' hl
   generalize hx0:open_.getD len 0=x0 at htk
   have hd:open_.getD len (dflt (.int .i64))=x0:=hx0
   rw[hd]
   have kn:k_flow_Next t x0=true:=hf
   rw[goes_br,if_pos kn]
   have hnode:=h2 x0 (by rw[htk];simp)
   generalize hr:v_flow_Next t x0=r
   have hrm:∀y∈r,∃j:Nat,j < n∧nextB t x0 j=true∧y=(j:Int):=fun y hy=>by
    rw[←hr] at hy
    unfold v_flow_Next at hy
    rw[hn] at hy
    exact listOf_mem.1 hy
   have hrl:r.length≤n:=by rw[←hr];unfold v_flow_Next;rw[listOf_length,hn];exact card_le
   have hin:∀j:Nat,nextB t x0 j=true→(j:Int)∈r:=fun j hj=>by rw[←hr];exact listOf_mem.2 ⟨j,nextB_lt hj,hj,rfl⟩
   have inner:∀h,h≤r.length→∀(M1:Nat→Bool) (se1:Int×List (Int×Int)) (op1:List Int) (len1:Nat),len1≤op1.length→2*(n - card n M1)+len1 < m→SetOK se1 n M1→nodeP t s M1 x0→
     (∀j,M1 j=true→Come (stepB t points) (firstB t points s) j)→(∀x∈op1.take len1,nodeP t s M1 x)→(∀x,nodeP t s M1 x→x∈op1.take len1∨∀j,goB t points x j=true→M1 j=true∨(x=x0∧(j:Int)∈r.drop h))→len1≤card n M1+1→
     Goes (T_road_Ends t points s) (.jmp (.l17 cl.1 cl.2 len1 (h:Int) se1.1 op1 se1.2 (Int.ofNat r.length) r)) (v_road_Ends t points s):=by
    refine down ?_ fun h hh ih2=>?_
    ·intro M1 se1 op1 len1 i1 i2 i3 i4 i5 i6 i7 i8
     rw[goes_jmp,T_road_Ends,goes_br,if_neg (by rw[lt_len_not (Nat.lt_irrefl _)];decide)]
     refine ih _ i2 M1 se1 op1 len1 i1 rfl i3 i5 i6 (fun x hx=>(i7 x hx).imp id fun h j hj=>(h j hj).resolve_right (by simp)) i8
    ·intro M1 se1 op1 len1 i1 i2 i3 i4 i5 i6 i7 i8
     obtain ⟨y,hy,hyN,hxy⟩:=hrm r[h] (List.getElem_mem hh)
     have hdy:List.getD r h (dflt (.int .i64))=(y:Int):=by rw[←hxy];exact getD_lt hh
     have hhas:(v_bits_Set_Has (cl.1,cl.2) (y:Int)).1=points.contains (y:Int):=by
      show hasS cl (y:Int)=_
      rw[hcl.has (by omega),Int.toNat_natCast,decide_eq_true (by omega),Bool.true_and,hC y hy]
     have hhas2:(v_bits_Set_Has (cl.1,cl.2) (y:Int)).2=cl:=rfl
     have hput:v_bits_Set_Put (se1.1,se1.2) (y:Int)=putS se1 (y:Int):=rfl
     have hdr:∀z,z∈r.drop h↔z=(y:Int)∨z∈r.drop (h+1):=fun z=>by rw[drop_cons hh,List.mem_cons,hxy]
     rw[goes_jmp,T_road_Ends,goes_br,if_pos (lt_len hh),goes_br,if_pos (bound_len hh),goes_br,Int.toNat_natCast,hdy,hhas,hhas2,hput,wrap_succ (by omega)]
     have skip:(goB t points x0 y=true→M1 y=true)→Goes (T_road_Ends t points s) (.jmp (.l17 cl.1 cl.2 len1 ((h+1:Nat):Int) se1.1 op1 se1.2 (Int.ofNat r.length) r)) (v_road_Ends t points s):=fun hsk=>
      ih2 M1 se1 op1 len1 i1 i2 i3 i4 i5 i6 (fun x hx=>(i7 x hx).imp id fun hg j hj=>by
       rcases hg j hj with h | ⟨hx0,h⟩
       ·exact .inl h
       ·rcases (hdr _).1 h with h | h
        ·have:j=y:=by omega
         subst this
         rw[hx0] at hj
         exact .inl (hsk hj)
        ·exact .inr ⟨hx0,h⟩) i8
     cases hpt:points.contains (y:Int) with
     | true=>
      rw[if_neg (by decide)]
      exact skip fun h=>by unfold goB at h;rw[hpt,Bool.not_true,Bool.and_false] at h;cases h
     | false=>
      rw[if_pos (by decide),goes_br]
      cases hMy:M1 y with
      | true=>
       have hno:=i3.put_no (by omega) (i:=(y:Int)) (fun h=>by rw[Int.toNat_natCast,hMy] at h;cases h.2.2)
       rw[hno,if_neg (by simp)]
       exact skip fun _=>hMy
      | false=>
       obtain ⟨p1,p2⟩:=i3.put (by omega) hy hMy
       have hgo:goB t points x0 y=true:=by unfold goB;rw[hyN,hpt];rfl
       have hcome:Come (stepB t points) (firstB t points s) y:=by
        rcases i4 with h | ⟨k,hk,hMk,hfk⟩
        ·subst h;exact .start hgo
        ·subst hk;exact .step (i5 k hMk) (by unfold stepB;rw[hfk];exact hgo)
       have hcard:=card_add hMy hy
       have hcl2:= @card_le n (fun k=>M1 k || (k==y))
       have mono:∀x,nodeP t s M1 x→nodeP t s (fun k=>M1 k || (k==y)) x:=fun x hx=>hx.imp id fun ⟨k,h1,h2,h3⟩=>⟨k,h1,by show (M1 k || (k==y))=true;rw[h2];rfl,h3⟩
       have hcc:∀k,(M1 k || (k==y))=true→Come (stepB t points) (firstB t points s) k:=fun k hk=>by
        simp only[Bool.or_eq_true,beq_iff_eq] at hk
        rcases hk with hk | hk
        ·exact i5 k hk
        ·subst hk;exact hcome
       have keep:∀(o:List Int),(∀x∈op1.take len1,x∈o)→(fenceAtT t y=false→(y:Int)∈o)→∀x,nodeP t s (fun k=>M1 k || (k==y)) x→x∈o∨∀j,goB t points x j=true→(M1 j || (j==y))=true∨(x=x0∧(j:Int)∈r.drop (h+1)):=fun o ho hyo x hx=>by
        have old:nodeP t s M1 x→x∈o∨∀j,goB t points x j=true→(M1 j || (j==y))=true∨(x=x0∧(j:Int)∈r.drop (h+1)):=fun hx=>by
         rcases i7 x hx with h | h
         ·exact .inl (ho x h)
         ·refine .inr fun j hj=>?_
          rcases h j hj with h | ⟨hx0,h⟩
          ·exact .inl (by rw[h];rfl)
          ·rcases (hdr _).1 h with h | h
           ·have:j=y:=by omega
            subst this;exact .inl (by simp)
           ·exact .inr ⟨hx0,h⟩
        rcases hx with hx | ⟨k,hk,hMk,hfk⟩
        ·exact old (.inl hx)
        ·have hMk:(M1 k || (k==y))=true:=hMk
         simp only[Bool.or_eq_true,beq_iff_eq] at hMk
         rcases hMk with hMk | hMk
         ·exact old (.inr ⟨k,hk,hMk,hfk⟩)
         ·subst hMk;subst hk;exact .inl (hyo hfk)
       have vf:v_ins_Fence (List.getD t y (dflt T_api_Ins))=fenceAtT t y:=rfl
       rw[p1,if_pos rfl,goes_br,hn,if_pos (bound_len hy),goes_br,Int.toNat_natCast,if_pos (kfe y hy),goes_br,vf]
       cases hfy:fenceAtT t y with
       | true=>
        rw[if_neg (by decide)]
        exact ih2 _ _ op1 len1 i1 (by omega) p2 (mono x0 i4) hcc (fun x hx=>mono x (i6 x hx)) (keep _ (fun x hx=>hx) (fun h=>by rw[hfy] at h;cases h)) (by omega)
       | false=>
        have htl:(op1.take len1).length=len1:=by rw[List.length_take];omega
        rw[if_pos (by decide),goes_br,if_pos (Nat.ble_eq_true_of_le (by rw[htl];unfold limit;omega))]
        have htake:(op1.take len1++[(y:Int)]).take (op1.take len1++[(y:Int)]).length=op1.take len1++[(y:Int)]:=List.take_length
        have hl2:(op1.take len1++[(y:Int)]).length=len1+1:=by rw[List.length_append,htl];rfl
        refine ih2 _ _ (op1.take len1++[(y:Int)]) _ (Nat.le_refl _) (by omega) p2 (mono x0 i4) hcc (fun x hx=>?_) ?_ (by omega)
        ·rw[htake,List.mem_append] at hx
         rcases hx with hx | hx
         ·exact mono x (i6 x hx)
         ·simp only[List.mem_singleton] at hx
          exact .inr ⟨y,hx,by simp,hfy⟩
        ·rw[htake]
         exact keep _ (fun x hx=>List.mem_append_left _ hx) (fun _=>List.mem_append_right _ (by simp))
   refine inner 0 (Nat.zero_le _) M se open_ len (by omega) (by omega) hs hnode h1 (fun x hx=>h2 x (by rw[htk];simp[hx])) (fun x hx=>?_) (by omega)
   rcases h3 x hx with h | h
   ·rw[htk,List.mem_append] at h
    rcases h with h | h
    ·exact .inl h
    ·simp only[List.mem_singleton] at h
     refine .inr fun j hj=>.inr ⟨h,?_⟩
     subst h
     unfold goB at hj
     rw[Bool.and_eq_true] at hj
     rw[List.drop_zero]
     exact hin j hj.1
   ·exact .inr fun j hj=>.inl (h j hj)
 have hnew:v_bits_New (Int.ofNat (List.length t))=((n:Int),[]):=by
  rw[hn]
  unfold v_bits_New
  simp
  omega
 have first:∀h,h≤points.length→∀(C:Nat→Bool) (cl:Int×List (Int×Int)),SetOK cl n C→(∀j:Nat,j < n→((C j=true∨(j:Int)∈points.drop h)↔(j:Int)∈points))→Goes (T_road_Ends t points s) (.jmp (.l4 (h:Int) cl.1 cl.2)) (v_road_Ends t points s):=by
  refine down ?_ fun h hh ih=>?_
  ·intro C cl hcl hC
   rw[goes_jmp,T_road_Ends,goes_br,if_neg (by rw[lt_len_not (Nat.lt_irrefl _)];decide),hnew]
   refine main C cl hcl (fun j hj=>?_) _ (fun _=>false) ((n:Int),[]) [s] 1 (by simp) rfl (SetOK.new n) (fun j h=>by cases h) (fun x hx=>.inl (by simpa using hx)) (fun x hx=>.inl ?_) (by omega)
   ·have:=hC j hj
    rw[List.drop_length] at this
    rw[Bool.eq_iff_iff,List.contains_iff_mem,←this]
    simp
   ·rcases hx with hx | ⟨j,_,h,_⟩
    ·simpa using hx
    ·cases h
  ·intro C cl hcl hC
   rw[goes_jmp,T_road_Ends,goes_br,if_pos (lt_len hh),goes_br,if_pos (bound_len hh),Int.toNat_natCast,wrap_succ (by omega)]
   have hd:points.getD h (dflt (.int .i64))=points[h]:=getD_lt hh
   rw[hd]
   have hput:v_bits_Set_Put (cl.1,cl.2) points[h]=putS cl points[h]:=rfl
   rw[hput]
   have hdr:∀z,z∈points.drop h↔z=points[h]∨z∈points.drop (h+1):=fun z=>by rw[drop_cons hh,List.mem_cons]
   generalize points[h]=x at hdr
   by_cases hx:0≤x∧x < n∧C x.toNat=false
   ·obtain ⟨y,rfl⟩:=Int.eq_ofNat_of_zero_le hx.1
    rw[Int.toNat_natCast] at hx
    obtain ⟨_,p2⟩:=hcl.put (by omega) (show y < n by omega) hx.2.2
    refine ih _ _ p2 fun j hj=>?_
    rw[←hC j hj,hdr]
    simp only[Bool.or_eq_true,beq_iff_eq]
    constructor
    ·rintro ((h | h) | h)
     ·exact .inl h
     ·exact .inr (.inl (by omega))
     ·exact .inr (.inr h)
    ·rintro (h | h | h)
     ·exact .inl (.inl h)
     ·exact .inl (.inr (by omega))
     ·exact .inr h
   ·rw[hcl.put_no (by omega) hx]
    refine ih C cl hcl fun j hj=>?_
    rw[←hC j hj,hdr]
    constructor
    ·rintro (h | h)
     ·exact .inl h
     ·exact .inr (.inr h)
    ·rintro (h | h | h)
     ·exact .inl h
     ·left
      cases hCj:C j with
      | true=>rfl
      | false=>exact absurd ⟨by omega,by omega,by rw[←h,Int.toNat_natCast];exact hCj⟩ hx
     ·exact .inr h
 unfold T0_road_Ends
 rw[hnew]
 exact first 0 (Nat.zero_le _) (fun _=>false) ((n:Int),[]) (SetOK.new n) fun j _=>by simp
end Go.Ev
end

section
open Go Go.Ev
namespace Go.Ev
noncomputable section
noncomputable def e_road_Ends:Run:=entG sg_road_Ends R_road_Ends (fun a=>k_road_Ends a.1 a.2.1 a.2.2.1) (fun a=>v_road_Ends a.1 a.2.1 a.2.2.1)
theorem ok_road_Ends:EntOK Go.Proofs.Tryz.prog 47 e_road_Ends:=entG_ok (tb:=tb_road_Ends) (c:=c_road_Ends) tk_road_Ends (by kernel_rfl) (by kernel_rfl) (by kernel_rfl) (fun a=>by kernel_rfl) fun ⟨t,points,s,_⟩ hk=>evF_goes (c:=c_road_Ends) (K:=fun v=>(R_road_Ends v,tps (toForms sg_road_Ends (t,points,s,())))) (S:=S_road_Ends t points s) (by kernel_rfl) (en_road_Ends t points s) (lp_road_Ends t points s) (g_road_Ends t points s hk)
end
end Go.Ev
end

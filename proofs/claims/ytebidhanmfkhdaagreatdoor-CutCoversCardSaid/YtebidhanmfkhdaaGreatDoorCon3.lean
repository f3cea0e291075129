/- Part of the proof of: Whether any points are enough, and which of them go, is what the document says: for every input the law answers true. -/
import Derived.Test.YtebidhanmfkhdaaGreatDoorCon2
set_option maxRecDepth 100000
set_option linter.unusedSectionVars false
set_option linter.unusedVariables false
set_option linter.unusedSimpArgs false
section
open Go
namespace Go.Ev
noncomputable def Zcc (p:El Zc) (t:Int):List Int:=if rightT p t=true then putsL [] ((opT p t).map fun x=>(show Int from x.2.1)+1) else []
def Ziz (p:El Zc) (t:Int):Bool:=cutOK p
theorem ZK2 (p:El Zc) (t:Int) (hk:Ziz p t=true):Goes (ZlI p t) (ZsO p t) (Zcc p t):=by
 have hF:=Zrp hk
 obtain ⟨r1,r2⟩:=hF.right t
 unfold ZsO Zcc
 rw[Ze,if_pos r1,r2,Ze]
 by_cases hr:¬rightT p t=true
 ·rw[if_pos (by simpa using hr),if_neg hr]
  exact .leaf
 have hr:=Decidable.not_not.1 hr
 rw[if_neg (by rw[hr];decide),if_pos hr,Ze,if_pos hF.ko,Ze,if_pos (show ZcB (Zw p) t=true from decide_eq_true (by have:=hF.lo;omega))]
 have hv:Z6 (Zw p) t=opT p t:=rfl
 have hN:=ZQn hF t
 have hs:∀x∈opT p t,0≤(show Int from x.2.1)∧(show Int from x.2.1) < 1099511627776:=fun x hx=>ZAy (ZP5 hF hx).1
 obtain ⟨O,hO⟩:∃O,opT p t=O:=⟨_,rfl⟩
 rw[hO] at hN hs hv ⊢
 have loop:∀k,k≤O.length→Goes (ZlI p t) (.jmp (.l7 (k:Int) ((O.take k).map fun x=>(show Int from x.2.1)+1))) (putsL [] (O.map fun x=>(show Int from x.2.1)+1)):=by
  refine down ?_ fun k hk ih=>?_
  ·rw[Zi,ZlI,hv,Ze,if_neg (by rw[Zv (Nat.lt_irrefl _)];decide),List.take_length,Ze,if_pos (show Zdq _=true from decide_eq_true (by rw[List.length_map];omega))]
   exact .leaf
  ·have b1:Nat.ble ((((O.take k).map fun x=>(show Int from x.2.1)+1).length+1)*8) limit=true:=Nat.ble_eq_true_of_le (by rw[List.length_map,List.length_take];unfold limit;omega)
   obtain ⟨s0,s1⟩:=hs _ (List.getElem_mem hk)
   have hw:IntKind.i64.wrap (O[k].2.1+(1:Int))=(show Int from O[k].2.1)+1:=by
    show IntKind.i64.wrap ((show Int from O[k].2.1)+(1:Int))=_
    generalize (show Int from O[k].2.1)=y at*
    exact wrap_i64 (by omega) (by omega)
   rw[List.take_succ_eq_append_getElem hk,List.map_append] at ih
   rw[Zi,ZlI,hv,Ze,if_pos (ZO hk),Ze,if_pos (by rw[nng,ZO hk];rfl),Ze,if_pos b1,Int.toNat_natCast,ZH hk,Zo (by omega),hw]
   exact ih
 exact loop 0 (Nat.zero_le _)
end Go.Ev
end

section
open Go Go.Ev
namespace Go.Ev
noncomputable section
noncomputable def ZBv:Run:=entG ZhA Zpf (fun a=>Ziz a.1 a.2.1) (fun a=>Zcc a.1 a.2.1)
theorem ZIy:EntOK Go.Proofs.Tryz.prog 16 ZBv:=ZI (tb:=Zsh) (c:=Zo3) ZHV (by kernel_rfl) (by kernel_rfl) (by kernel_rfl) (fun a=>by kernel_rfl) fun ⟨p,t,_⟩ hk=>Zl (c:=Zo3) (K:=fun v=>(Zpf v,tps (toForms ZhA (p,t,())))) (S:=ZgD p t) (by kernel_rfl) (ZHr p t) (ZKh p t) (ZK2 p t hk)
end
end Go.Ev
end

section
open Go Go.Ev
namespace Go.Ev
noncomputable section
def Zk4:Sig:=[(true,Zc)]
noncomputable def ZAf:Tbl:=[(43,ZkF),(26,ZfW),(39,Zmx),(42,Zru)]
theorem ZMT:∀p∈ZAf,EntOK Go.Proofs.Tryz.prog p.1 p.2:=Zg ZnW (Zg Zgo (Zg Zqq (Zg ZwL (Zt))))
noncomputable def Zv4:Code:=Go.Proofs.Tryz.f20.body.getD .skip
def Zx4:Tb:=[(8,⟨[1,3,4,5,20,21],[]⟩),(hintK,⟨[],[(1,86)]⟩)]
inductive Zr4 where | l8 (h:Int) (out:List (List Int))
def Zti (p:El Zc):Zr4→JT Zr4 (List (List Int)) |.l8 h out=>.br (decide (h < (Int.ofNat (List.length p.2)))) (.br (ZcH p h (Zj p) (Zw p)) (.br ((decide ((0:Int)≤h))&&(decide (h < (Int.ofNat (List.length out))))) (.jmp (.l8 (IntKind.i64.wrap (h+(1:Int))) (List.set out (Int.toNat h) (ZbO p h (Zj p) (Zw p))))) (.no)) (.no)) (.leaf out)
def ZxO (p:El Zc):JT Zr4 (List (List Int)):=.br (Za7 p) (.br ((ZbH p) !=(0:Int)) (.leaf []) (.br (ZS p) (.br (Zbq p) (.br ((((Int.ofNat (List.length p.2))==(Int.ofNat (List.length p.2)))&&(decide ((0:Int)≤(Int.ofNat (List.length p.2)))))&&(decide (((Int.ofNat (List.length p.2))*(24:Int))≤(limit:Int)))) (.jmp (.l8 (0:Int) (List.replicate (List.length p.2) []))) (.no)) (.no)) (.no))) (.no)
def Zxc:List (List Int)→AV:=fun (r:List (List Int))=>.rw 23 (.sl (.int .i64)) r
def ZlW (p:El Zc):Zr4→Nat×St |.l8 h out=>(8,⟨mkTm 34 [(1,.pt 2 0 0),(3,.own 4 0 none),(4,.own 5 0 none),(5,.own 6 0 none),(20,.d (.int .i64) (Int.ofNat (List.length p.2))),(21,.d (.int .i64) h)],[(2,0,.box 27 [.d (.sl Zx) p.1,.d (.sl (.sl Za)) p.2] none),(4,0,.row 70 Zd (Zj p) false),(5,0,.row 70 Zd (Zw p) false),(6,0,.row 23 (.sl (.int .i64)) out false)]⟩)
theorem ZMR (p:El Zc) (L:Lt):entryA Go.Proofs.Tryz.prog (clOf ZAf) Zx4 Go.Proofs.Tryz.f20 Zv4 L (toForms Zk4 (p,()))=(ZxO p).run (fun v=>some (Zxc v,tps (toForms Zk4 (p,())))) fun j=>L (ZlW p j).1 (ZlW p j).2:=by kernel_rfl
theorem ZME (p:El Zc):∀(L:Lt) (j:Zr4),procOf (procsF Go.Proofs.Tryz.prog (clOf ZAf) Zx4 Go.Proofs.Tryz.f20 Zv4 (toForms Zk4 (p,()))) (ZlW p j).1 L (ZlW p j).2=(Zti p j).run (fun v=>some (Zxc v,tps (toForms Zk4 (p,())))) fun j=>L (ZlW p j).1 (ZlW p j).2 | L,.l8 h out=>by kernel_rfl
end
end Go.Ev
end

section
open Go
namespace Go.Ev
noncomputable def ZjI (p:El Zc):List (List Int):=if checkC p=0 then (List.range p.2.length).map fun t:Nat=>ZbO p (t:Int) (Zj p) (Zw p) else []
def Zov (p:El Zc):Bool:=cutOK p
theorem Zyl {p:El Zc} (hF:CutF p) {t:Int} (hr:rightT p t=true):ZcH p t (Zj p) (Zw p)=true:=by
 obtain ⟨f1,f2,_⟩:=hF.flow t hr
 have h1:=hF.lp
 have h2:=hF.lo
 unfold ZcH
 rw[f2,f1,decide_eq_true (show (Zj p).length < 1000000000 by omega),decide_eq_true (show (Zw p).length < 1000000000 by omega),Bool.true_and,Bool.true_and,Bool.true_and,Bool.true_and]
 refine List.all_eq_true.2 fun x hx=>?_
 obtain ⟨hp,ht⟩:=ZP5 hF hx
 have s:=ZAy hp
 have l0:=hp.ld0
 have l1:=hp.ld1
 have e:thrT p (show Int from x.1)=thrT p t:=by rw[ht]
 rw[show thrT p x.1=thrT p t from e] at l1
 unfold loadIn storeIn
 rw[Bool.and_eq_true,decide_eq_true_eq,decide_eq_true_eq]
 exact ⟨⟨l0,l1⟩,s⟩
theorem ZNM (p:El Zc) (hk:Zov p=true):Goes (Zti p) (ZxO p) (ZjI p):=by
 have hF:=Zrp hk
 have hA:=smallA hF.small
 have hT:=hF.thr
 have hkc:Za7 p=true:=hA.prog
 have hvc:ZbH p=checkC p:=rfl
 have hmk:((((Int.ofNat (List.length p.2))==(Int.ofNat (List.length p.2)))&&(decide ((0:Int)≤(Int.ofNat (List.length p.2)))))&&(decide (((Int.ofNat (List.length p.2))*(24:Int))≤(limit:Int))))=true:=by
  rw[beq_self_eq_true,decide_eq_true (show (0:Int)≤Int.ofNat (List.length p.2) from Int.natCast_nonneg _),Bool.true_and,Bool.true_and]
  refine decide_eq_true ?_
  show ((List.length p.2:Nat):Int)*24≤((35184372088832:Nat):Int)
  omega
 unfold ZxO ZjI
 rw[Ze,if_pos hkc,hvc,Ze]
 by_cases hc:checkC p=0
 ·rw[if_neg (by rw[hc];decide),if_pos hc,Ze,if_pos hF.kp,Ze,if_pos hF.ko,Ze,if_pos hmk]
  have hr:∀k,k < p.2.length→rightT p (k:Int)=true:=fun k hk=>by
   unfold rightT
   rw[decide_eq_true (Int.natCast_nonneg k),decide_eq_true (show (k:Int) < (p.2.length:Int) by omega),decide_eq_true hc];rfl
  obtain ⟨V,hV⟩:∃V:Nat→List Int,V=fun t:Nat=>ZbO p (t:Int) (Zj p) (Zw p):=⟨_,rfl⟩
  have loop:∀k,k≤p.2.length→Goes (Zti p) (.jmp (.l8 (k:Int) ((List.range p.2.length).map fun t=>if t < k then V t else []))) ((List.range p.2.length).map V):=by
   refine down ?_ fun k hk ih=>?_
   ·rw[Zi,Zti,Ze,if_neg (by rw[Zv (Nat.lt_irrefl _)];decide)]
    have:((List.range p.2.length).map fun t=>if t < p.2.length then V t else [])=(List.range p.2.length).map V:=List.map_congr_left fun t ht=>by rw[if_pos (List.mem_range.1 ht)]
    rw[this]
    exact .leaf
   ·have hlen:((List.range p.2.length).map fun t=>if t < k then V t else []).length=p.2.length:=by simp
    rw[Zi,Zti,Ze,if_pos (ZO hk),Ze,if_pos (Zyl hF (hr k hk)),Ze,if_pos (by rw[nng,hlen,ZO hk];rfl),Int.toNat_natCast,Zo (by omega)]
    have e:((List.range p.2.length).map fun t=>if t < k then V t else []).set k (ZbO p (k:Int) (Zj p) (Zw p))=(List.range p.2.length).map fun t=>if t < k+1 then V t else []:=by
     apply List.ext_getElem
     ·simp
     ·intro i h1 h2
      rw[List.getElem_set]
      simp only[List.getElem_map,List.getElem_range]
      by_cases e:k=i
      ·subst e
       rw[if_pos rfl,if_pos (by omega),hV]
      ·rw[if_neg e]
       by_cases e2:i < k
       ·rw[if_pos e2,if_pos (by omega)]
       ·rw[if_neg e2,if_neg (by omega)]
    rw[e]
    exact ih
  have:=loop 0 (Nat.zero_le _)
  have e0:((List.range p.2.length).map fun t=>if t < 0 then V t else ([]:List Int))=List.replicate p.2.length []:=by
   rw[show (fun t=>if t < 0 then V t else ([]:List Int))=fun _=>[] from funext fun t=>if_neg (Nat.not_lt_zero t),List.map_const',List.length_range]
  rw[e0] at this
  rw[hV] at this
  exact this
 ·rw[if_pos (by simpa using hc),if_neg hc]
  exact .leaf
end Go.Ev
end

section
open Go Go.Ev
namespace Go.Ev
noncomputable section
noncomputable def ZJC:Run:=entG Zk4 Zxc (fun a=>Zov a.1) (fun a=>ZjI a.1)
theorem ZNc:EntOK Go.Proofs.Tryz.prog 20 ZJC:=ZI (tb:=Zx4) (c:=Zv4) ZMT (by kernel_rfl) (by kernel_rfl) (by kernel_rfl) (fun a=>by kernel_rfl) fun ⟨p,_⟩ hk=>Zl (c:=Zv4) (K:=fun v=>(Zxc v,tps (toForms Zk4 (p,())))) (S:=ZlW p) (by kernel_rfl) (ZMR p) (ZME p) (ZNM p hk)
end
end Go.Ev
end

section
open Go Go.Ev
namespace Go.Ev
noncomputable section
def Zer:Sig:=[]
noncomputable def Zpl:Tbl:=[(35,ZyN),(19,ZyL),(10,ZlX),(8,ZrH),(16,ZBv),(20,ZJC)]
theorem ZDB:∀p∈Zpl,EntOK Go.Proofs.Tryz.prog p.1 p.2:=Zg ZEh (Zg ZFp (Zg Zrk (Zg ZwZ (Zg ZIy (Zg ZNc (Zt))))))
noncomputable def Zk0:Code:=Go.Proofs.Tryz.f13.body.getD .skip
def Zn7:Tb:=[]
def ZwN:Empty→JT Empty (Bool):=fun j=>nomatch j
def Zt2:JT Empty (Bool):=.br (Zfn Zk (0:Int)) (.br (Zau (ZbM Zk (0:Int)) [(1:Int)]) (.br (Zan (ZbM Zk (0:Int)) [(1:Int)]) (.br (ZaW Zk (0:Int) [(1:Int)]) (.br (ZaR Zk (0:Int) [(1:Int)]) (.br (ZaW Zk (0:Int) []) (.br (! (ZaR Zk (0:Int) [])) (.br (Ziz Zk (1:Int)) (.br (Zau (Zcc Zk (1:Int)) [(1:Int)]) (.br (Zan (Zcc Zk (1:Int)) [(1:Int)]) (.br (Zov Zk) (.br ((Int.ofNat (List.length (ZjI Zk)))==(2:Int)) (.br (ZaW Zk (2:Int) []) (.leaf (! (ZaR Zk (2:Int) []))) (.no)) (.leaf false)) (.no)) (.leaf false)) (.no)) (.no)) (.leaf false)) (.no)) (.leaf false)) (.no)) (.leaf false)) (.no)) (.no)
def ZhR:Bool:=bif (Zfn Zk (0:Int)) then bif (Zau (ZbM Zk (0:Int)) [(1:Int)]) then bif (Zan (ZbM Zk (0:Int)) [(1:Int)]) then bif (ZaW Zk (0:Int) [(1:Int)]) then bif (ZaR Zk (0:Int) [(1:Int)]) then bif (ZaW Zk (0:Int) []) then bif (! (ZaR Zk (0:Int) [])) then bif (Ziz Zk (1:Int)) then bif (Zau (Zcc Zk (1:Int)) [(1:Int)]) then bif (Zan (Zcc Zk (1:Int)) [(1:Int)]) then bif (Zov Zk) then bif ((Int.ofNat (List.length (ZjI Zk)))==(2:Int)) then bif (ZaW Zk (2:Int) []) then (! (ZaR Zk (2:Int) [])) else false else false else false else false else false else false else false else false else false else false else false else false else false
def Zil:Bool:=bif (Zfn Zk (0:Int)) then bif (Zau (ZbM Zk (0:Int)) [(1:Int)]) then bif (Zan (ZbM Zk (0:Int)) [(1:Int)]) then bif (ZaW Zk (0:Int) [(1:Int)]) then bif (ZaR Zk (0:Int) [(1:Int)]) then bif (ZaW Zk (0:Int) []) then bif (! (ZaR Zk (0:Int) [])) then bif (Ziz Zk (1:Int)) then bif (Zau (Zcc Zk (1:Int)) [(1:Int)]) then bif (Zan (Zcc Zk (1:Int)) [(1:Int)]) then bif (Zov Zk) then bif ((Int.ofNat (List.length (ZjI Zk)))==(2:Int)) then bif (ZaW Zk (2:Int) []) then true else false else true else false else true else false else false else true else false else true else false else true else false else false
theorem ZEu (hk:Zil=true):Goes (ZwN) (Zt2) (ZhR):=Goes.brk hk (fun hk=>Goes.brk hk (fun hk=>Goes.brk hk (fun hk=>Goes.brk hk (fun hk=>Goes.brk hk (fun hk=>Goes.brk hk (fun hk=>Goes.brk hk (fun hk=>Goes.brk hk (fun hk=>Goes.brk hk (fun hk=>Goes.brk hk (fun hk=>Goes.brk hk (fun hk=>Goes.brk hk (fun hk=>Goes.brk hk (fun hk=>Goes.leaf) (fun hk=>Goes.nok hk)) (fun hk=>Goes.leaf)) (fun hk=>Goes.nok hk)) (fun hk=>Goes.leaf)) (fun hk=>Goes.nok hk)) (fun hk=>Goes.nok hk)) (fun hk=>Goes.leaf)) (fun hk=>Goes.nok hk)) (fun hk=>Goes.leaf)) (fun hk=>Goes.nok hk)) (fun hk=>Goes.leaf)) (fun hk=>Goes.nok hk)) (fun hk=>Goes.nok hk)
def ZkQ:Bool→AV:=fun (r:Bool)=>.d .bool r
def ZdQ:Empty→Nat×St:=fun j=>nomatch j
theorem ZCP (L:Lt):entryA Go.Proofs.Tryz.prog (clOf Zpl) Zn7 Go.Proofs.Tryz.f13 Zk0 L (toForms Zer (()))=(Zt2).run (fun v=>some (ZkQ v,tps (toForms Zer (())))) fun j=>L (ZdQ j).1 (ZdQ j).2:=by kernel_rfl
theorem ZC9:∀(L:Lt) (j:Empty),procOf (procsF Go.Proofs.Tryz.prog (clOf Zpl) Zn7 Go.Proofs.Tryz.f13 Zk0 (toForms Zer (()))) (ZdQ j).1 L (ZdQ j).2=(ZwN j).run (fun v=>some (ZkQ v,tps (toForms Zer (())))) fun j=>L (ZdQ j).1 (ZdQ j).2:=fun L j=>nomatch j
noncomputable def ZwS:Run:=entG Zer ZkQ (fun a=>Zil) (fun a=>ZhR)
theorem ZDj:EntOK Go.Proofs.Tryz.prog 13 ZwS:=ZI (tb:=Zn7) (c:=Zk0) ZDB (by kernel_rfl) (by kernel_rfl) (by kernel_rfl) (fun a=>by kernel_rfl) fun _ hk=>Zl (c:=Zk0) (K:=fun v=>(ZkQ v,tps (toForms Zer (())))) (S:=ZdQ) (by kernel_rfl) (ZCP) (ZC9) (ZEu hk)
end
end Go.Ev
end

section
open Go Go.Ev
namespace Go.Ev
noncomputable section
def Zac:Sig:=[(false,(.sl (.sl Zr))),(false,(.int .i64)),(false,(.sl (.int .i64))),(false,.bool)]
noncomputable def ZiT:Tbl:=[(5,ZAs),(6,ZBU),(7,Zi2),(8,ZrH),(9,Zwv),(11,ZBn),(12,ZyH),(10,ZlX),(13,ZwS)]
theorem Zwl:∀p∈ZiT,EntOK Go.Proofs.Tryz.prog p.1 p.2:=Zg ZJK (Zg ZJZ (Zg ZjA (Zg ZwZ (Zg ZCE (Zg ZHK (Zg ZGo (Zg Zrk (Zg ZDj (Zt)))))))))
noncomputable def ZfB:Code:=Go.Proofs.Tryz.f3.body.getD .skip
def Zm5:Tb:=[(3,⟨[1,2,9],[(10000000000000000000000000000000000000000000000000000000000003,1)]⟩),(7,⟨[1,2,9,10],[]⟩)]
inductive Zda where | l3 (t1:Int) (points1:List Int) | l7 (i:Int) (points1:List Int)
def Zbv (l:List (List (El Zr))) (t:Int) (points:List Int) (raw:Bool):Zda→JT Zda (Bool) |.l3 t1 points1=>.br (ZaW (Zm l (3:Int) (6:Int)) t1 points1) (.br (ZhZ (Zm l (3:Int) (6:Int)) t1 points1) (.br ((ZaR (Zm l (3:Int) (6:Int)) t1 points1)==(Zia (Zm l (3:Int) (6:Int)) t1 points1)) (.br (Zlp (Zm l (3:Int) (6:Int)) t1 points1) (.br (Zhh (Zm l (3:Int) (6:Int)) t1 points1) (.br (Zau (Zb1 (Zm l (3:Int) (6:Int)) t1 points1) (ZhG (Zm l (3:Int) (6:Int)) t1 points1)) (.br (Zan (Zb1 (Zm l (3:Int) (6:Int)) t1 points1) (ZhG (Zm l (3:Int) (6:Int)) t1 points1)) (.br Zil (.leaf ZhR) (.no)) (.leaf false)) (.no)) (.no)) (.no)) (.leaf false)) (.no)) (.no) |.l7 i points1=>.br (decide (i < (Int.ofNat (List.length points1)))) (.br ((decide ((0:Int)≤i))&&(decide (i < (Int.ofNat (List.length points1))))) (.br ((decide ((0:Int)≤(Zf t (Int.ofNat (List.length (Zm l (3:Int) (6:Int)).2)))))&&(decide ((Zf t (Int.ofNat (List.length (Zm l (3:Int) (6:Int)).2))) < (Int.ofNat (List.length (Zm l (3:Int) (6:Int)).2))))) (.br (ZQ (List.getD points1 (Int.toNat i) (dflt (.int .i64))) (Int.ofNat (List.length (List.getD (Zm l (3:Int) (6:Int)).2 (Int.toNat (Zf t (Int.ofNat (List.length (Zm l (3:Int) (6:Int)).2)))) (dflt (.sl Za)))))) (.br ((decide ((0:Int)≤i))&&(decide (i < (Int.ofNat (List.length points1))))) (.jmp (.l7 (IntKind.i64.wrap (i+(1:Int))) (List.set points1 (Int.toNat i) (Zf (List.getD points1 (Int.toNat i) (dflt (.int .i64))) (Int.ofNat (List.length (List.getD (Zm l (3:Int) (6:Int)).2 (Int.toNat (Zf t (Int.ofNat (List.length (Zm l (3:Int) (6:Int)).2)))) (dflt (.sl Za))))))))) (.no)) (.no)) (.no)) (.no)) (.jmp (.l3 (Zf t (Int.ofNat (List.length (Zm l (3:Int) (6:Int)).2))) points1))
def ZhP (l:List (List (El Zr))) (t:Int) (points:List Int) (raw:Bool):JT Zda (Bool):=.br (ZeP l (3:Int) (6:Int)) (.br (Zlq points (12:Int)) (.br (! raw) (.br (decide ((Int.ofNat (List.length (Zm l (3:Int) (6:Int)).2)) > (0:Int))) (.br (ZQ t (Int.ofNat (List.length (Zm l (3:Int) (6:Int)).2))) (.jmp (.l7 (0:Int) (ZdO points (12:Int)))) (.no)) (.jmp (.l3 t (ZdO points (12:Int))))) (.jmp (.l3 t (ZdO points (12:Int))))) (.no)) (.no)
def ZfS:Bool→AV:=fun (r:Bool)=>.d .bool r
def Zbz (l:List (List (El Zr))) (t:Int) (points:List Int) (raw:Bool):Zda→Nat×St |.l3 t1 points1=>(3,⟨mkTm 72 [(1,.d (.int .i64) t1),(2,.d (.sl (.int .i64)) points1),(9,.pt 10 0 0)],[(10,0,.box 27 [.own 10241 0 none,.own 10242 0 none] none),(10241,0,.row 47 Zx (Zm l (3:Int) (6:Int)).1 false),(10242,0,.row 33 (.sl Za) (Zm l (3:Int) (6:Int)).2 false)]⟩) |.l7 i points1=>(7,⟨mkTm 72 [(1,.d (.int .i64) (Zf t (Int.ofNat (List.length (Zm l (3:Int) (6:Int)).2)))),(2,.own 3 0 none),(9,.pt 10 0 0),(10,.d (.int .i64) i)],[(3,0,.row 3 (.int .i64) points1 false),(10,0,.box 27 [.own 10241 0 none,.own 10242 0 none] none),(10241,0,.row 47 Zx (Zm l (3:Int) (6:Int)).1 false),(10242,0,.row 33 (.sl Za) (Zm l (3:Int) (6:Int)).2 false)]⟩)
theorem ZwI (l:List (List (El Zr))) (t:Int) (points:List Int) (raw:Bool) (L:Lt):entryA Go.Proofs.Tryz.prog (clOf ZiT) Zm5 Go.Proofs.Tryz.f3 ZfB L (toForms Zac (l,t,points,raw,()))=(ZhP l t points raw).run (fun v=>some (ZfS v,tps (toForms Zac (l,t,points,raw,())))) fun j=>L (Zbz l t points raw j).1 (Zbz l t points raw j).2:=by kernel_rfl
theorem Zxe (l:List (List (El Zr))) (t:Int) (points:List Int) (raw:Bool):∀(L:Lt) (j:Zda),procOf (procsF Go.Proofs.Tryz.prog (clOf ZiT) Zm5 Go.Proofs.Tryz.f3 ZfB (toForms Zac (l,t,points,raw,()))) (Zbz l t points raw j).1 L (Zbz l t points raw j).2=(Zbv l t points raw j).run (fun v=>some (ZfS v,tps (toForms Zac (l,t,points,raw,())))) fun j=>L (Zbz l t points raw j).1 (Zbz l t points raw j).2 | L,.l3 t1 points1=>by kernel_rfl | L,.l7 i points1=>by kernel_rfl
end
end Go.Ev
end

section
open Go Go.Ev
namespace Go.Ev
noncomputable section
end
end Go.Ev
end

section
open Go
namespace Go.Ev
theorem len0 {α:Type} (l:List α):((Int.ofNat l.length)==(0:Int))=decide (l.length=0):=by
 rw[Bool.eq_iff_iff,beq_iff_eq,decide_eq_true_eq]
 simp
section
variable {p:El Zc} (hF:CutF p) (t:Int)
include hF
theorem ZMa:ZcB (Zj p) t=true∧ZcB (Zw p) t=true:=⟨decide_eq_true (by have:=hF.lp;omega),decide_eq_true (by have:=hF.lo;omega)⟩
theorem ZP7 {pts:List Int} (hp:pts.length < 1000000000) (hr:rightT p t=true):ZaC (thrT p t) (allT p t) pts=true∧Zbu (thrT p t) (allT p t) pts=true:=by
 obtain ⟨f1,f2,_⟩:=hF.flow t hr
 have hl:=ZF0 hF t
 unfold ZaC Zbu
 rw[f1,decide_eq_true (show pts.length < 4611686018427387904 by omega),decide_eq_true (show pts.length < 1000000000000 by omega),decide_eq_true (show (allT p t).length < 1000000000000 by omega)]
 exact ⟨rfl,rfl⟩
theorem Ztr {pts:List Int} (hp:pts.length < 1000000000):ZaW p t pts=true∧ZaR p t pts=(rightT p t&&decide (((allT p t).filter (uB (thrT p t) pts)).length=0)):=by
 obtain ⟨r1,r2⟩:=hF.right t
 unfold ZaW ZaR
 rw[r1,r2]
 cases hr:rightT p t with
 | false=>exact ⟨rfl,rfl⟩
 | true=>
  obtain ⟨f1,f2,_⟩:=hF.flow t hr
  have h1:=(ZP7 hF t hp hr).1
  have h2:ZaC (List.getD p.2 (Int.toNat t) (dflt (.sl Za))) (Z6 (Zj p) t) pts=true:=h1
  have hv:ZbG (List.getD p.2 (Int.toNat t) (dflt (.sl Za))) (Z6 (Zj p) t) pts=(allT p t).filter (uB (thrT p t) pts):=rfl
  rw[f2,hF.kp,(ZMa hF t).1,h2,hv,len0]
  exact ⟨rfl,rfl⟩
theorem ZOr {pts:List Int} (hp:pts.length < 1000000000):Zlp p t pts=true∧Zb1 p t pts=if rightT p t=true then pruneV (uB (thrT p t)) (thrT p t).length (allT p t) pts else []:=by
 obtain ⟨r1,r2⟩:=hF.right t
 unfold Zlp Zb1
 rw[r1,r2]
 cases hr:rightT p t with
 | false=>exact ⟨rfl,rfl⟩
 | true=>
  obtain ⟨f1,f2,_⟩:=hF.flow t hr
  have h2:Zbu (List.getD p.2 (Int.toNat t) (dflt (.sl Za))) (Z6 (Zj p) t) pts=true:=(ZP7 hF t hp hr).2
  have hv:ZaO (List.getD p.2 (Int.toNat t) (dflt (.sl Za))) (Z6 (Zj p) t) pts=pruneV (uB (thrT p t)) (thrT p t).length (allT p t) pts:=rfl
  rw[f2,hF.kp,(ZMa hF t).1,h2,hv]
  generalize pruneV (uB (thrT p t)) (thrT p t).length (allT p t) pts=X
  exact ⟨rfl,rfl⟩
theorem ZMJ:Zfn p t=true∧ZbM p t=if rightT p t=true then pointsV (uB (thrT p t)) (thrT p t).length (allT p t) (opT p t) else []:=by
 obtain ⟨r1,r2⟩:=hF.right t
 unfold Zfn ZbM
 rw[r1,r2]
 cases hr:rightT p t with
 | false=>exact ⟨rfl,rfl⟩
 | true=>
  have hv:ZbO p t (Zj p) (Zw p)=pointsV (uB (thrT p t)) (thrT p t).length (allT p t) (opT p t):=rfl
  rw[hF.kp,hF.ko,Zyl hF hr,hv]
  generalize pointsV (uB (thrT p t)) (thrT p t).length (allT p t) (opT p t)=X
  exact ⟨rfl,rfl⟩
end
end Go.Ev
end

section
namespace Go.Ev
open Go
theorem ZOH {l:List (List (El Za))} {n:Nat} (h:∀t∈l,List.length t≤n):total l≤n*l.length:=by
 unfold total
 induction l with
 | nil=>simp
 | cons t l ih=>
  rw[List.map_cons,List.sum_cons,List.length_cons,Nat.mul_add,Nat.mul_one]
  have h1:=h t (List.mem_cons_self ..)
  have h2:=ih fun x hx=>h x (List.mem_cons_of_mem _ hx)
  omega
theorem ZQW {p:El Zc} :(ofC p).length≤2*total p.2:=by
 have:=ZHa 0 p.2
 unfold ofC
 split
 ·exact this
 ·simp
theorem ZPo (l:List (List (El Zr))) {threads many:Int} (h0:0≤threads) (h1:threads≤64) (m0:0≤many) (m1:many≤90):
  smallAll (Zm l threads many)=true∧(Zm l threads many).2.length≤threads.toNat∧(ofC (Zm l threads many)).length≤11648∧checkC (Zm l threads many)=0∧ZeP l threads many=true:=by
 obtain ⟨hc,hs,hk⟩:=ZNt l h0 h1 m0 m1
 have hl:(Zm l threads many).2.length≤threads.toNat:=by
  show ((l.take threads.toNat).map fun a=>threadB a (min a.length many.toNat)).length≤_
  rw[List.length_map,List.length_take];omega
 have ht:=ZOH (l:=(Zm l threads many).2) (n:=91) fun t hm=>by
  obtain ⟨a,_,rfl⟩:=List.mem_map.1 (show t∈(l.take threads.toNat).map fun a=>threadB a (min a.length many.toNat) from hm)
  show (threadB a _).length≤91
  unfold threadB
  rw[Zb2,ZoA a _ (by omega)]
  omega
 have ho:= @ZQW (Zm l threads many)
 refine ⟨?_,hl,by omega,hc,hk⟩
 unfold smallAll
 simp only[Bool.and_eq_true,decide_eq_true_eq]
 exact ⟨hs,by omega,by omega⟩
end Go.Ev
end

section
open Go Go.Ev
namespace Go.Ev
noncomputable section
end
end Go.Ev
end

section
open Go
namespace Go.Ev
end Go.Ev
end

section
open Go Go.Ev
namespace Go.Ev
noncomputable section
end
end Go.Ev
end

section
open Go Go.Ev
namespace Go.Ev
noncomputable section
end
end Go.Ev
end

section
open Go
namespace Go.Ev
end Go.Ev
end

section
open Go Go.Ev
namespace Go.Ev
noncomputable section
end
end Go.Ev
end

section
namespace Go.Ev
open Go
end Go.Ev
end

section
open Go Go.Ev
namespace Go.Ev
noncomputable section
end
end Go.Ev
end

section
open Go
namespace Go.Ev
end Go.Ev
end

section
open Go Go.Ev
namespace Go.Ev
noncomputable section
end
end Go.Ev
end

section
namespace Go.Ev
open Go
end Go.Ev
end

section
namespace Go.Ev
open Go
end Go.Ev
end

section
namespace Go.Ev
open Go
theorem ints12 (l:List Int):Zlq l 12=true∧(ZdO l 12).length≤12:=by
 obtain ⟨m,hm,h1,h2⟩:∃m:Nat,minI (Int.ofNat l.length) 12=(m:Int)∧m≤l.length∧m≤12:=by
  unfold minI
  by_cases h:(12:Int) < Int.ofNat l.length
  ·rw[if_pos h]
   simp only[Int.ofNat_eq_natCast] at h
   exact ⟨12,rfl,by omega,Nat.le_refl _⟩
  ·rw[if_neg h]
   simp only[Int.ofNat_eq_natCast] at h
   exact ⟨l.length,rfl,Nat.le_refl _,by omega⟩
 unfold Zlq ZdO
 rw[hm,Int.toNat_natCast,decide_eq_true (Int.natCast_nonneg m),decide_eq_true (show (m:Int)≤Int.ofNat l.length from by simp only[Int.ofNat_eq_natCast];omega),
  Nat.ble_eq_true_of_le (show (l.take m).length*8≤limit from by rw[List.length_take];unfold limit;omega)]
 refine ⟨rfl,?_⟩
 show (l.take m).length≤12
 rw[List.length_take];omega
theorem ZPn (l:List (List (El Zr))) {threads many:Int} (h0:0≤threads) (h1:threads≤64) (m0:0≤many) (m1:many≤90):cutOK (Zm l threads many)=true∧checkC (Zm l threads many)=0∧ZeP l threads many=true:=by
 obtain ⟨a1,a2,a3,a4,a5⟩:=ZPo l h0 h1 m0 m1
 refine ⟨?_,a4,a5⟩
 unfold cutOK
 rw[a1,decide_eq_true (show (ofC (Zm l threads many)).length≤20000 by omega),decide_eq_true (show (Zm l threads many).2.length≤100 by omega)]
 rfl
end Go.Ev
end

section
open Go
namespace Go.Ev
def bothPairs:List PairD:=[((0:Int),((0:Int),(1:Int))),((1:Int),((0:Int),(1:Int)))]
theorem alive25:Zil=true∧ZhR=true:=by
 obtain ⟨p,hp⟩:∃p,Zk=p:=⟨_,rfl⟩
 have hs:cutOK Zk=true:=by decide+kernel
 have hF:=Zrp hs
 have vp:Zj Zk=bothPairs:=by
  rw[←hF.eq,ZPk]
  decide+kernel
 have op:∀x:El Zd,x∈ZA Zk→openB Zk x=(decide (0≤x.2.2∧x.2.2 < ((List.getD Zk.2 (Int.toNat x.1) (dflt (.sl Za))).length:Int))&&endsX (List.getD Zk.2 (Int.toNat x.1) (dflt (.sl Za))) [] x.2.1 x.2.2.toNat):=fun x hx=>by
  obtain ⟨s,r,h1,h2,_,_,rfl⟩:=ZE9 hx
  obtain ⟨_,_,hf,_⟩:=Zgm hF.small h1
  have hf':flowOK (List.getD Zk.2 (Int.toNat (delPair (ofC Zk) s r).1) (dflt (.sl Za)))=true:=hf
  obtain ⟨_,_,_,f4⟩:=ZFj hf' (points:=[]) (by decide) (delPair (ofC Zk) s r).2.1 (delPair (ofC Zk) s r).2.2
  unfold openB
  rw[f4,ZL6]
 have vo:Zw Zk=bothPairs:=by
  unfold Zw
  rw[hF.eq,vp] at op
  rw[vp,List.filter_congr op]
  decide+kernel
 have r0:rightT Zk 0=true:=by decide+kernel
 have r1:rightT Zk 1=true:=by decide+kernel
 have r2:rightT Zk 2=false:=by decide+kernel
 have c0:checkC Zk=0:=by decide+kernel
 have a0:allT Zk 0=[((0:Int),((0:Int),(1:Int)))]:=by unfold allT;rw[vp];decide+kernel
 have o0:opT Zk 0=[((0:Int),((0:Int),(1:Int)))]:=by unfold opT;rw[vo];decide+kernel
 have o1:opT Zk 1=[((1:Int),((0:Int),(1:Int)))]:=by unfold opT;rw[vo];decide+kernel
 obtain ⟨kP,vP⟩:=ZMJ hF 0
 rw[if_pos r0,a0,o0,ZQu] at vP
 have vP:ZbM Zk 0=[1]:=by rw[vP];decide+kernel
 obtain ⟨kC,vC⟩:=Ztr hF 0 (pts:=[1]) (by decide)
 rw[r0,a0,ZQu] at vC
 have vC:ZaR Zk 0 [1]=true:=by rw[vC];decide+kernel
 obtain ⟨kN,vN⟩:=Ztr hF 0 (pts:=[]) (by decide)
 rw[r0,a0,ZQu] at vN
 have vN:ZaR Zk 0 []=false:=by rw[vN];decide+kernel
 obtain ⟨kM,vM⟩:=Ztr hF 2 (pts:=[]) (by decide)
 rw[r2,Bool.false_and] at vM
 have kA:Ziz Zk 1=true:=hs
 have vA:Zcc Zk 1=[1]:=by
  unfold Zcc
  rw[if_pos r1,o1]
  decide+kernel
 have kL:Zov Zk=true:=hs
 have vL:(ZjI Zk).length=2:=by
  unfold ZjI
  rw[if_pos c0,List.length_map,List.length_range]
  decide+kernel
 have e1:Zau [1] [(1:Int)]=true:=by decide
 have e2:Zan [1] [(1:Int)]=true:=by decide
 unfold Zil ZhR
 simp only[kP,vP,kC,vC,kN,vN,kM,vM,kA,vA,kL,vL,e1,e2]
 exact ⟨by decide,by decide⟩
end Go.Ev
end

section
open Go
namespace Go.Ev
theorem ZGQ {p:El Zc} (hF:CutF p) (t:Int) {pts:List Int} (hp:pts.length < 1000000000):ZhZ p t pts=true∧Zia p t pts=(rightT p t&&decide (((allT p t).filter (uB (thrT p t) pts)).length=0)):=by
 obtain ⟨r1,r2⟩:=ZOX (smallA hF.small).prog t
 unfold ZhZ Zia
 rw[r1,r2]
 cases hr:rightT p t with
 | false=>exact ⟨rfl,rfl⟩
 | true=>
  obtain ⟨f1,f2,_⟩:=hF.flow t hr
  have hl:=ZF0 hF t
  have h2:Zbr (List.getD p.2 (Int.toNat t) (dflt (.sl Za))) (Zdc (Zj p) t) pts=true:=by
   show Zbr (thrT p t) (allT p t) pts=true
   unfold Zbr
   rw[f1,decide_eq_true (show pts.length < 4611686018427387904 by omega),decide_eq_true (show (allT p t).length < 1000000000000 by omega)];rfl
  have h3:Zjz (Zj p) t=true:=decide_eq_true (by have:=hF.lp;omega)
  have hv:Ze7 (List.getD p.2 (Int.toNat t) (dflt (.sl Za))) (Zdc (Zj p) t) pts=(allT p t).filter (uB (thrT p t) pts):=rfl
  rw[f2,hF.kd,hF.eq,h3,h2,hv,len0]
  exact ⟨rfl,rfl⟩
theorem ZNk {U:List Int→PairD→Bool} {n:Nat} {all:List PairD} {pts:List Int} :(pruneV U n all pts).length≤pts.length:=by
 unfold pruneV
 have h1:=(ZxD (U:=U) (all:=all) [] (putsL [] (pts.filter (inR n)))).1
 have h2:(putsL [] (pts.filter (inR n))).length≤(pts.filter (inR n)).length:=by rw[←ZHc];exact ZzX
 have h3:=List.length_filter_le (inR n) pts
 simp only[List.length_nil,Nat.zero_add] at h1
 omega
def ZiK (l:List (List (El Zr))) (t:Int) (points:List Int) (raw:Bool):Bool:=true
def ZoG (l:List (List (El Zr))) (t:Int) (points:List Int) (raw:Bool):Bool:=true
theorem ZxH (l:List (List (El Zr))) (t:Int) (points:List Int) (raw:Bool) (hk:ZoG l t points raw=true):Goes (Zbv l t points raw) (ZhP l t points raw) (ZiK l t points raw):=by
 obtain ⟨ka,va⟩:=alive25
 obtain ⟨hc,hch,hkb⟩:=ZPn l (threads:=3) (many:=6) (by decide) (by decide) (by decide) (by decide)
 have hF:=Zrp hc
 obtain ⟨i1,i2⟩:=ints12 points
 have last:∀(t1:Int) (pts:List Int),pts.length≤12→Goes (Zbv l t points raw) (.jmp (.l3 t1 pts)) true:=by
  intro t1 pts hp
  obtain ⟨k1,v1⟩:=Ztr hF t1 (pts:=pts) (by omega)
  obtain ⟨k2,v2⟩:=ZGQ hF t1 (pts:=pts) (by omega)
  obtain ⟨k3,v3⟩:=ZOr hF t1 (pts:=pts) (by omega)
  have k4:Zhh (Zm l 3 6) t1 pts=true:=by unfold Zhh;rw[hc,decide_eq_true (show pts.length < 1000000000 by omega)];rfl
  have v4:ZhG (Zm l 3 6) t1 pts=Zb1 (Zm l 3 6) t1 pts:=by rw[v3];rfl
  have hl:(Zb1 (Zm l 3 6) t1 pts).length≤12:=by
   rw[v3]
   split
   ·exact Nat.le_trans ZNk hp
   ·simp
  have k5:Zau (Zb1 (Zm l 3 6) t1 pts) (Zb1 (Zm l 3 6) t1 pts)=true:=decide_eq_true (by omega)
  have v5:Zan (Zb1 (Zm l 3 6) t1 pts) (Zb1 (Zm l 3 6) t1 pts)=true:=decide_eq_true rfl
  rw[Zi,Zbv,Ze,if_pos k1,Ze,if_pos k2,Ze,v1,v2,if_pos (beq_self_eq_true _),Ze,if_pos k3,Ze,if_pos k4,v4,Ze,if_pos k5,Ze,if_pos v5,Ze,if_pos ka,va]
  exact .leaf
 unfold ZhP ZiK
 rw[Ze,if_pos hkb,Ze,if_pos i1,Ze]
 cases raw with
 | true=>rw[if_neg (by decide)];exact last t _ i2
 | false=>
  rw[if_pos (show (!false)=true from rfl),Ze]
  by_cases h0:¬0 < (Zm l 3 6).2.length
  ·rw[if_neg (by simp only[decide_eq_true_eq,Int.ofNat_eq_natCast];omega)]
   exact last t _ i2
  have h0:=Decidable.not_not.1 h0
  rw[if_pos (decide_eq_true (by simp only[Int.ofNat_eq_natCast];omega))]
  obtain ⟨p1,p2,p3⟩:=Zdv (n:=t) (m:=Int.ofNat (Zm l 3 6).2.length) (by simp only[Int.ofNat_eq_natCast];omega) (by have:=hF.thr;simp only[Int.ofNat_eq_natCast];omega)
  rw[Ze,if_pos p1]
  obtain ⟨u,hu⟩:∃u:Nat,Zf t (Int.ofNat (Zm l 3 6).2.length)=(u:Int):=⟨(Zf t (Int.ofNat (Zm l 3 6).2.length)).toNat,by omega⟩
  have hul:u < (Zm l 3 6).2.length:=by
   rw[hu] at p3
   simp only[Int.ofNat_eq_natCast] at p3
   omega
  have hin:(decide ((0:Int)≤(u:Int))&&decide ((u:Int) < Int.ofNat (Zm l 3 6).2.length))=true:=by rw[nng,ZO hul];rfl
  have hth:0 < (List.getD (Zm l 3 6).2 u (dflt (.sl Za))).length∧(List.getD (Zm l 3 6).2 u (dflt (.sl Za))).length≤100:=by
   rw[ZH hul]
   obtain ⟨a,_,e⟩:=List.mem_map.1 (show (Zm l 3 6).2[u]∈(l.take (3:Int).toNat).map fun a=>threadB a (min a.length (6:Int).toNat) from List.getElem_mem hul)
   rw[←e]
   have h6:(6:Int).toNat=6:=rfl
   have:(threadB a (min a.length (6:Int).toNat)).length=min a.length (6:Int).toNat+1:=by unfold threadB;rw[Zb2,ZoA a _ (by omega)]
   rw[this]
   omega
  have loop:∀k,k≤(ZdO points 12).length→∀pts:List Int,pts.length=(ZdO points 12).length→Goes (Zbv l t points false) (.jmp (.l7 (k:Int) pts)) true:=by
   refine down ?_ fun k hk ih=>?_
   ·intro pts hp
    rw[Zi,Zbv,Ze,if_neg (by rw[←hp,Zv (Nat.lt_irrefl _)];decide),hu]
    exact last _ pts (by omega)
   ·intro pts hp
    have hk':k < pts.length:=by omega
    obtain ⟨q1,_,_⟩:=Zdv (n:=pts[k]) (m:=Int.ofNat (List.getD (Zm l 3 6).2 u (dflt (.sl Za))).length) (by simp only[Int.ofNat_eq_natCast];omega) (by simp only[Int.ofNat_eq_natCast];omega)
    rw[Zi,Zbv,Ze,if_pos (ZO hk'),Ze,if_pos (by rw[nng,ZO hk'];rfl),hu,Ze,if_pos hin,Int.toNat_natCast,Int.toNat_natCast,ZH hk',Ze,if_pos q1,Ze,if_pos (by rw[nng,ZO hk'];rfl),Zo (by omega)]
    exact ih _ (by rw[List.length_set];exact hp)
  exact loop 0 (Nat.zero_le _) _ rfl
end Go.Ev
end

section
open Go Go.Ev
namespace Go.Ev
noncomputable section
theorem ZwB (l:List (List (El Zr))) (t:Int) (points:List Int) (raw:Bool) (hk:ZoG l t points raw=true):CallOK Go.Proofs.Tryz.prog 3 (toForms Zac (l,t,points,raw,())) (ZfS (ZiK l t points raw),tps (toForms Zac (l,t,points,raw,()))):=by
 obtain ⟨h1,h2⟩:=Zp1 Zwl
 obtain ⟨n,hn⟩:=Zl (c:=ZfB) (K:=fun v=>(ZfS v,tps (toForms Zac (l,t,points,raw,())))) (S:=Zbz l t points raw) (by kernel_rfl) (ZwI l t points raw) (Zxe l t points raw) (ZxH l t points raw hk)
 exact ZwA (f:=3) (c:=ZfB) h1 h2 (by kernel_rfl) (by kernel_rfl) (by kernel_rfl) hn
end
end Go.Ev
end

section
namespace Go.Ev
open Go
theorem ZtX (a:Args Zac) (ha:smallArgs Zac a):CallOK Go.Proofs.Tryz.prog Zvq (toForms Zac a) (.d .bool true,tps (toForms Zac a)):=by
 obtain ⟨l,t,points,raw,_⟩:=a
 exact ZwB l t points raw rfl
end Go.Ev
end

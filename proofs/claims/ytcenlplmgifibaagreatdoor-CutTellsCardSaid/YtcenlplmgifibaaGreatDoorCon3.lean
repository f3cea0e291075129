/- Part of the proof of: Which points are chosen, each way, is what the document says, of each thread: for every input the law answers true. -/
import Derived.Test.YtcenlplmgifibaaGreatDoorCon2
set_option maxRecDepth 100000
set_option linter.unusedSectionVars false
set_option linter.unusedVariables false
set_option linter.unusedSimpArgs false
section
open Go Go.Ev
namespace Go.Ev
noncomputable section
def ZhN:Sig:=[(true,Zc),(false,(.int .i64))]
noncomputable def ZwA:Tbl:=[(20,Zjg),(22,Zh3),(21,ZuI),(23,Zkc)]
theorem ZKM:∀p∈ZwA,EntOK Go.Proofs.Tryz.prog p.1 p.2:=Zg Zkl (Zg ZiC (Zg Ztc (Zg Zlf (Zt))))
noncomputable def ZqT:Code:=Go.Proofs.Tryz.f8.body.getD .skip
def ZtO:Tb:=[(7,⟨[5,15,16,17],[(6,58)]⟩),(hintK,⟨[],[(1,58)]⟩)]
inductive Zmc where | l7 (h:Int) (out:List Int)
def Zmv (p:El Zc) (t:Int):Zmc→JT Zmc (List Int) |.l7 h out=>.br (decide (h < (Int.ofNat (List.length (ZU (Zn p) t))))) (.br ((decide ((0:Int)≤h))&&(decide (h < (Int.ofNat (List.length (ZU (Zn p) t)))))) (.br (Nat.ble (((List.length out)+1)*8) limit) (.jmp (.l7 (IntKind.i64.wrap (h+(1:Int))) (out++[(List.getD (ZU (Zn p) t) (Int.toNat h) (dflt Zd)).2.2]))) (.no)) (.no)) (.br (Zck out) (.leaf (ZfB out)) (.no))
def Zuw (p:El Zc) (t:Int):JT Zmc (List Int):=.br (Za1 p t) (.br (! (ZaZ p t)) (.leaf []) (.br (ZaI p) (.br (Zcd (Zn p) t) (.jmp (.l7 (0:Int) [])) (.no)) (.no))) (.no)
def Zrs:List Int→AV:=fun (r:List Int)=>.rw 3 (.int .i64) r
def Zg8 (p:El Zc) (t:Int):Zmc→Nat×St |.l7 h out=>(7,⟨mkTm 29 [(5,.own 6 0 none),(15,.own 16 0 none),(16,.d (.int .i64) (Int.ofNat (List.length (ZU (Zn p) t)))),(17,.d (.int .i64) h)],[(6,0,.row 3 (.int .i64) out false),(16,0,.row 57 Zd (ZU (Zn p) t) false)]⟩)
theorem ZLx (p:El Zc) (t:Int) (L:Lt):entryA Go.Proofs.Tryz.prog (clOf ZwA) ZtO Go.Proofs.Tryz.f8 ZqT L (toForms ZhN (p,t,()))=(Zuw p t).run (fun v=>some (Zrs v,tps (toForms ZhN (p,t,())))) fun j=>L (Zg8 p t j).1 (Zg8 p t j).2:=by kernel_rfl
theorem ZK9 (p:El Zc) (t:Int):∀(L:Lt) (j:Zmc),procOf (procsF Go.Proofs.Tryz.prog (clOf ZwA) ZtO Go.Proofs.Tryz.f8 ZqT (toForms ZhN (p,t,()))) (Zg8 p t j).1 L (Zg8 p t j).2=(Zmv p t j).run (fun v=>some (Zrs v,tps (toForms ZhN (p,t,())))) fun j=>L (Zg8 p t j).1 (Zg8 p t j).2 | L,.l7 h out=>by kernel_rfl
end
end Go.Ev
end

section
open Go
namespace Go.Ev
noncomputable def Zeb (p:El Zc) (t:Int):List Int:=if rightT p t=true then putsL [] ((opT p t).map fun x=>x.2.2) else []
def Zp1 (p:El Zc) (t:Int):Bool:=cutOK p
theorem ZNM (p:El Zc) (t:Int) (hk:Zp1 p t=true):Goes (Zmv p t) (Zuw p t) (Zeb p t):=by
 have hF:=ZfT hk
 obtain ⟨r1,r2⟩:=hF.right t
 unfold Zuw Zeb
 rw[Ze,if_pos r1,r2,Ze]
 by_cases hr:¬rightT p t=true
 ·rw[if_pos (by simpa using hr),if_neg hr]
  exact .leaf
 have hr:=Decidable.not_not.1 hr
 rw[if_neg (by rw[hr];decide),if_pos hr,Ze,if_pos hF.ko,Ze,if_pos (show Zcd (Zn p) t=true from decide_eq_true (by have:=hF.lo;omega))]
 have hv:ZU (Zn p) t=opT p t:=rfl
 have hN:=Zrj hF t
 obtain ⟨O,hO⟩:∃O,opT p t=O:=⟨_,rfl⟩
 rw[hO] at hN hv ⊢
 have loop:∀k,k≤O.length→Goes (Zmv p t) (.jmp (.l7 (k:Int) ((O.take k).map fun x=>x.2.2))) (putsL [] (O.map fun x=>x.2.2)):=by
  refine down ?_ fun k hk ih=>?_
  ·rw[Zh,Zmv,hv,Ze,if_neg (by rw[Zw (Nat.lt_irrefl _)];decide),List.take_length,Ze,if_pos (show Zck _=true from decide_eq_true (by rw[List.length_map];omega))]
   exact .leaf
  ·have b1:Nat.ble ((((O.take k).map fun x=>x.2.2).length+1)*8) limit=true:=Nat.ble_eq_true_of_le (by rw[List.length_map,List.length_take];unfold limit;omega)
   rw[List.take_succ_eq_append_getElem hk,List.map_append] at ih
   rw[Zh,Zmv,hv,Ze,if_pos (ZK hk),Ze,if_pos (by rw[nng,ZK hk];rfl),Ze,if_pos b1,Int.toNat_natCast,ZG hk,Zo (by omega)]
   exact ih
 exact loop 0 (Nat.zero_le _)
end Go.Ev
end

section
open Go Go.Ev
namespace Go.Ev
noncomputable section
noncomputable def ZB0:Run:=entG ZhN Zrs (fun a=>Zp1 a.1 a.2.1) (fun a=>Zeb a.1 a.2.1)
theorem ZK7:EntOK Go.Proofs.Tryz.prog 8 ZB0:=ZH (tb:=ZtO) (c:=ZqT) ZKM (by kernel_rfl) (by kernel_rfl) (by kernel_rfl) (fun a=>by kernel_rfl) fun ⟨p,t,_⟩ hk=>Zm (c:=ZqT) (K:=fun v=>(Zrs v,tps (toForms ZhN (p,t,())))) (S:=Zg8 p t) (by kernel_rfl) (ZLx p t) (ZK9 p t) (ZNM p t hk)
end
end Go.Ev
end

section
open Go Go.Ev
namespace Go.Ev
noncomputable section
def ZfW:Sig:=[(true,Zc),(false,(.int .i64))]
noncomputable def ZsW:Tbl:=[(25,Zqk),(24,ZsD),(26,ZpB)]
theorem ZG9:∀p∈ZsW,EntOK Go.Proofs.Tryz.prog p.1 p.2:=Zg ZuB (Zg ZuX (Zg ZrB (Zt)))
noncomputable def ZnC:Code:=Go.Proofs.Tryz.f9.body.getD .skip
def ZpZ:Tb:=[(5,⟨[5,6,7],[(6,59)]⟩)]
inductive Zkd where | l5 (out:List Int) (i:Int)
def Zkq (p:El Zc) (t:Int):Zkd→JT Zkd (List Int) |.l5 out i=>.br (decide (i < (Int.ofNat (List.length (Zbj (Z1 p) t))))) (.br ((decide ((0:Int)≤i))&&(decide (i < (Int.ofNat (List.length (Zbj (Z1 p) t)))))) (.br (Zdp out (List.getD (Zbj (Z1 p) t) (Int.toNat i) (dflt Zd)).2.2) (.jmp (.l5 (ZbJ out (List.getD (Zbj (Z1 p) t) (Int.toNat i) (dflt Zd)).2.2) (IntKind.i64.wrap (i+(1:Int))))) (.no)) (.no)) (.leaf out)
def ZqB (p:El Zc) (t:Int):JT Zkd (List Int):=.br (Zdc p) (.br (ZgR (Z1 p) t) (.jmp (.l5 [] (0:Int))) (.no)) (.no)
def ZnD:List Int→AV:=fun (r:List Int)=>.d (.sl (.int .i64)) r
def Zfj (p:El Zc) (t:Int):Zkd→Nat×St |.l5 out i=>(5,⟨mkTm 26 [(5,.d (.sl (.int .i64)) out),(6,.own 7 0 none),(7,.d (.int .i64) i)],[(7,0,.row 57 Zd (Zbj (Z1 p) t) false)]⟩)
theorem ZGR (p:El Zc) (t:Int) (L:Lt):entryA Go.Proofs.Tryz.prog (clOf ZsW) ZpZ Go.Proofs.Tryz.f9 ZnC L (toForms ZfW (p,t,()))=(ZqB p t).run (fun v=>some (ZnD v,tps (toForms ZfW (p,t,())))) fun j=>L (Zfj p t j).1 (Zfj p t j).2:=by kernel_rfl
theorem ZHZ (p:El Zc) (t:Int):∀(L:Lt) (j:Zkd),procOf (procsF Go.Proofs.Tryz.prog (clOf ZsW) ZpZ Go.Proofs.Tryz.f9 ZnC (toForms ZfW (p,t,()))) (Zfj p t j).1 L (Zfj p t j).2=(Zkq p t j).run (fun v=>some (ZnD v,tps (toForms ZfW (p,t,())))) fun j=>L (Zfj p t j).1 (Zfj p t j).2 | L,.l5 out i=>by kernel_rfl
end
end Go.Ev
end

section
open Go
namespace Go.Ev
noncomputable def Za5 (p:El Zc) (t:Int):List Int:=putsL [] ((opT p t).map fun x=>x.2.2)
def Zig (p:El Zc) (t:Int):Bool:=cutOK p
theorem ZMl (p:El Zc) (t:Int) (hk:Zig p t=true):Goes (Zkq p t) (ZqB p t) (Za5 p t):=by
 have hF:=ZfT hk
 have hko:ZgR (Z1 p) t=true:=by rw[hF.opq];exact decide_eq_true (by have:=hF.lo;omega)
 have hv:Zbj (Z1 p) t=opT p t:=by rw[hF.opq];rfl
 have hN:=Zrj hF t
 unfold ZqB Za5
 rw[Ze,if_pos hF.kro,Ze,if_pos hko]
 obtain ⟨O,hO⟩:∃O,opT p t=O:=⟨_,rfl⟩
 rw[hO] at hN hv ⊢
 have loop:∀k,k≤O.length→Goes (Zkq p t) (.jmp (.l5 (putsL [] ((O.take k).map fun x=>x.2.2)) (k:Int))) (putsL [] (O.map fun x=>x.2.2)):=by
  refine down ?_ fun k hk ih=>?_
  ·rw[Zh,Zkq,hv,Ze,if_neg (by rw[Zw (Nat.lt_irrefl _)];decide),List.take_length]
   exact .leaf
  ·have hp:∀n:Int,Zdp (putsL [] ((O.take k).map fun x=>x.2.2)) n=true:=fun n=>decide_eq_true (by
    have:=Zm4 ((O.take k).map fun x=>x.2.2)
    rw[List.length_map,List.length_take] at this
    omega)
   rw[List.take_succ_eq_append_getElem hk,List.map_append,List.map_singleton,ZFU] at ih
   rw[Zh,Zkq,hv,Ze,if_pos (ZK hk),Ze,if_pos (by rw[nng,ZK hk];rfl),Int.toNat_natCast,ZG hk,Ze,if_pos (hp _),Zo (by omega)]
   exact ih
 exact loop 0 (Nat.zero_le _)
end Go.Ev
end

section
open Go Go.Ev
namespace Go.Ev
noncomputable section
noncomputable def ZuA:Run:=entG ZfW ZnD (fun a=>Zig a.1 a.2.1) (fun a=>Za5 a.1 a.2.1)
theorem Zyy:EntOK Go.Proofs.Tryz.prog 9 ZuA:=ZH (tb:=ZpZ) (c:=ZnC) ZG9 (by kernel_rfl) (by kernel_rfl) (by kernel_rfl) (fun a=>by kernel_rfl) fun ⟨p,t,_⟩ hk=>Zm (c:=ZnC) (K:=fun v=>(ZnD v,tps (toForms ZfW (p,t,())))) (S:=Zfj p t) (by kernel_rfl) (ZGR p t) (ZHZ p t) (ZMl p t hk)
end
end Go.Ev
end

section
open Go Go.Ev
namespace Go.Ev
noncomputable section
def ZhH:Sig:=[(true,Zc),(false,(.int .i64))]
noncomputable def Zwh:Tbl:=[(34,ZnL)]
theorem ZJH:∀p∈Zwh,EntOK Go.Proofs.Tryz.prog p.1 p.2:=Zg Zq7 (Zt)
noncomputable def Zp3:Code:=Go.Proofs.Tryz.f28.body.getD .skip
def ZsZ:Tb:=[]
def ZDL (p:El Zc) (t:Int):Empty→JT Empty (Bool):=fun j=>nomatch j
def ZzV (p:El Zc) (t:Int):JT Empty (Bool):=.br (Zbz p) (.br ((ZbS p) !=(0:Int)) (.leaf true) (.br (decide (t < (0:Int))) (.leaf true) (.leaf (decide (t≥(Int.ofNat (List.length p.2))))))) (.no)
def Zi7 (p:El Zc) (t:Int):Bool:=bif (Zbz p) then bif ((ZbS p) !=(0:Int)) then true else bif (decide (t < (0:Int))) then true else (decide (t≥(Int.ofNat (List.length p.2)))) else false
def ZjD (p:El Zc) (t:Int):Bool:=bif (Zbz p) then bif ((ZbS p) !=(0:Int)) then true else bif (decide (t < (0:Int))) then true else true else false
theorem ZML (p:El Zc) (t:Int) (hk:ZjD p t=true):Goes (ZDL p t) (ZzV p t) (Zi7 p t):=Goes.brk hk (fun hk=>Goes.brk hk (fun hk=>Goes.leaf) (fun hk=>Goes.brk hk (fun hk=>Goes.leaf) (fun hk=>Goes.leaf))) (fun hk=>Goes.nok hk)
def ZrV:Bool→AV:=fun (r:Bool)=>.d .bool r
def ZhA (p:El Zc) (t:Int):Empty→Nat×St:=fun j=>nomatch j
theorem ZLO (p:El Zc) (t:Int) (L:Lt):entryA Go.Proofs.Tryz.prog (clOf Zwh) ZsZ Go.Proofs.Tryz.f28 Zp3 L (toForms ZhH (p,t,()))=(ZzV p t).run (fun v=>some (ZrV v,tps (toForms ZhH (p,t,())))) fun j=>L (ZhA p t j).1 (ZhA p t j).2:=by kernel_rfl
theorem ZJ2 (p:El Zc) (t:Int):∀(L:Lt) (j:Empty),procOf (procsF Go.Proofs.Tryz.prog (clOf Zwh) ZsZ Go.Proofs.Tryz.f28 Zp3 (toForms ZhH (p,t,()))) (ZhA p t j).1 L (ZhA p t j).2=(ZDL p t j).run (fun v=>some (ZrV v,tps (toForms ZhH (p,t,())))) fun j=>L (ZhA p t j).1 (ZhA p t j).2:=fun L j=>nomatch j
noncomputable def Zwy:Run:=entG ZhH ZrV (fun a=>ZjD a.1 a.2.1) (fun a=>Zi7 a.1 a.2.1)
theorem ZzR:EntOK Go.Proofs.Tryz.prog 28 Zwy:=ZH (tb:=ZsZ) (c:=Zp3) ZJH (by kernel_rfl) (by kernel_rfl) (by kernel_rfl) (fun a=>by kernel_rfl) fun ⟨p,t,_⟩ hk=>Zm (c:=Zp3) (K:=fun v=>(ZrV v,tps (toForms ZhH (p,t,())))) (S:=ZhA p t) (by kernel_rfl) (ZLO p t) (ZJ2 p t) (ZML p t hk)
end
end Go.Ev
end

section
open Go Go.Ev
namespace Go.Ev
noncomputable section
def Zgc:Sig:=[(true,(.sl Za)),(false,(.sl Zd)),(false,(.sl (.int .i64)))]
noncomputable def ZsK:Tbl:=[(45,ZwP)]
theorem ZIy:∀p∈ZsK,EntOK Go.Proofs.Tryz.prog p.1 p.2:=Zg ZAR (Zt)
noncomputable def ZnV:Code:=Go.Proofs.Tryz.f29.body.getD .skip
def Zrr:Tb:=[(4,⟨[1,2,3,7,8],[(8,106)]⟩)]
inductive Zku where | l4 (i:Int) (out:List (El Zd))
def Zkj (t:List (El Za)) (l:List (El Zd)) (points:List Int):Zku→JT Zku (List (El Zd)) |.l4 i out=>.br (decide (i < (Int.ofNat (List.length l)))) (.br ((decide ((0:Int)≤i))&&(decide (i < (Int.ofNat (List.length l))))) (.br ((decide ((0:Int)≤i))&&(decide (i < (Int.ofNat (List.length l))))) (.br (Zhj t points (List.getD l (Int.toNat i) (dflt Zd)).2.1 (List.getD l (Int.toNat i) (dflt Zd)).2.2) (.br (Zfn t points (List.getD l (Int.toNat i) (dflt Zd)).2.1 (List.getD l (Int.toNat i) (dflt Zd)).2.2) (.br ((decide ((0:Int)≤i))&&(decide (i < (Int.ofNat (List.length l))))) (.br (Nat.ble (((List.length out)+1)*24) limit) (.jmp (.l4 (IntKind.i64.wrap (i+(1:Int))) (out++[(List.getD l (Int.toNat i) (dflt Zd))]))) (.no)) (.no)) (.jmp (.l4 (IntKind.i64.wrap (i+(1:Int))) out))) (.no)) (.no)) (.no)) (.leaf out)
def ZxT (t:List (El Za)) (l:List (El Zd)) (points:List Int):JT Zku (List (El Zd)):=.jmp (.l4 (0:Int) [])
def Znt:List (El Zd)→AV:=fun (r:List (El Zd))=>.rw 57 Zd r
def ZfO (t:List (El Za)) (l:List (El Zd)) (points:List Int):Zku→Nat×St |.l4 i out=>(4,⟨mkTm 36 [(1,.d (.sl Zd) l),(2,.d (.sl (.int .i64)) points),(3,.pt 4 0 0),(7,.own 8 0 none),(8,.d (.int .i64) i)],[(4,0,.box 42 [.d (.sl Za) t] none),(8,0,.row 57 Zd out false)]⟩)
theorem ZHV (t:List (El Za)) (l:List (El Zd)) (points:List Int) (L:Lt):entryA Go.Proofs.Tryz.prog (clOf ZsK) Zrr Go.Proofs.Tryz.f29 ZnV L (toForms Zgc (t,l,points,()))=(ZxT t l points).run (fun v=>some (Znt v,tps (toForms Zgc (t,l,points,())))) fun j=>L (ZfO t l points j).1 (ZfO t l points j).2:=by kernel_rfl
theorem ZIC (t:List (El Za)) (l:List (El Zd)) (points:List Int):∀(L:Lt) (j:Zku),procOf (procsF Go.Proofs.Tryz.prog (clOf ZsK) Zrr Go.Proofs.Tryz.f29 ZnV (toForms Zgc (t,l,points,()))) (ZfO t l points j).1 L (ZfO t l points j).2=(Zkj t l points j).run (fun v=>some (Znt v,tps (toForms Zgc (t,l,points,())))) fun j=>L (ZfO t l points j).1 (ZfO t l points j).2 | L,.l4 i out=>by kernel_rfl
end
end Go.Ev
end

section
open Go
namespace Go.Ev
noncomputable def ZdI (t:List (El Za)) (l:List (El Zd)) (points:List Int):List (El Zd):=missL (uB t) points l
def ZbC (t:List (El Za)) (l:List (El Zd)) (points:List Int):Bool:=flowOK t&&(decide (points.length < 4611686018427387904)&&decide (l.length < 1000000000000))
theorem ZLL (t:List (El Za)) (l:List (El Zd)) (points:List Int) (hk:ZbC t l points=true):Goes (Zkj t l points) (ZxT t l points) (ZdI t l points):=by
 unfold ZbC at hk
 rw[Bool.and_eq_true,Bool.and_eq_true,decide_eq_true_eq,decide_eq_true_eq] at hk
 obtain ⟨hf,hp,hN⟩:=hk
 have loop:∀k,k≤l.length→∀out:List (El Zd),out.length≤k→Goes (Zkj t l points) (.jmp (.l4 (k:Int) out)) (out++(l.drop k).filter (uB t points)):=by
  refine down ?_ fun k hk ih=>?_
  ·intro out ho
   rw[Zh,Zkj,Ze,if_neg (by rw[Zw (Nat.lt_irrefl _)];decide),List.drop_length]
   simp only[List.filter_nil,List.append_nil]
   exact .leaf
  ·intro out ho
   have b1:Nat.ble ((out.length+1)*24) limit=true:=Nat.ble_eq_true_of_le (by unfold limit;omega)
   obtain ⟨_,f1,f2,f3⟩:=ZGk hf hp l[k].2.1 l[k].2.2
   have fv:Zfn t points l[k].2.1 l[k].2.2=uB t points l[k]:=by rw[f2,f3];rfl
   rw[Zh,Zkj,ZM hk,List.filter_cons]
   simp only[Ze,ZK hk,nng,Bool.and_self,if_true,Int.toNat_natCast,ZG hk,b1,Zo (k:=k) (by omega)]
   rw[if_pos f1,fv]
   by_cases c:uB t points l[k]=true
   ·rw[if_pos c,if_pos c]
    have:=ih (out++[l[k]]) (by simp;omega)
    rw[List.append_assoc] at this
    exact this
   ·rw[if_neg c,if_neg c]
    exact ih out (by omega)
 have:=loop 0 (Nat.zero_le _) [] (Nat.zero_le _)
 rw[List.nil_append,List.drop_zero] at this
 exact this
end Go.Ev
end

section
open Go Go.Ev
namespace Go.Ev
noncomputable section
noncomputable def Zto:Run:=entG Zgc Znt (fun a=>ZbC a.1 a.2.1 a.2.2.1) (fun a=>ZdI a.1 a.2.1 a.2.2.1)
theorem Zxm:EntOK Go.Proofs.Tryz.prog 29 Zto:=ZH (tb:=Zrr) (c:=ZnV) ZIy (by kernel_rfl) (by kernel_rfl) (by kernel_rfl) (fun a=>by kernel_rfl) fun ⟨t,l,points,_⟩ hk=>Zm (c:=ZnV) (K:=fun v=>(Znt v,tps (toForms Zgc (t,l,points,())))) (S:=ZfO t l points) (by kernel_rfl) (ZHV t l points) (ZIC t l points) (ZLL t l points hk)
end
end Go.Ev
end

section
open Go Go.Ev
namespace Go.Ev
noncomputable section
def ZeK:Sig:=[(true,Zc),(false,(.int .i64))]
noncomputable def Zr5:Tbl:=[(28,Zwy),(25,Zqk),(24,ZsD),(26,ZpB),(29,Zto)]
theorem ZDR:∀p∈Zr5,EntOK Go.Proofs.Tryz.prog p.1 p.2:=Zg ZzR (Zg ZuB (Zg ZuX (Zg ZrB (Zg Zxm (Zt)))))
noncomputable def ZlA:Code:=Go.Proofs.Tryz.f11.body.getD .skip
def Zpo:Tb:=[(8,⟨[5,6,7],[(6,59)]⟩),(15,⟨[5,6,7,8,9,10],[]⟩),(hintK,⟨[],[(1,59)]⟩)]
inductive Zip where | l8 (x:List (El Za)) (points:List Int) (l:List (El Zd)) | l15 (x:List (El Za)) (least:Int) (i:Int) (best:Int) (points:List Int) (l:List (El Zd))
def Zce (p:El Zc) (t:Int):Zip→JT Zip (List Int) |.l8 x points l=>.br (decide ((Int.ofNat (List.length l)) > (0:Int))) (.jmp (.l15 x (Int.ofNat (List.length l)) (0:Int) (0:Int) points l)) (.leaf points) |.l15 x least i best points l=>.br (decide (i < (Int.ofNat (List.length x)))) (.br (Zdp points i) (.br (ZbC x l (ZbJ points i)) (.br (decide ((Int.ofNat (List.length (ZdI x l (ZbJ points i)))) < least)) (.jmp (.l15 x (Int.ofNat (List.length (ZdI x l (ZbJ points i)))) (IntKind.i64.wrap (i+(1:Int))) i points l)) (.jmp (.l15 x least (IntKind.i64.wrap (i+(1:Int))) best points l))) (.no)) (.no)) (.br (Zdp points best) (.br (ZbC x l (ZbJ points best)) (.jmp (.l8 x (ZbJ points best) (ZdI x l (ZbJ points best)))) (.no)) (.no))
def Zpj (p:El Zc) (t:Int):JT Zip (List Int):=.br (ZjD p t) (.br (Zi7 p t) (.leaf []) (.br ((decide ((0:Int)≤t))&&(decide (t < (Int.ofNat (List.length p.2))))) (.br (Zdc p) (.br (ZgR (Z1 p) t) (.jmp (.l8 (List.getD p.2 (Int.toNat t) (dflt (.sl Za))) [] (Zbj (Z1 p) t))) (.no)) (.no)) (.no))) (.no)
def Zk8:List Int→AV:=fun (r:List Int)=>.d (.sl (.int .i64)) r
def ZdQ (p:El Zc) (t:Int):Zip→Nat×St |.l8 x points l=>(8,⟨mkTm 56 [(5,.d (.sl (.int .i64)) points),(6,.pt 7 0 0),(7,.own 8 0 none)],[(7,0,.box 42 [.d (.sl Za) x] none),(8,0,.row 57 Zd l false)]⟩) |.l15 x least i best points l=>(15,⟨mkTm 56 [(5,.d (.sl (.int .i64)) points),(6,.pt 7 0 0),(7,.own 8 0 none),(8,.d (.int .i64) best),(9,.d (.int .i64) least),(10,.d (.int .i64) i)],[(7,0,.box 42 [.d (.sl Za) x] none),(8,0,.row 57 Zd l false)]⟩)
theorem ZEy (p:El Zc) (t:Int) (L:Lt):entryA Go.Proofs.Tryz.prog (clOf Zr5) Zpo Go.Proofs.Tryz.f11 ZlA L (toForms ZeK (p,t,()))=(Zpj p t).run (fun v=>some (Zk8 v,tps (toForms ZeK (p,t,())))) fun j=>L (ZdQ p t j).1 (ZdQ p t j).2:=by kernel_rfl
theorem ZE2 (p:El Zc) (t:Int):∀(L:Lt) (j:Zip),procOf (procsF Go.Proofs.Tryz.prog (clOf Zr5) Zpo Go.Proofs.Tryz.f11 ZlA (toForms ZeK (p,t,()))) (ZdQ p t j).1 L (ZdQ p t j).2=(Zce p t j).run (fun v=>some (Zk8 v,tps (toForms ZeK (p,t,())))) fun j=>L (ZdQ p t j).1 (ZdQ p t j).2 | L,.l8 x points l=>by kernel_rfl | L,.l15 x least i best points l=>by kernel_rfl
end
end Go.Ev
end

section
open Go Go.Ev
namespace Go.Ev
noncomputable section
def Zdz:Sig:=[(false,(.sl (.int .i64))),(false,(.int .i64))]
noncomputable def ZoV:Tbl:=[]
theorem ZCs:∀p∈ZoV,EntOK Go.Proofs.Tryz.prog p.1 p.2:=Zt
noncomputable def ZjU:Code:=Go.Proofs.Tryz.f57.body.getD .skip
def ZmP:Tb:=[(4,⟨[0,1,5,6],[(6,58)]⟩)]
inductive ZgQ where | l4 (i:Int) (out:List Int)
def ZgL (l:List Int) (n:Int):ZgQ→JT ZgQ (List Int) |.l4 i out=>.br (decide (i < (Int.ofNat (List.length l)))) (.br ((decide ((0:Int)≤i))&&(decide (i < (Int.ofNat (List.length l))))) (.br ((List.getD l (Int.toNat i) (dflt (.int .i64))) !=n) (.br ((decide ((0:Int)≤i))&&(decide (i < (Int.ofNat (List.length l))))) (.br (Nat.ble (((List.length out)+1)*8) limit) (.jmp (.l4 (IntKind.i64.wrap (i+(1:Int))) (out++[(List.getD l (Int.toNat i) (dflt (.int .i64)))]))) (.no)) (.no)) (.jmp (.l4 (IntKind.i64.wrap (i+(1:Int))) out))) (.no)) (.leaf out)
def ZsB (l:List Int) (n:Int):JT ZgQ (List Int):=.jmp (.l4 (0:Int) [])
def ZjT:List Int→AV:=fun (r:List Int)=>.rw 3 (.int .i64) r
def Zdd (l:List Int) (n:Int):ZgQ→Nat×St |.l4 i out=>(4,⟨mkTm 27 [(0,.d (.sl (.int .i64)) l),(1,.d (.int .i64) n),(5,.own 6 0 none),(6,.d (.int .i64) i)],[(6,0,.row 3 (.int .i64) out false)]⟩)
theorem ZCp (l:List Int) (n:Int) (L:Lt):entryA Go.Proofs.Tryz.prog (clOf ZoV) ZmP Go.Proofs.Tryz.f57 ZjU L (toForms Zdz (l,n,()))=(ZsB l n).run (fun v=>some (ZjT v,tps (toForms Zdz (l,n,())))) fun j=>L (Zdd l n j).1 (Zdd l n j).2:=by kernel_rfl
theorem ZDk (l:List Int) (n:Int):∀(L:Lt) (j:ZgQ),procOf (procsF Go.Proofs.Tryz.prog (clOf ZoV) ZmP Go.Proofs.Tryz.f57 ZjU (toForms Zdz (l,n,()))) (Zdd l n j).1 L (Zdd l n j).2=(ZgL l n j).run (fun v=>some (ZjT v,tps (toForms Zdz (l,n,())))) fun j=>L (Zdd l n j).1 (Zdd l n j).2 | L,.l4 i out=>by kernel_rfl
end
end Go.Ev
end

section
open Go
namespace Go.Ev
def ZeG (l:List Int) (n:Int):List Int:=without l n
def ZgF (l:List Int) (n:Int):Bool:=decide (l.length < 1000000000000)
theorem ZE5 (l:List Int) (n:Int) (hk:ZgF l n=true):Goes (ZgL l n) (ZsB l n) (ZeG l n):=by
 have hN:=of_decide_eq_true hk
 have loop:∀k,k≤l.length→∀out:List Int,out.length≤k→Goes (ZgL l n) (.jmp (.l4 (k:Int) out)) (out++(l.drop k).filter fun x=>x !=n):=by
  refine down ?_ fun k hk ih=>?_
  ·intro out ho
   rw[Zh,ZgL,Ze,if_neg (by rw[Zw (Nat.lt_irrefl _)];decide),List.drop_length]
   simp only[List.filter_nil,List.append_nil]
   exact .leaf
  ·intro out ho
   have b1:Nat.ble ((out.length+1)*8) limit=true:=Nat.ble_eq_true_of_le (by unfold limit;omega)
   rw[Zh,ZgL,ZM hk,List.filter_cons]
   simp only[Ze,ZK hk,nng,Bool.and_self,if_true,Int.toNat_natCast,ZG hk,b1,Zo (k:=k) (by omega)]
   by_cases c:(l[k] !=n)=true
   ·rw[if_pos c,if_pos c]
    have:=ih (out++[l[k]]) (by simp;omega)
    rw[List.append_assoc] at this
    exact this
   ·rw[if_neg c,if_neg c]
    exact ih out (by omega)
 have:=loop 0 (Nat.zero_le _) [] (Nat.zero_le _)
 rw[List.nil_append,List.drop_zero] at this
 exact this
end Go.Ev
end

section
open Go Go.Ev
namespace Go.Ev
noncomputable section
noncomputable def ZvI:Run:=entG Zdz ZjT (fun a=>ZgF a.1 a.2.1) (fun a=>ZeG a.1 a.2.1)
theorem ZC1:EntOK Go.Proofs.Tryz.prog 57 ZvI:=ZH (tb:=ZmP) (c:=ZjU) ZCs (by kernel_rfl) (by kernel_rfl) (by kernel_rfl) (fun a=>by kernel_rfl) fun ⟨l,n,_⟩ hk=>Zm (c:=ZjU) (K:=fun v=>(ZjT v,tps (toForms Zdz (l,n,())))) (S:=Zdd l n) (by kernel_rfl) (ZCp l n) (ZDk l n) (ZE5 l n hk)
end
end Go.Ev
end

section
open Go Go.Ev
namespace Go.Ev
noncomputable section
def Zgb:Sig:=[(true,Zc),(false,(.int .i64)),(false,(.sl (.int .i64)))]
noncomputable def Ztm:Tbl:=[(28,Zwy),(26,ZpB),(44,Zp2),(24,ZsD),(56,ZB3),(57,ZvI),(29,Zto)]
theorem ZF9:∀p∈Ztm,EntOK Go.Proofs.Tryz.prog p.1 p.2:=Zg ZzR (Zg ZrB (Zg ZvL (Zg ZuX (Zg ZFl (Zg ZC1 (Zg Zxm (Zt)))))))
noncomputable def Zoy:Code:=Go.Proofs.Tryz.f32.body.getD .skip
def Zp8:Tb:=[(7,⟨[1,2,3,7,8],[(8,59)]⟩),(15,⟨[1,3,7,9,10],[(10000000000000000000000000000000000000000000000000000000000008,1)]⟩),(hintK,⟨[],[(1,59)]⟩)]
inductive Zke where | l7 (l:List Int) (i:Int) | l15 (l:List Int) (i:Int)
def ZdC (p:El Zc) (t:Int) (points:List Int):Zke→JT Zke (List Int) |.l7 l i=>.br (decide (i < (Int.ofNat (List.length points)))) (.br ((decide ((0:Int)≤i))&&(decide (i < (Int.ofNat (List.length points))))) (.br (decide ((List.getD points (Int.toNat i) (dflt (.int .i64)))≥(0:Int))) (.br ((decide ((0:Int)≤i))&&(decide (i < (Int.ofNat (List.length points))))) (.br ((decide ((0:Int)≤t))&&(decide (t < (Int.ofNat (List.length p.2))))) (.br (decide ((List.getD points (Int.toNat i) (dflt (.int .i64))) < (Int.ofNat (List.length (List.getD p.2 (Int.toNat t) (dflt (.sl Za))))))) (.br ((decide ((0:Int)≤i))&&(decide (i < (Int.ofNat (List.length points))))) (.br (Zdp l (List.getD points (Int.toNat i) (dflt (.int .i64)))) (.jmp (.l7 (ZbJ l (List.getD points (Int.toNat i) (dflt (.int .i64)))) (IntKind.i64.wrap (i+(1:Int))))) (.no)) (.no)) (.jmp (.l7 l (IntKind.i64.wrap (i+(1:Int)))))) (.no)) (.no)) (.jmp (.l7 l (IntKind.i64.wrap (i+(1:Int)))))) (.no)) (.br (ZbP p) (.br (ZgR (Zx p) t) (.jmp (.l15 l (0:Int))) (.no)) (.no)) |.l15 l i=>.br ((decide ((0:Int)≤t))&&(decide (t < (Int.ofNat (List.length p.2))))) (.br (decide (i < (Int.ofNat (List.length (List.getD p.2 (Int.toNat t) (dflt (.sl Za))))))) (.br (ZmB l i) (.br (Zj7 l i) (.br ((decide ((0:Int)≤t))&&(decide (t < (Int.ofNat (List.length p.2))))) (.br (ZgF l i) (.br (ZbC (List.getD p.2 (Int.toNat t) (dflt (.sl Za))) (Zbj (Zx p) t) (ZeG l i)) (.br ((Int.ofNat (List.length (ZdI (List.getD p.2 (Int.toNat t) (dflt (.sl Za))) (Zbj (Zx p) t) (ZeG l i))))==(0:Int)) (.br (ZgF l i) (.jmp (.l15 (ZeG l i) (IntKind.i64.wrap (i+(1:Int))))) (.no)) (.jmp (.l15 l (IntKind.i64.wrap (i+(1:Int)))))) (.no)) (.no)) (.no)) (.jmp (.l15 l (IntKind.i64.wrap (i+(1:Int)))))) (.no)) (.leaf l)) (.no)
def Zq1 (p:El Zc) (t:Int) (points:List Int):JT Zke (List Int):=.br (ZjD p t) (.br (Zi7 p t) (.leaf []) (.jmp (.l7 [] (0:Int)))) (.no)
def Zow:List Int→AV:=fun (r:List Int)=>.d (.sl (.int .i64)) r
def ZfI (p:El Zc) (t:Int) (points:List Int):Zke→Nat×St |.l7 l i=>(7,⟨mkTm 81 [(1,.d (.int .i64) t),(2,.d (.sl (.int .i64)) points),(3,.pt 4 0 0),(7,.d (.sl (.int .i64)) l),(8,.d (.int .i64) i)],[(4,0,.box 26 [.d (.sl Zy) p.1,.d (.sl (.sl Za)) p.2] none)]⟩) |.l15 l i=>(15,⟨mkTm 81 [(1,.d (.int .i64) t),(3,.pt 4 0 0),(7,.d (.sl (.int .i64)) l),(9,.own 10 0 none),(10,.d (.int .i64) i)],[(4,0,.box 26 [.d (.sl Zy) p.1,.d (.sl (.sl Za)) p.2] none),(10,0,.row 57 Zd (Zbj (Zx p) t) false)]⟩)
theorem ZGu (p:El Zc) (t:Int) (points:List Int) (L:Lt):entryA Go.Proofs.Tryz.prog (clOf Ztm) Zp8 Go.Proofs.Tryz.f32 Zoy L (toForms Zgb (p,t,points,()))=(Zq1 p t points).run (fun v=>some (Zow v,tps (toForms Zgb (p,t,points,())))) fun j=>L (ZfI p t points j).1 (ZfI p t points j).2:=by kernel_rfl
theorem ZGa (p:El Zc) (t:Int) (points:List Int):∀(L:Lt) (j:Zke),procOf (procsF Go.Proofs.Tryz.prog (clOf Ztm) Zp8 Go.Proofs.Tryz.f32 Zoy (toForms Zgb (p,t,points,()))) (ZfI p t points j).1 L (ZfI p t points j).2=(ZdC p t points j).run (fun v=>some (Zow v,tps (toForms Zgb (p,t,points,())))) fun j=>L (ZfI p t points j).1 (ZfI p t points j).2 | L,.l7 l i=>by kernel_rfl | L,.l15 l i=>by kernel_rfl
end
end Go.Ev
end

section
open Go
namespace Go.Ev
noncomputable def ZaR (p:El Zc) (t:Int) (points:List Int):List Int:=if rightT p t=true then pruneV (uB (thrT p t)) (thrT p t).length (allT p t) points else []
def ZbT (p:El Zc) (t:Int) (points:List Int):Bool:=cutOK p&&decide (points.length < 1000000000)
theorem ZQA {p:El Zc} (h:smallProg p=true) (t:Int):ZjD p t=true∧Zi7 p t=! rightT p t:=by
 have hk:Zbz p=true:=h
 have hv:ZbS p=checkC p:=rfl
 unfold ZjD Zi7 rightT
 rw[hk,hv]
 by_cases hc:checkC p=0
 ·have e1:(checkC p !=0)=false:=by rw[hc];rfl
  rw[e1,decide_eq_true hc]
  by_cases h0:t < 0
  ·rw[decide_eq_true h0,decide_eq_false (show ¬(0:Int)≤t by omega)]
   exact ⟨rfl,rfl⟩
  ·rw[decide_eq_false h0,decide_eq_true (show (0:Int)≤t by omega)]
   by_cases h1:t < (p.2.length:Int)
   ·rw[decide_eq_true h1,decide_eq_false (show ¬t≥Int.ofNat p.2.length from by show ¬t≥(p.2.length:Int);omega)]
    exact ⟨rfl,rfl⟩
   ·rw[decide_eq_false h1,decide_eq_true (show t≥Int.ofNat p.2.length from by show t≥(p.2.length:Int);omega)]
    exact ⟨rfl,rfl⟩
 ·have e1:(checkC p !=0)=true:=by simpa using hc
  rw[e1,decide_eq_false hc,Bool.and_false,Bool.and_false]
  exact ⟨rfl,rfl⟩
theorem ZPC (l:List Int) (n:Int):putL n (putsL [] l)=putsL [] (l++[n]):=by
 unfold putsL
 rw[List.foldl_append]
 rfl
theorem ZLN (p:El Zc) (t:Int) (points:List Int) (hk:ZbT p t points=true):Goes (ZdC p t points) (Zq1 p t points) (ZaR p t points):=by
 unfold ZbT at hk
 rw[Bool.and_eq_true,decide_eq_true_eq] at hk
 obtain ⟨hk,hN⟩:=hk
 have hF:=ZfT hk
 have hA:=smallA hF.small
 obtain ⟨n1,n2⟩:=ZQA hA.prog t
 unfold Zq1 ZaR
 rw[Ze,if_pos n1,n2,Ze]
 by_cases hr:¬rightT p t=true
 ·rw[if_pos (by simpa using hr),if_neg hr]
  exact .leaf
 have hr:=Decidable.not_not.1 hr
 obtain ⟨hfl,hin,_⟩:=hF.flow t hr
 rw[if_neg (by rw[hr];decide),if_pos hr]
 have hx:List.getD p.2 (Int.toNat t) (dflt (.sl Za))=thrT p t:=rfl
 have hlen:=Zbx hfl
 have hal:=ZOx hF t
 have vD:Zbj (Zx p) t=allT p t:=by rw[hF.eq];rfl
 have kO:ZgR (Zx p) t=true:=decide_eq_true (by rw[hF.eq];have:=hF.lp;omega)
 have lw:∀(l:List Int) (i:Int),(without l i).length≤l.length:=fun l i=>List.length_filter_le _ _
 have second:∀i,i≤(thrT p t).length→∀l:List Int,l.length < 1000000000→Goes (ZdC p t points) (.jmp (.l15 l (i:Int))) (pruneFrom (uB (thrT p t)) (allT p t) (thrT p t).length i l):=by
  refine down ?_ fun i hi ih=>?_
  ·intro l hl
   rw[Zh,ZdC,hx,Ze,if_pos hin,Ze,if_neg (by rw[Zw (Nat.lt_irrefl _)];decide),Zyr]
   exact .leaf
  ·intro l hl
   have k1:ZmB l (i:Int)=true:=decide_eq_true (by omega)
   have v1:Zj7 l (i:Int)=l.contains (i:Int):=rfl
   have k2:ZgF l (i:Int)=true:=decide_eq_true (by omega)
   have v2:ZeG l (i:Int)=without l (i:Int):=rfl
   have l2:=lw l (i:Int)
   have k3:ZbC (thrT p t) (allT p t) (without l (i:Int))=true:=by
    unfold ZbC
    rw[hfl,decide_eq_true (show (without l (i:Int)).length < 4611686018427387904 by omega),decide_eq_true (show (allT p t).length < 1000000000000 by omega)];rfl
   have v3:ZdI (thrT p t) (allT p t) (without l (i:Int))=(allT p t).filter (uB (thrT p t) (without l (i:Int))):=rfl
   rw[Zv0 hi]
   unfold pruneStep
   rw[Zh,ZdC,hx,vD,v1,v2,v3,Zo (by omega),Ze,if_pos hin,Ze,if_pos (ZK hi),Ze,if_pos k1,Ze]
   by_cases hc:l.contains (i:Int)=true
   ·rw[if_pos hc,Ze,if_pos hin,Ze,if_pos k2,Ze,if_pos k3,Ze]
    by_cases hz:((allT p t).filter (uB (thrT p t) (without l (i:Int)))).length=0
    ·rw[if_pos (by rw[hz];rfl),if_pos ⟨hc,hz⟩,Ze,if_pos k2]
     exact ih _ (by omega)
    ·rw[if_neg (by simp only[beq_iff_eq,Int.ofNat_eq_natCast];omega),if_neg fun h=>hz h.2]
     exact ih _ hl
   ·rw[if_neg hc,if_neg fun h=>hc h.1]
    exact ih _ hl
 have first:∀k,k≤points.length→∀out:List Int,out.length≤k→Goes (ZdC p t points) (.jmp (.l7 (putsL [] out) (k:Int))) (pruneFrom (uB (thrT p t)) (allT p t) (thrT p t).length 0 (putsL [] (out++(points.drop k).filter (inR (thrT p t).length)))):=by
  refine down ?_ fun k hk ih=>?_
  ·intro out ho
   have hpl:(putsL [] out).length≤out.length:=by rw[←ZDJ];exact Zyo
   rw[Zh,ZdC,Ze,if_neg (by rw[Zw (Nat.lt_irrefl _)];decide),List.drop_length,Ze,if_pos hF.kd,Ze,if_pos kO]
   simp only[List.filter_nil,List.append_nil]
   exact second 0 (Nat.zero_le _) _ (by omega)
  ·intro out ho
   have hpl:(putsL [] out).length≤out.length:=by rw[←ZDJ];exact Zyo
   have kput:∀n:Int,Zdp (putsL [] out) n=true:=fun n=>decide_eq_true (by omega)
   have vput:∀n:Int,ZbJ (putsL [] out) n=putsL [] (out++[n]):=fun n=>ZPC out n
   rw[Zh,ZdC,ZM hk,List.filter_cons]
   simp only[Ze,hx,ZK hk,nng,Bool.and_self,if_true,Int.toNat_natCast,ZG hk,Zo (k:=k) (by omega),hin,kput,vput]
   have e2:decide (points[k] < Int.ofNat (thrT p t).length)=decide (points[k] < ((thrT p t).length:Int)):=rfl
   have e1:inR (thrT p t).length points[k]=(decide (points[k]≥0)&&decide (points[k] < ((thrT p t).length:Int))):=rfl
   rw[e1,e2]
   cases c1:decide (points[k]≥0) with
   | true=>
    cases c2:decide (points[k] < ((thrT p t).length:Int)) with
    | true=>
     have:=ih (out++[points[k]]) (by simp;omega)
     rw[List.append_assoc] at this
     exact this
    | false=>exact ih out (by omega)
   | false=>exact ih out (by omega)
 have:=first 0 (Nat.zero_le _) [] (Nat.zero_le _)
 rw[List.nil_append,List.drop_zero] at this
 have hm:∀x∈putsL [] (points.filter (inR (thrT p t).length)),((0:Nat):Int)≤x∧x < ((thrT p t).length:Int):=fun x hx=>by
  rw[Zkh] at hx
  have hx:=(List.mem_filter.1 (hx.resolve_left (by simp))).2
  unfold inR at hx
  rw[Bool.and_eq_true,decide_eq_true_eq,decide_eq_true_eq] at hx
  exact hx
 have e:=ZRx (U:=uB (thrT p t)) (all:=allT p t) (n:=(thrT p t).length) (thrT p t).length 0 (by omega) [] (putsL [] (points.filter (inR (thrT p t).length))) (fun x hx=>by cases hx) hm (Zfr .nil)
 rw[List.nil_append] at e
 unfold pruneV
 rw[←e]
 exact this
end Go.Ev
end

section
open Go
namespace Go.Ev
noncomputable def ZaM (p:El Zc) (t:Int):List Int:=if rightT p t=true then greedyR (uB (thrT p t)) (thrT p t).length (opT p t).length [] (opT p t) else []
def Zgx (p:El Zc) (t:Int):Bool:=cutOK p
theorem ZOE {α:Type} {U:List Int→α→Bool} (hU:Mem U) {n:Nat} {pts:List Int} {l:List α} (hc:Cuts U n l) (hl:0 < l.length):(l.filter (U (putL (bestR U n pts l).1 pts))).length < l.length:=by
 obtain ⟨j,_,e1,e2,e3⟩:=Zy3 (pts:=pts) hc hl
 have eb:bestR U n pts l=((bestG U n pts l).1,(bestG U n pts l).2.length):=ZOr hU (fun k=>Iff.rfl) n 0 (by omega) (0,l) (0,l.length) rfl
 rw[eb,e1]
 rw[e2] at e3
 have e:U (putL (j:Int) pts)=U (pts++[(j:Int)]):=funext fun x=>hU (ZIr (fun k=>Iff.rfl) (j:Int)) x
 rw[e]
 exact e3
theorem ZGe (p:El Zc) (t:Int) (hk:Zgx p t=true):Goes (Zce p t) (Zpj p t) (ZaM p t):=by
 have hF:=ZfT hk
 obtain ⟨r1,r2⟩:=ZQA (smallA hF.small).prog t
 have hko:ZgR (Z1 p) t=true:=by rw[hF.opq];exact decide_eq_true (by have:=hF.lo;omega)
 have hv:Zbj (Z1 p) t=opT p t:=by rw[hF.opq];rfl
 unfold Zpj ZaM
 rw[Ze,if_pos r1,r2,Ze]
 by_cases hr:¬rightT p t=true
 ·rw[if_pos (by simpa using hr),if_neg hr]
  exact .leaf
 have hr:=Decidable.not_not.1 hr
 obtain ⟨f1,f2,_⟩:=hF.flow t hr
 rw[if_neg (by rw[hr];decide),if_pos hr,Ze,if_pos f2,Ze,if_pos hF.kro,Ze,if_pos hko,hv]
 have hx:List.getD p.2 (Int.toNat t) (dflt (.sl Za))=thrT p t:=rfl
 rw[hx]
 have hN:=Zrj hF t
 have hlen:=Zbx f1
 have hcuts:=ZBR hF hr
 obtain ⟨x,hxe⟩:∃x,thrT p t=x:=⟨_,rfl⟩
 rw[hxe] at f1 hlen hcuts ⊢
 have kput:∀(pts:List Int) (n:Int),pts.length≤1000000000→Zdp pts n=true:=fun pts n h=>decide_eq_true (by omega)
 have kun:∀(pts:List Int) (l:List PairD),pts.length≤1000000001→l.length≤1000000000→ZbC x l pts=true:=fun pts l h1 h2=>by
  unfold ZbC
  rw[f1,decide_eq_true (show pts.length < 4611686018427387904 by omega),decide_eq_true (show l.length < 1000000000000 by omega)];rfl
 have outer:∀f:Nat,∀(pts:List Int) (l:List PairD),l.length≤f→f+pts.length≤1000000000→Cuts (uB x) x.length l→Goes (Zce p t) (.jmp (.l8 x pts l)) (greedyR (uB x) x.length f pts l):=by
  intro f
  induction f with
  | zero=>
   intro pts l hl hp hc
   have h0:l.length=0:=by omega
   rw[Zh,Zce,Ze,if_neg (by rw[h0];decide),greedyR]
   exact .leaf
  | succ f ihf=>
   intro pts l hl hp hc
   rw[greedyR]
   by_cases h0:l.length=0
   ·rw[if_pos h0,Zh,Zce,Ze,if_neg (by rw[h0];decide)]
    exact .leaf
   ·rw[if_neg h0]
    have hls:=ZOE (ZR9 x) (pts:=pts) hc (by omega)
    obtain ⟨R,hR⟩:∃R,bestR (uB x) x.length pts l=R:=⟨_,rfl⟩
    rw[hR] at hls ⊢
    have hpl:= @ZBw R.1 pts
    have next:=ihf (putL R.1 pts) (l.filter (uB x (putL R.1 pts))) (by omega) (by omega) (ZGx hc fun y hy=>(List.mem_filter.1 hy).1)
    have inner:∀k,k≤x.length→∀acc:Int×Nat,bestFromR (uB x) x.length pts l k acc=R→Goes (Zce p t) (.jmp (.l15 x ((acc.2:Nat):Int) (k:Int) acc.1 pts l)) (greedyR (uB x) x.length f (putL R.1 pts) (l.filter (uB x (putL R.1 pts)))):=by
     refine down ?_ fun k hk ihk=>?_
     ·intro acc he
      rw[ZyJ] at he
      subst he
      rw[Zh,Zce,Ze,if_neg (by rw[Zw (Nat.lt_irrefl _)];decide),Ze,if_pos (kput pts acc.1 (by omega)),Ze,if_pos (show ZbC x l (ZbJ pts acc.1)=true from kun (putL acc.1 pts) l (by omega) (by omega))]
      exact next
     ·intro acc he
      rw[ZvO hk] at he
      have hpk:= @ZBw (k:Int) pts
      rw[Zh,Zce,Ze,if_pos (ZK hk),Ze,if_pos (kput pts (k:Int) (by omega)),Ze,if_pos (show ZbC x l (ZbJ pts (k:Int))=true from kun (putL (k:Int) pts) l (by omega) (by omega)),Ze,Zo (by omega)]
      have hvu:ZdI x l (ZbJ pts (k:Int))=l.filter (uB x (putL (k:Int) pts)):=rfl
      rw[hvu]
      unfold stepR at he
      by_cases hc2:(l.filter (uB x (putL (k:Int) pts))).length < acc.2
      ·rw[if_pos hc2] at he
       rw[if_pos (decide_eq_true (show Int.ofNat (l.filter (uB x (putL (k:Int) pts))).length < ((acc.2:Nat):Int) from Int.ofNat_lt.2 hc2))]
       exact ihk _ he
      ·rw[if_neg hc2] at he
       rw[if_neg (by rw[decide_eq_false (show ¬Int.ofNat (l.filter (uB x (putL (k:Int) pts))).length < ((acc.2:Nat):Int) from fun h=>hc2 (Int.ofNat_lt.1 h))];decide)]
       exact ihk _ he
    rw[Zh,Zce,Ze,if_pos (decide_eq_true (show Int.ofNat l.length > 0 by simp only[Int.ofNat_eq_natCast];omega))]
    exact inner 0 (Nat.zero_le _) (0,l.length) hR
 exact outer _ [] _ (Nat.le_refl _) (by simp;omega) hcuts
end Go.Ev
end

section
open Go Go.Ev
namespace Go.Ev
noncomputable section
noncomputable def Zp6:Run:=entG ZeK Zk8 (fun a=>Zgx a.1 a.2.1) (fun a=>ZaM a.1 a.2.1)
theorem ZvV:EntOK Go.Proofs.Tryz.prog 11 Zp6:=ZH (tb:=Zpo) (c:=ZlA) ZDR (by kernel_rfl) (by kernel_rfl) (by kernel_rfl) (fun a=>by kernel_rfl) fun ⟨p,t,_⟩ hk=>Zm (c:=ZlA) (K:=fun v=>(Zk8 v,tps (toForms ZeK (p,t,())))) (S:=ZdQ p t) (by kernel_rfl) (ZEy p t) (ZE2 p t) (ZGe p t hk)
end
end Go.Ev
end

section
open Go Go.Ev
namespace Go.Ev
noncomputable section
noncomputable def ZAk:Run:=entG Zgb Zow (fun a=>ZbT a.1 a.2.1 a.2.2.1) (fun a=>ZaR a.1 a.2.1 a.2.2.1)
theorem ZIQ:EntOK Go.Proofs.Tryz.prog 32 ZAk:=ZH (tb:=Zp8) (c:=Zoy) ZF9 (by kernel_rfl) (by kernel_rfl) (by kernel_rfl) (fun a=>by kernel_rfl) fun ⟨p,t,points,_⟩ hk=>Zm (c:=Zoy) (K:=fun v=>(Zow v,tps (toForms Zgb (p,t,points,())))) (S:=ZfI p t points) (by kernel_rfl) (ZGu p t points) (ZGa p t points) (ZLN p t points hk)
end
end Go.Ev
end

section
open Go Go.Ev
namespace Go.Ev
noncomputable section
def Zeu:Sig:=[(true,Zc),(false,(.int .i64))]
noncomputable def Zsf:Tbl:=[(11,Zp6),(32,ZAk),(7,Zub),(9,ZuA)]
theorem ZE8:∀p∈Zsf,EntOK Go.Proofs.Tryz.prog p.1 p.2:=Zg ZvV (Zg ZIQ (Zg Zxl (Zg Zyy (Zt))))
noncomputable def ZlN:Code:=Go.Proofs.Tryz.f13.body.getD .skip
def Zpe:Tb:=[(4,⟨[1,2,5,6],[]⟩)]
inductive ZiF where | l4 (best:List Int) (i:Int)
def ZdP (p:El Zc) (t:Int):ZiF→JT ZiF (List Int) |.l4 best i=>.br (decide (i < (2:Int))) (.br (Zh1 p t) (.br (i==(1:Int)) (.br (Zig p t) (.br (ZbT p t (Za5 p t)) (.br (decide ((Int.ofNat (List.length (ZaR p t (Za5 p t)))) < (Int.ofNat (List.length best)))) (.jmp (.l4 (ZaR p t (Za5 p t)) (IntKind.i64.wrap (i+(1:Int))))) (.jmp (.l4 best (IntKind.i64.wrap (i+(1:Int)))))) (.no)) (.no)) (.br (ZbT p t (Za3 p t)) (.br (decide ((Int.ofNat (List.length (ZaR p t (Za3 p t)))) < (Int.ofNat (List.length best)))) (.jmp (.l4 (ZaR p t (Za3 p t)) (IntKind.i64.wrap (i+(1:Int))))) (.jmp (.l4 best (IntKind.i64.wrap (i+(1:Int)))))) (.no))) (.no)) (.leaf best)
def Zpb (p:El Zc) (t:Int):JT ZiF (List Int):=.br (Zgx p t) (.br (ZbT p t (ZaM p t)) (.jmp (.l4 (ZaR p t (ZaM p t)) (0:Int))) (.no)) (.no)
def Zls:List Int→AV:=fun (r:List Int)=>.d (.sl (.int .i64)) r
def Zd9 (p:El Zc) (t:Int):ZiF→Nat×St |.l4 best i=>(4,⟨mkTm 37 [(1,.d (.int .i64) t),(2,.pt 3 0 0),(5,.d (.sl (.int .i64)) best),(6,.d (.int .i64) i)],[(3,0,.box 26 [.d (.sl Zy) p.1,.d (.sl (.sl Za)) p.2] none)]⟩)
theorem ZDY (p:El Zc) (t:Int) (L:Lt):entryA Go.Proofs.Tryz.prog (clOf Zsf) Zpe Go.Proofs.Tryz.f13 ZlN L (toForms Zeu (p,t,()))=(Zpb p t).run (fun v=>some (Zls v,tps (toForms Zeu (p,t,())))) fun j=>L (Zd9 p t j).1 (Zd9 p t j).2:=by kernel_rfl
theorem ZDN (p:El Zc) (t:Int):∀(L:Lt) (j:ZiF),procOf (procsF Go.Proofs.Tryz.prog (clOf Zsf) Zpe Go.Proofs.Tryz.f13 ZlN (toForms Zeu (p,t,()))) (Zd9 p t j).1 L (Zd9 p t j).2=(ZdP p t j).run (fun v=>some (Zls v,tps (toForms Zeu (p,t,())))) fun j=>L (Zd9 p t j).1 (Zd9 p t j).2 | L,.l4 best i=>by kernel_rfl
end
end Go.Ev
end

section
open Go
namespace Go.Ev
noncomputable def ZaW (p:El Zc) (t:Int):List Int:=shorter (shorter (ZaR p t (ZaM p t)) (ZaR p t (Za3 p t))) (ZaR p t (Za5 p t))
def Zgi (p:El Zc) (t:Int):Bool:=cutOK p
theorem ZHl (p:El Zc) (t:Int) (hk:Zgi p t=true):Goes (ZdP p t) (Zpb p t) (ZaW p t):=by
 have hc:cutOK p=true:=hk
 have hF:=ZfT hc
 have hN:=Zrj hF t
 have ka:Zh1 p t=true:=hc
 have kh:Zig p t=true:=hc
 have kg:Zgx p t=true:=hc
 have kp:∀pts:List Int,pts.length≤400000000→ZbT p t pts=true:=fun pts h=>by unfold ZbT;rw[hc,decide_eq_true (show pts.length < 1000000000 by omega)];rfl
 have p1:ZbT p t (Za3 p t)=true:=kp _ (Nat.le_trans (Zm4 _) (by rw[List.length_map];exact hN))
 have p2:ZbT p t (Za5 p t)=true:=kp _ (Nat.le_trans (Zm4 _) (by rw[List.length_map];exact hN))
 have p3:ZbT p t (ZaM p t)=true:=kp _ (by
  unfold ZaM
  split
  ·have:=ZL9 (uB (thrT p t)) (thrT p t).length (opT p t).length [] (opT p t)
   simp only[List.length_nil,Nat.add_zero] at this
   omega
  ·simp)
 unfold Zpb ZaW
 rw[Ze,if_pos kg,Ze,if_pos p3]
 obtain ⟨A,hA⟩:∃A,ZaR p t (Za3 p t)=A:=⟨_,rfl⟩
 obtain ⟨H,hH⟩:∃H,ZaR p t (Za5 p t)=H:=⟨_,rfl⟩
 have last:∀b:List Int,Goes (ZdP p t) (.jmp (.l4 b (2:Int))) b:=fun b=>by
  rw[Zh,ZdP,Ze,if_neg (by decide)]
  exact .leaf
 have w1:IntKind.i64.wrap ((1:Int)+1)=2:=by decide
 have w0:IntKind.i64.wrap ((0:Int)+1)=1:=by decide
 have mid:∀b:List Int,Goes (ZdP p t) (.jmp (.l4 b (1:Int))) (shorter b H):=fun b=>by
  rw[Zh,ZdP,Ze,if_pos (by decide),Ze,if_pos ka,Ze,if_pos (by decide),Ze,if_pos kh,Ze,if_pos p2,hH,Ze,w1]
  unfold shorter
  by_cases c:H.length < b.length
  ·rw[if_pos (ZC8 c),if_pos c];exact last _
  ·rw[if_neg (by rw[Zyh c];decide),if_neg c];exact last _
 obtain ⟨G,hG⟩:∃G,ZaR p t (ZaM p t)=G:=⟨_,rfl⟩
 rw[hG,hA,hH,Zh,ZdP,Ze,if_pos (by decide),Ze,if_pos ka,Ze,if_neg (by decide),Ze,if_pos p1,hA,Ze,w0]
 have s1:shorter G A=if A.length < G.length then A else G:=rfl
 rw[s1]
 by_cases c:A.length < G.length
 ·rw[if_pos (ZC8 c),if_pos c];exact mid _
 ·rw[if_neg (by rw[Zyh c];decide),if_neg c];exact mid _
theorem Zx1 {p:El Zc} (hF:CutF p) (t:Int):ZaW p t=if rightT p t=true then pointsV (uB (thrT p t)) (thrT p t).length (allT p t) (opT p t) else []:=by
 unfold ZaW ZaR
 cases hr:rightT p t with
 | false=>rfl
 | true=>
  rw[if_pos rfl,if_pos rfl,if_pos rfl,if_pos rfl]
  unfold ZaM Za3 Za5 pointsV
  rw[if_pos hr,ZCI (ZBR hF hr),ZDd,ZDd]
end Go.Ev
end

section
open Go Go.Ev
namespace Go.Ev
noncomputable section
noncomputable def Zri:Run:=entG Zeu Zls (fun a=>Zgi a.1 a.2.1) (fun a=>ZaW a.1 a.2.1)
theorem ZvD:EntOK Go.Proofs.Tryz.prog 13 Zri:=ZH (tb:=Zpe) (c:=ZlN) ZE8 (by kernel_rfl) (by kernel_rfl) (by kernel_rfl) (fun a=>by kernel_rfl) fun ⟨p,t,_⟩ hk=>Zm (c:=ZlN) (K:=fun v=>(Zls v,tps (toForms Zeu (p,t,())))) (S:=Zd9 p t) (by kernel_rfl) (ZDY p t) (ZDN p t) (ZHl p t hk)
end
end Go.Ev
end

section
open Go Go.Ev
namespace Go.Ev
noncomputable section
noncomputable def ZBL:Run:=entG ZlV Zxd (fun a=>Zkg a.1) (fun a=>ZbW a.1)
theorem ZFP:EntOK Go.Proofs.Tryz.prog 15 ZBL:=ZH (tb:=Zy5) (c:=ZyK) ZOZ (by kernel_rfl) (by kernel_rfl) (by kernel_rfl) (fun a=>by kernel_rfl) fun ⟨p,_⟩ hk=>Zm (c:=ZyK) (K:=fun v=>(Zxd v,tps (toForms ZlV (p,())))) (S:=Zmj p) (by kernel_rfl) (ZOR p) (ZO3 p) (ZPB p hk)
end
end Go.Ev
end

section
open Go Go.Ev
namespace Go.Ev
noncomputable section
def Zje:Sig:=[(true,Zc)]
noncomputable def Zy6:Tbl:=[(34,ZnL),(13,Zri)]
theorem ZNq:∀p∈Zy6,EntOK Go.Proofs.Tryz.prog p.1 p.2:=Zg Zq7 (Zg ZvD (Zt))
noncomputable def ZuR:Code:=Go.Proofs.Tryz.f16.body.getD .skip
def ZwH:Tb:=[(7,⟨[1,3,4],[(4,64)]⟩),(hintK,⟨[],[(1,64)]⟩)]
inductive ZpA where | l7 (t:Int) (out:List (List Int))
def ZpD (p:El Zc):ZpA→JT ZpA (List (List Int)) |.l7 t out=>.br (decide (t < (Int.ofNat (List.length p.2)))) (.br (Zgi p t) (.br (Nat.ble (((List.length out)+1)*24) limit) (.jmp (.l7 (IntKind.i64.wrap (t+(1:Int))) (out++[(ZaW p t)]))) (.no)) (.no)) (.leaf out)
def Zwk (p:El Zc):JT ZpA (List (List Int)):=.br (Zbz p) (.br ((ZbS p) !=(0:Int)) (.leaf []) (.jmp (.l7 (0:Int) []))) (.no)
def ZuL:List (List Int)→AV:=fun (r:List (List Int))=>.rw 29 (.sl (.int .i64)) r
def Zjc (p:El Zc):ZpA→Nat×St |.l7 t out=>(7,⟨mkTm 22 [(1,.pt 2 0 0),(3,.own 4 0 none),(4,.d (.int .i64) t)],[(2,0,.box 26 [.d (.sl Zy) p.1,.d (.sl (.sl Za)) p.2] none),(4,0,.row 29 (.sl (.int .i64)) out false)]⟩)
theorem ZMv (p:El Zc) (L:Lt):entryA Go.Proofs.Tryz.prog (clOf Zy6) ZwH Go.Proofs.Tryz.f16 ZuR L (toForms Zje (p,()))=(Zwk p).run (fun v=>some (ZuL v,tps (toForms Zje (p,())))) fun j=>L (Zjc p j).1 (Zjc p j).2:=by kernel_rfl
theorem ZNI (p:El Zc):∀(L:Lt) (j:ZpA),procOf (procsF Go.Proofs.Tryz.prog (clOf Zy6) ZwH Go.Proofs.Tryz.f16 ZuR (toForms Zje (p,()))) (Zjc p j).1 L (Zjc p j).2=(ZpD p j).run (fun v=>some (ZuL v,tps (toForms Zje (p,())))) fun j=>L (Zjc p j).1 (Zjc p j).2 | L,.l7 t out=>by kernel_rfl
end
end Go.Ev
end

section
open Go
namespace Go.Ev
noncomputable def ZjB (p:El Zc):List (List Int):=if checkC p=0 then (List.range p.2.length).map fun t:Nat=>ZaW p (t:Int) else []
def Zu0 (p:El Zc):Bool:=cutOK p
theorem ZOV (p:El Zc) (hk:Zu0 p=true):Goes (ZpD p) (Zwk p) (ZjB p):=by
 have hc:cutOK p=true:=hk
 have hF:=ZfT hc
 have hT:=hF.thr
 have kc:Zbz p=true:=(smallA hF.small).prog
 have vc:ZbS p=checkC p:=rfl
 unfold Zwk ZjB
 rw[Ze,if_pos kc,vc,Ze]
 by_cases h0:checkC p=0
 ·rw[if_neg (by rw[h0];decide),if_pos h0]
  have loop:∀k,k≤p.2.length→Goes (ZpD p) (.jmp (.l7 (k:Int) ((List.range k).map fun t:Nat=>ZaW p (t:Int)))) ((List.range p.2.length).map fun t:Nat=>ZaW p (t:Int)):=by
   refine down ?_ fun k hk ih=>?_
   ·rw[Zh,ZpD,Ze,if_neg (by rw[Zw (Nat.lt_irrefl _)];decide)]
    exact .leaf
   ·have kp:Zgi p (k:Int)=true:=hc
    have b1:Nat.ble ((((List.range k).map fun t:Nat=>ZaW p (t:Int)).length+1)*24) limit=true:=Nat.ble_eq_true_of_le (by rw[List.length_map,List.length_range];unfold limit;omega)
    rw[List.range_succ,List.map_append,List.map_singleton] at ih
    rw[Zh,ZpD,Ze,if_pos (ZK hk),Ze,if_pos kp,Ze,if_pos b1,Zo (by omega)]
    exact ih
  exact loop 0 (Nat.zero_le _)
 ·rw[if_pos (by simpa using h0),if_neg h0]
  exact .leaf
end Go.Ev
end

section
open Go Go.Ev
namespace Go.Ev
noncomputable section
noncomputable def ZFD:Run:=entG Zje ZuL (fun a=>Zu0 a.1) (fun a=>ZjB a.1)
theorem ZM0:EntOK Go.Proofs.Tryz.prog 16 ZFD:=ZH (tb:=ZwH) (c:=ZuR) ZNq (by kernel_rfl) (by kernel_rfl) (by kernel_rfl) (fun a=>by kernel_rfl) fun ⟨p,_⟩ hk=>Zm (c:=ZuR) (K:=fun v=>(ZuL v,tps (toForms Zje (p,())))) (S:=Zjc p) (by kernel_rfl) (ZMv p) (ZNI p) (ZOV p hk)
end
end Go.Ev
end

section
open Go Go.Ev
namespace Go.Ev
noncomputable section
def Zcl:Sig:=[(false,(.sl (.sl (.int .i64)))),(false,(.sl (.sl (.int .i64))))]
noncomputable def ZkL:Tbl:=[(5,ZiJ)]
theorem Zzx:∀p∈ZkL,EntOK Go.Proofs.Tryz.prog p.1 p.2:=Zg ZkJ (Zt)
noncomputable def Zg1:Code:=Go.Proofs.Tryz.f14.body.getD .skip
def Zjo:Tb:=[(6,⟨[0,1,5],[]⟩)]
inductive Zeh where | l6 (i:Int)
def Zeg (a:List (List Int)) (b:List (List Int)):Zeh→JT Zeh (Bool) |.l6 i=>.br (decide (i < (Int.ofNat (List.length a)))) (.br ((decide ((0:Int)≤i))&&(decide (i < (Int.ofNat (List.length a))))) (.br ((decide ((0:Int)≤i))&&(decide (i < (Int.ofNat (List.length b))))) (.br (Z0 (List.getD a (Int.toNat i) (dflt (.sl (.int .i64)))) (List.getD b (Int.toNat i) (dflt (.sl (.int .i64))))) (.br (! (ZP (List.getD a (Int.toNat i) (dflt (.sl (.int .i64)))) (List.getD b (Int.toNat i) (dflt (.sl (.int .i64)))))) (.leaf false) (.jmp (.l6 (IntKind.i64.wrap (i+(1:Int)))))) (.no)) (.no)) (.no)) (.leaf true)
def Zjt (a:List (List Int)) (b:List (List Int)):JT Zeh (Bool):=.br ((Int.ofNat (List.length a)) !=(Int.ofNat (List.length b))) (.leaf false) (.jmp (.l6 (0:Int)))
def Zg2:Bool→AV:=fun (r:Bool)=>.d .bool r
def Zcb (a:List (List Int)) (b:List (List Int)):Zeh→Nat×St |.l6 i=>(6,⟨mkTm 27 [(0,.d (.sl (.sl (.int .i64))) a),(1,.d (.sl (.sl (.int .i64))) b),(5,.d (.int .i64) i)],[]⟩)
theorem Zzg (a:List (List Int)) (b:List (List Int)) (L:Lt):entryA Go.Proofs.Tryz.prog (clOf ZkL) Zjo Go.Proofs.Tryz.f14 Zg1 L (toForms Zcl (a,b,()))=(Zjt a b).run (fun v=>some (Zg2 v,tps (toForms Zcl (a,b,())))) fun j=>L (Zcb a b j).1 (Zcb a b j).2:=by kernel_rfl
theorem Zy4 (a:List (List Int)) (b:List (List Int)):∀(L:Lt) (j:Zeh),procOf (procsF Go.Proofs.Tryz.prog (clOf ZkL) Zjo Go.Proofs.Tryz.f14 Zg1 (toForms Zcl (a,b,()))) (Zcb a b j).1 L (Zcb a b j).2=(Zeg a b j).run (fun v=>some (Zg2 v,tps (toForms Zcl (a,b,())))) fun j=>L (Zcb a b j).1 (Zcb a b j).2 | L,.l6 i=>by kernel_rfl
end
end Go.Ev
end

section
open Go
namespace Go.Ev
def Zei (a b:List (List Int)):Bool:=decide (a=b)
def ZcH (a b:List (List Int)):Bool:=decide (a.length < 1000000000)&&a.all fun x=>decide (x.length < 4611686018427387904)
theorem ZBg (a b:List (List Int)) (hk:ZcH a b=true):Goes (Zeg a b) (Zjt a b) (Zei a b):=by
 unfold ZcH at hk
 rw[Bool.and_eq_true,decide_eq_true_eq] at hk
 obtain ⟨hn,ha⟩:=hk
 have ha:=List.all_eq_true.1 ha
 unfold Zjt Zei
 rw[Ze]
 by_cases hl:a.length=b.length
 ·rw[if_neg (by rw[hl];simp)]
  have loop:∀k,k≤a.length→a.take k=b.take k→Goes (Zeg a b) (.jmp (.l6 (k:Int))) (decide (a=b)):=by
   refine down ?_ fun k hk ih=>?_
   ·intro he
    rw[List.take_length,hl,List.take_length] at he
    rw[Zh,Zeg,Ze,if_neg (by rw[Zw (Nat.lt_irrefl _)];decide),decide_eq_true he]
    exact .leaf
   ·intro he
    have hkb:k < b.length:=by omega
    have k1:Z0 a[k] b[k]=true:=ha _ (List.getElem_mem hk)
    rw[Zh,Zeg,Ze,if_pos (ZK hk),Ze,if_pos (by rw[nng,ZK hk];rfl),Ze,if_pos (by rw[nng,ZK hkb];rfl),Int.toNat_natCast,ZG hk,ZG hkb,Ze,if_pos k1,Ze]
    by_cases e:a[k]=b[k]
    ·rw[if_neg (by rw[show ZP a[k] b[k]=true from decide_eq_true e];decide),Zo (by omega)]
     refine ih ?_
     rw[List.take_succ_eq_append_getElem hk,List.take_succ_eq_append_getElem hkb,he,e]
    ·rw[if_pos (by rw[show ZP a[k] b[k]=false from decide_eq_false e];rfl),decide_eq_false (fun h=>e (by subst h;rfl))]
     exact .leaf
  exact loop 0 (Nat.zero_le _) rfl
 ·have hne:a≠b:=fun h=>hl (by rw[h])
  rw[if_pos (by rw[bne_iff_ne];exact fun h=>hl (Int.ofNat.inj h)),decide_eq_false hne]
  exact .leaf
end Go.Ev
end

section
open Go Go.Ev
namespace Go.Ev
noncomputable section
noncomputable def Zst:Run:=entG Zcl Zg2 (fun a=>ZcH a.1 a.2.1) (fun a=>Zei a.1 a.2.1)
theorem ZyW:EntOK Go.Proofs.Tryz.prog 14 Zst:=ZH (tb:=Zjo) (c:=Zg1) Zzx (by kernel_rfl) (by kernel_rfl) (by kernel_rfl) (fun a=>by kernel_rfl) fun ⟨a,b,_⟩ hk=>Zm (c:=Zg1) (K:=fun v=>(Zg2 v,tps (toForms Zcl (a,b,())))) (S:=Zcb a b) (by kernel_rfl) (Zzg a b) (Zy4 a b) (ZBg a b hk)
end
end Go.Ev
end

section
open Go Go.Ev
namespace Go.Ev
noncomputable section
def Zf9:Sig:=[]
noncomputable def ZsA:Tbl:=[]
theorem ZIu:∀p∈ZsA,EntOK Go.Proofs.Tryz.prog p.1 p.2:=Zt
noncomputable def Zot:Code:=Go.Proofs.Tryz.f35.body.getD .skip
def ZqY:Tb:=[]
def ZAD:Empty→JT Empty (El Zc):=fun j=>nomatch j
def ZxQ:JT Empty (El Zc):=.leaf ([((bs [120]),((1:Int),[])),((bs [121]),((1:Int),[]))],[[((1:Int),(false,((0:Int),(((3:Int),((0:Int),((0:Int),(0:Int)))),(((2:Int),((0:Int),((0:Int),(1:Int)))),((bs []),[])))))),((1:Int),(false,((0:Int),(((1:Int),((0:Int),((0:Int),(0:Int)))),(((3:Int),((0:Int),((1:Int),(0:Int)))),((bs []),[])))))),((14:Int),(false,((0:Int),(((0:Int),((0:Int),((0:Int),(0:Int)))),(((0:Int),((0:Int),((0:Int),(0:Int)))),((bs []),[]))))))],[((1:Int),(false,((0:Int),(((3:Int),((0:Int),((1:Int),(0:Int)))),(((2:Int),((0:Int),((0:Int),(1:Int)))),((bs []),[])))))),((1:Int),(false,((0:Int),(((1:Int),((0:Int),((0:Int),(0:Int)))),(((3:Int),((0:Int),((0:Int),(0:Int)))),((bs []),[])))))),((14:Int),(false,((0:Int),(((0:Int),((0:Int),((0:Int),(0:Int)))),(((0:Int),((0:Int),((0:Int),(0:Int)))),((bs []),[]))))))]])
def Zk:El Zc:=([((bs [120]),((1:Int),[])),((bs [121]),((1:Int),[]))],[[((1:Int),(false,((0:Int),(((3:Int),((0:Int),((0:Int),(0:Int)))),(((2:Int),((0:Int),((0:Int),(1:Int)))),((bs []),[])))))),((1:Int),(false,((0:Int),(((1:Int),((0:Int),((0:Int),(0:Int)))),(((3:Int),((0:Int),((1:Int),(0:Int)))),((bs []),[])))))),((14:Int),(false,((0:Int),(((0:Int),((0:Int),((0:Int),(0:Int)))),(((0:Int),((0:Int),((0:Int),(0:Int)))),((bs []),[]))))))],[((1:Int),(false,((0:Int),(((3:Int),((0:Int),((1:Int),(0:Int)))),(((2:Int),((0:Int),((0:Int),(1:Int)))),((bs []),[])))))),((1:Int),(false,((0:Int),(((1:Int),((0:Int),((0:Int),(0:Int)))),(((3:Int),((0:Int),((0:Int),(0:Int)))),((bs []),[])))))),((14:Int),(false,((0:Int),(((0:Int),((0:Int),((0:Int),(0:Int)))),(((0:Int),((0:Int),((0:Int),(0:Int)))),((bs []),[]))))))]])
theorem ZJG:Goes (ZAD) (ZxQ) (Zk):=Goes.leaf
def Znj:El Zc→AV:=fun (r:El Zc)=>.ag [.rw 38 Zy r.1,.rw 42 (.sl Za) r.2]
def Zfp:Empty→Nat×St:=fun j=>nomatch j
theorem ZHo (L:Lt):entryA Go.Proofs.Tryz.prog (clOf ZsA) ZqY Go.Proofs.Tryz.f35 Zot L (toForms Zf9 (()))=(ZxQ).run (fun v=>some (Znj v,tps (toForms Zf9 (())))) fun j=>L (Zfp j).1 (Zfp j).2:=by kernel_rfl
theorem ZG6:∀(L:Lt) (j:Empty),procOf (procsF Go.Proofs.Tryz.prog (clOf ZsA) ZqY Go.Proofs.Tryz.f35 Zot (toForms Zf9 (()))) (Zfp j).1 L (Zfp j).2=(ZAD j).run (fun v=>some (Znj v,tps (toForms Zf9 (())))) fun j=>L (Zfp j).1 (Zfp j).2:=fun L j=>nomatch j
noncomputable def ZAG:Run:=entT Zf9 Znj (fun a=>Zk)
theorem ZHx:EntOK Go.Proofs.Tryz.prog 35 ZAG:=Zav (tb:=ZqY) (c:=Zot) ZIu (by kernel_rfl) (by kernel_rfl) (by kernel_rfl) (fun a=>by kernel_rfl) fun _=>Zm (c:=Zot) (K:=fun v=>(Znj v,tps (toForms Zf9 (())))) (S:=Zfp) (by kernel_rfl) (ZHo) (ZG6) (ZJG)
end
end Go.Ev
end

section
open Go Go.Ev
namespace Go.Ev
noncomputable section
def Zew:Sig:=[]
noncomputable def Zsd:Tbl:=[(35,ZAG),(12,Ztl),(5,ZiJ),(36,ZAL),(6,ZwF),(15,ZBL)]
theorem ZED:∀p∈Zsd,EntOK Go.Proofs.Tryz.prog p.1 p.2:=Zg ZHx (Zg ZyR (Zg ZkJ (Zg ZHJ (Zg ZAJ (Zg ZFP (Zt))))))
noncomputable def Zlr:Code:=Go.Proofs.Tryz.f17.body.getD .skip
def Zpc:Tb:=[]
def Zyg:Empty→JT Empty (Bool):=fun j=>nomatch j
def ZvS:JT Empty (Bool):=.br (ZdD Zk (0:Int)) (.br (Z0 (ZaS Zk (0:Int)) [(1:Int)]) (.br (ZP (ZaS Zk (0:Int)) [(1:Int)]) (.br (Zbi Zk (0:Int) [(1:Int)]) (.br (Za4 Zk (0:Int) [(1:Int)]) (.br (Zbi Zk (0:Int) []) (.br (! (Za4 Zk (0:Int) [])) (.br (Zfh Zk (1:Int)) (.br (Z0 (ZaQ Zk (1:Int)) [(1:Int)]) (.br (ZP (ZaQ Zk (1:Int)) [(1:Int)]) (.br (Zkg Zk) (.br ((Int.ofNat (List.length (ZbW Zk)))==(2:Int)) (.br (Zbi Zk (2:Int) []) (.leaf (! (Za4 Zk (2:Int) []))) (.no)) (.leaf false)) (.no)) (.leaf false)) (.no)) (.no)) (.leaf false)) (.no)) (.leaf false)) (.no)) (.leaf false)) (.no)) (.no)
def Ziv:Bool:=bif (ZdD Zk (0:Int)) then bif (Z0 (ZaS Zk (0:Int)) [(1:Int)]) then bif (ZP (ZaS Zk (0:Int)) [(1:Int)]) then bif (Zbi Zk (0:Int) [(1:Int)]) then bif (Za4 Zk (0:Int) [(1:Int)]) then bif (Zbi Zk (0:Int) []) then bif (! (Za4 Zk (0:Int) [])) then bif (Zfh Zk (1:Int)) then bif (Z0 (ZaQ Zk (1:Int)) [(1:Int)]) then bif (ZP (ZaQ Zk (1:Int)) [(1:Int)]) then bif (Zkg Zk) then bif ((Int.ofNat (List.length (ZbW Zk)))==(2:Int)) then bif (Zbi Zk (2:Int) []) then (! (Za4 Zk (2:Int) [])) else false else false else false else false else false else false else false else false else false else false else false else false else false
def Zis:Bool:=bif (ZdD Zk (0:Int)) then bif (Z0 (ZaS Zk (0:Int)) [(1:Int)]) then bif (ZP (ZaS Zk (0:Int)) [(1:Int)]) then bif (Zbi Zk (0:Int) [(1:Int)]) then bif (Za4 Zk (0:Int) [(1:Int)]) then bif (Zbi Zk (0:Int) []) then bif (! (Za4 Zk (0:Int) [])) then bif (Zfh Zk (1:Int)) then bif (Z0 (ZaQ Zk (1:Int)) [(1:Int)]) then bif (ZP (ZaQ Zk (1:Int)) [(1:Int)]) then bif (Zkg Zk) then bif ((Int.ofNat (List.length (ZbW Zk)))==(2:Int)) then bif (Zbi Zk (2:Int) []) then true else false else true else false else true else false else false else true else false else true else false else true else false else false
theorem ZIF (hk:Zis=true):Goes (Zyg) (ZvS) (Ziv):=Goes.brk hk (fun hk=>Goes.brk hk (fun hk=>Goes.brk hk (fun hk=>Goes.brk hk (fun hk=>Goes.brk hk (fun hk=>Goes.brk hk (fun hk=>Goes.brk hk (fun hk=>Goes.brk hk (fun hk=>Goes.brk hk (fun hk=>Goes.brk hk (fun hk=>Goes.brk hk (fun hk=>Goes.brk hk (fun hk=>Goes.brk hk (fun hk=>Goes.leaf) (fun hk=>Goes.nok hk)) (fun hk=>Goes.leaf)) (fun hk=>Goes.nok hk)) (fun hk=>Goes.leaf)) (fun hk=>Goes.nok hk)) (fun hk=>Goes.nok hk)) (fun hk=>Goes.leaf)) (fun hk=>Goes.nok hk)) (fun hk=>Goes.leaf)) (fun hk=>Goes.nok hk)) (fun hk=>Goes.leaf)) (fun hk=>Goes.nok hk)) (fun hk=>Goes.nok hk)
def Zk4:Bool→AV:=fun (r:Bool)=>.d .bool r
def ZdJ:Empty→Nat×St:=fun j=>nomatch j
theorem ZEn (L:Lt):entryA Go.Proofs.Tryz.prog (clOf Zsd) Zpc Go.Proofs.Tryz.f17 Zlr L (toForms Zew (()))=(ZvS).run (fun v=>some (Zk4 v,tps (toForms Zew (())))) fun j=>L (ZdJ j).1 (ZdJ j).2:=by kernel_rfl
theorem ZE7:∀(L:Lt) (j:Empty),procOf (procsF Go.Proofs.Tryz.prog (clOf Zsd) Zpc Go.Proofs.Tryz.f17 Zlr (toForms Zew (()))) (ZdJ j).1 L (ZdJ j).2=(Zyg j).run (fun v=>some (Zk4 v,tps (toForms Zew (())))) fun j=>L (ZdJ j).1 (ZdJ j).2:=fun L j=>nomatch j
noncomputable def ZxP:Run:=entG Zew Zk4 (fun a=>Zis) (fun a=>Ziv)
theorem ZEf:EntOK Go.Proofs.Tryz.prog 17 ZxP:=ZH (tb:=Zpc) (c:=Zlr) ZED (by kernel_rfl) (by kernel_rfl) (by kernel_rfl) (fun a=>by kernel_rfl) fun _ hk=>Zm (c:=Zlr) (K:=fun v=>(Zk4 v,tps (toForms Zew (())))) (S:=ZdJ) (by kernel_rfl) (ZEn) (ZE7) (ZIF hk)
end
end Go.Ev
end

section
open Go Go.Ev
namespace Go.Ev
noncomputable section
def Zai:Sig:=[(false,(.sl (.sl Zs)))]
noncomputable def ZkR:Tbl:=[(4,ZDw),(6,ZwF),(7,Zub),(5,ZiJ),(8,ZB0),(9,ZuA),(10,ZAc),(11,Zp6),(12,Ztl),(13,Zri),(15,ZBL),(16,ZFD),(14,Zst),(17,ZxP)]
theorem ZzA:∀p∈ZkR,EntOK Go.Proofs.Tryz.prog p.1 p.2:=Zg ZK0 (Zg ZAJ (Zg Zxl (Zg ZkJ (Zg ZK7 (Zg Zyy (Zg ZGZ (Zg ZvV (Zg ZyR (Zg ZvD (Zg ZFP (Zg ZM0 (Zg ZyW (Zg ZEf (Zt))))))))))))))
noncomputable def ZgZ:Code:=Go.Proofs.Tryz.f3.body.getD .skip
def ZpG:Tb:=[(4,⟨[3,4],[(10000000000000000000000000000000000000000000000000000000000004,1)]⟩)]
inductive Zem where | l4 (t:Int)
def Zej (l:List (List (El Zs))):Zem→JT Zem (Bool) |.l4 t=>.br (decide (t≤(Int.ofNat (List.length (Zv l (3:Int) (6:Int)).2)))) (.br (Zfh (Zv l (3:Int) (6:Int)) t) (.br (Zh1 (Zv l (3:Int) (6:Int)) t) (.br (Z0 (ZaQ (Zv l (3:Int) (6:Int)) t) (Za3 (Zv l (3:Int) (6:Int)) t)) (.br (! (ZP (ZaQ (Zv l (3:Int) (6:Int)) t) (Za3 (Zv l (3:Int) (6:Int)) t))) (.leaf false) (.br (Zp1 (Zv l (3:Int) (6:Int)) t) (.br (Zig (Zv l (3:Int) (6:Int)) t) (.br (Z0 (Zeb (Zv l (3:Int) (6:Int)) t) (Za5 (Zv l (3:Int) (6:Int)) t)) (.br (! (ZP (Zeb (Zv l (3:Int) (6:Int)) t) (Za5 (Zv l (3:Int) (6:Int)) t))) (.leaf false) (.br (Zkp (Zv l (3:Int) (6:Int)) t) (.br (Zgx (Zv l (3:Int) (6:Int)) t) (.br (Z0 (ZdG (Zv l (3:Int) (6:Int)) t) (ZaM (Zv l (3:Int) (6:Int)) t)) (.br (! (ZP (ZdG (Zv l (3:Int) (6:Int)) t) (ZaM (Zv l (3:Int) (6:Int)) t))) (.leaf false) (.br (ZdD (Zv l (3:Int) (6:Int)) t) (.br (Zgi (Zv l (3:Int) (6:Int)) t) (.br (Z0 (ZaS (Zv l (3:Int) (6:Int)) t) (ZaW (Zv l (3:Int) (6:Int)) t)) (.br (! (ZP (ZaS (Zv l (3:Int) (6:Int)) t) (ZaW (Zv l (3:Int) (6:Int)) t))) (.leaf false) (.jmp (.l4 (IntKind.i64.wrap (t+(1:Int)))))) (.no)) (.no)) (.no))) (.no)) (.no)) (.no))) (.no)) (.no)) (.no))) (.no)) (.no)) (.no)) (.br (Zkg (Zv l (3:Int) (6:Int))) (.br (Zu0 (Zv l (3:Int) (6:Int))) (.br (ZcH (ZbW (Zv l (3:Int) (6:Int))) (ZjB (Zv l (3:Int) (6:Int)))) (.br (Zei (ZbW (Zv l (3:Int) (6:Int))) (ZjB (Zv l (3:Int) (6:Int)))) (.br Zis (.leaf Ziv) (.no)) (.leaf false)) (.no)) (.no)) (.no))
def Zjm (l:List (List (El Zs))):JT Zem (Bool):=.br (Ze9 l (3:Int) (6:Int)) (.jmp (.l4 (-1:Int))) (.no)
def Zg3:Bool→AV:=fun (r:Bool)=>.d .bool r
def Zcc (l:List (List (El Zs))):Zem→Nat×St |.l4 t=>(4,⟨mkTm 60 [(3,.pt 4 0 0),(4,.d (.int .i64) t)],[(4,0,.box 26 [.own 4097 0 none,.own 4098 0 none] none),(4097,0,.row 38 Zy (Zv l (3:Int) (6:Int)).1 true),(4098,0,.row 42 (.sl Za) (Zv l (3:Int) (6:Int)).2 true)]⟩)
theorem Zzf (l:List (List (El Zs))) (L:Lt):entryA Go.Proofs.Tryz.prog (clOf ZkR) ZpG Go.Proofs.Tryz.f3 ZgZ L (toForms Zai (l,()))=(Zjm l).run (fun v=>some (Zg3 v,tps (toForms Zai (l,())))) fun j=>L (Zcc l j).1 (Zcc l j).2:=by kernel_rfl
theorem Zy1 (l:List (List (El Zs))):∀(L:Lt) (j:Zem),procOf (procsF Go.Proofs.Tryz.prog (clOf ZkR) ZpG Go.Proofs.Tryz.f3 ZgZ (toForms Zai (l,()))) (Zcc l j).1 L (Zcc l j).2=(Zej l j).run (fun v=>some (Zg3 v,tps (toForms Zai (l,())))) fun j=>L (Zcc l j).1 (Zcc l j).2 | L,.l4 t=>by kernel_rfl
end
end Go.Ev
end

section
namespace Go.Ev
open Go
theorem ZP9 {l:List (List (El Za))} {n:Nat} (h:∀t∈l,List.length t≤n):total l≤n*l.length:=by
 unfold total
 induction l with
 | nil=>simp
 | cons t l ih=>
  rw[List.map_cons,List.sum_cons,List.length_cons,Nat.mul_add,Nat.mul_one]
  have h1:=h t (List.mem_cons_self ..)
  have h2:=ih fun x hx=>h x (List.mem_cons_of_mem _ hx)
  omega
theorem ZS1 {p:El Zc} :(ofC p).length≤2*total p.2:=by
 have:=ZIX 0 p.2
 unfold ofC
 split
 ·exact this
 ·simp
theorem ZRB (l:List (List (El Zs))) {threads many:Int} (h0:0≤threads) (h1:threads≤64) (m0:0≤many) (m1:many≤90):
  smallAll (Zv l threads many)=true∧(Zv l threads many).2.length≤threads.toNat∧(ofC (Zv l threads many)).length≤11648∧checkC (Zv l threads many)=0∧Ze9 l threads many=true:=by
 obtain ⟨hc,hs,hk⟩:=ZPw l h0 h1 m0 m1
 have hl:(Zv l threads many).2.length≤threads.toNat:=by
  show ((l.take threads.toNat).map fun a=>threadB a (min a.length many.toNat)).length≤_
  rw[List.length_map,List.length_take];omega
 have ht:=ZP9 (l:=(Zv l threads many).2) (n:=91) fun t hm=>by
  obtain ⟨a,_,rfl⟩:=List.mem_map.1 (show t∈(l.take threads.toNat).map fun a=>threadB a (min a.length many.toNat) from hm)
  show (threadB a _).length≤91
  unfold threadB
  rw[Zcz,ZtW a _ (by omega)]
  omega
 have ho:= @ZS1 (Zv l threads many)
 refine ⟨?_,hl,by omega,hc,hk⟩
 unfold smallAll
 simp only[Bool.and_eq_true,decide_eq_true_eq]
 exact ⟨hs,by omega,by omega⟩
end Go.Ev
end

section
namespace Go.Ev
open Go
theorem ZRb (l:List (List (El Zs))) {threads many:Int} (h0:0≤threads) (h1:threads≤64) (m0:0≤many) (m1:many≤90):cutOK (Zv l threads many)=true∧checkC (Zv l threads many)=0∧Ze9 l threads many=true:=by
 obtain ⟨a1,a2,a3,a4,a5⟩:=ZRB l h0 h1 m0 m1
 refine ⟨?_,a4,a5⟩
 unfold cutOK
 rw[a1,decide_eq_true (show (ofC (Zv l threads many)).length≤20000 by omega),decide_eq_true (show (Zv l threads many).2.length≤100 by omega)]
 rfl
end Go.Ev
end

section
open Go
namespace Go.Ev
def bothPairs:List PairD:=[((0:Int),((0:Int),(1:Int))),((1:Int),((0:Int),(1:Int)))]
theorem alive25:Zis=true∧Ziv=true:=by
 obtain ⟨p,hp⟩:∃p,Zk=p:=⟨_,rfl⟩
 have hs:cutOK Zk=true:=by decide+kernel
 have hF:=ZfT hs
 have vp:Zl Zk=bothPairs:=by
  rw[←hF.eq,ZRw]
  decide+kernel
 have op:∀x:El Zd,x∈Zx Zk→openB Zk x=(decide (0≤x.2.2∧x.2.2 < ((List.getD Zk.2 (Int.toNat x.1) (dflt (.sl Za))).length:Int))&&endsX (List.getD Zk.2 (Int.toNat x.1) (dflt (.sl Za))) [] x.2.1 x.2.2.toNat):=fun x hx=>by
  obtain ⟨s,r,h1,h2,_,_,rfl⟩:=ZBF hx
  obtain ⟨_,_,hf,_⟩:=ZgK hF.small h1
  have hf':flowOK (List.getD Zk.2 (Int.toNat (delPair (ofC Zk) s r).1) (dflt (.sl Za)))=true:=hf
  obtain ⟨_,_,_,f4⟩:=ZGk hf' (points:=[]) (by decide) (delPair (ofC Zk) s r).2.1 (delPair (ofC Zk) s r).2.2
  unfold openB
  rw[f4,ZN7]
 have vo:Zn Zk=bothPairs:=by
  unfold Zn
  rw[hF.eq,vp] at op
  rw[vp,List.filter_congr op]
  decide+kernel
 have r0:rightT Zk 0=true:=by decide+kernel
 have r1:rightT Zk 1=true:=by decide+kernel
 have r2:rightT Zk 2=false:=by decide+kernel
 have c0:checkC Zk=0:=by decide+kernel
 have a0:allT Zk 0=[((0:Int),((0:Int),(1:Int)))]:=by unfold allT;rw[vp];decide+kernel
 have o0:opT Zk 0=[((0:Int),((0:Int),(1:Int)))]:=by unfold opT;rw[vo];decide+kernel
 have o1:opT Zk 1=[((1:Int),((0:Int),(1:Int)))]:=by unfold opT;rw[vo];decide+kernel
 obtain ⟨kP,vP⟩:=ZFs hF 0
 rw[if_pos r0,a0,o0,ZSm] at vP
 have vP:ZaS Zk 0=[1]:=by rw[vP];decide+kernel
 obtain ⟨kC,vC⟩:=Zzt hF 0 (pts:=[1]) (by decide)
 rw[r0,a0,ZSm] at vC
 have vC:Za4 Zk 0 [1]=true:=by rw[vC];decide+kernel
 obtain ⟨kN,vN⟩:=Zzt hF 0 (pts:=[]) (by decide)
 rw[r0,a0,ZSm] at vN
 have vN:Za4 Zk 0 []=false:=by rw[vN];decide+kernel
 obtain ⟨kM,vM⟩:=Zzt hF 2 (pts:=[]) (by decide)
 rw[r2,Bool.false_and] at vM
 have kA:Zfh Zk 1=true:=hs
 have vA:ZaQ Zk 1=[1]:=by
  unfold ZaQ
  rw[if_pos r1,o1]
  decide+kernel
 have kL:Zkg Zk=true:=hs
 have vL:(ZbW Zk).length=2:=by
  unfold ZbW
  rw[if_pos c0,List.length_map,List.length_range]
  decide+kernel
 have e1:Z0 [1] [(1:Int)]=true:=by decide
 have e2:ZP [1] [(1:Int)]=true:=by decide
 unfold Zis Ziv
 simp only[kP,vP,kC,vC,kN,vN,kM,vM,kA,vA,kL,vL,e1,e2]
 exact ⟨by decide,by decide⟩
end Go.Ev
end

section
open Go
namespace Go.Ev
def ZkP (l:List (List (El Zs))):Bool:=true
def Zsp (l:List (List (El Zs))):Bool:=true
theorem ZIv {c:Prop} [Decidable c] {a:List Int} {n:Nat} (h:a.length≤n):(if c then a else []).length≤n:=by
 split
 ·exact h
 ·simp
theorem ZA9 (l:List (List (El Zs))) (hk:Zsp l=true):Goes (Zej l) (Zjm l) (ZkP l):=by
 obtain ⟨ka,va⟩:=alive25
 obtain ⟨hc,hch,hkb⟩:=ZRb l (threads:=3) (many:=6) (by decide) (by decide) (by decide) (by decide)
 have hF:=ZfT hc
 unfold Zjm ZkP
 rw[Ze,if_pos hkb]
 obtain ⟨p,hp⟩:∃p,Zv l 3 6=p:=⟨_,rfl⟩
 rw[hp] at hc hch hF
 have hT:=hF.thr
 have loop:∀s,s≤p.2.length+2→Goes (Zej l) (.jmp (.l4 ((s:Int) - 1))) true:=by
  refine down ?_ fun s hs ih=>?_
  ·have kca:Zkg p=true:=hc
   have kra:Zu0 p=true:=hc
   have he:ZjB p=ZbW p:=by
    unfold ZjB ZbW
    rw[if_pos hch,if_pos hch]
    refine List.map_congr_left fun t ht=>?_
    have hr:rightT p (t:Int)=true:=by
     have:=List.mem_range.1 ht
     unfold rightT
     rw[decide_eq_true (show (0:Int)≤(t:Int) by omega),decide_eq_true (show (t:Int) < (p.2.length:Int) by omega),decide_eq_true hch];rfl
    rw[Zx1 hF,if_pos hr]
    rfl
   have ks:ZcH (ZbW p) (ZbW p)=true:=by
    unfold ZcH ZbW
    rw[if_pos hch,Bool.and_eq_true,decide_eq_true_eq]
    refine ⟨by rw[List.length_map,List.length_range];omega,List.all_eq_true.2 fun x hx=>?_⟩
    obtain ⟨t,_,rfl⟩:=List.mem_map.1 hx
    have h1:(ZbA p (t:Int) (Zl p) (Zn p)).length≤(opT p (t:Int)).length:=ZAO _ _ _ _
    have h2:=Zrj hF (t:Int)
    exact decide_eq_true (by omega)
   have vs:Zei (ZbW p) (ZbW p)=true:=decide_eq_true rfl
   rw[Zh,Zej,hp,Ze,if_neg (by
    rw[decide_eq_false (show ¬(((p.2.length+2:Nat):Int) - 1≤Int.ofNat p.2.length) by simp only[Int.ofNat_eq_natCast];omega)]
    decide),Ze,if_pos kca,Ze,if_pos kra,he,Ze,if_pos ks,Ze,if_pos vs,Ze,if_pos ka,va]
   exact .leaf
  ·obtain ⟨t,ht⟩:∃t:Int,(s:Int) - 1=t:=⟨_,rfl⟩
   have hw:IntKind.i64.wrap (t+1)=((s+1:Nat):Int) - 1:=by
    rw[←ht,wrap_i64 (by omega) (by omega)]
    omega
   have hle:decide (t≤Int.ofNat p.2.length)=true:=decide_eq_true (by simp only[Int.ofNat_eq_natCast];omega)
   have hN:=Zrj hF t
   have c1:Zfh p t=true:=hc
   have c2:Zp1 p t=true:=hc
   have d1:Zh1 p t=true:=hc
   have d2:Zig p t=true:=hc
   have d3:Zgx p t=true:=hc
   have d4:Zgi p t=true:=hc
   obtain ⟨c3,v3⟩:=ZOQ hF t
   obtain ⟨c4,v4⟩:=ZFs hF t
   have e1:Za3 p t=ZaQ p t:=by
    unfold Za3 ZaQ
    cases hr:rightT p t with
    | true=>rw[if_pos rfl]
    | false=>rw[ZQQ hF hr];rfl
   have e2:Za5 p t=Zeb p t:=by
    unfold Za5 Zeb
    cases hr:rightT p t with
    | true=>rw[if_pos rfl]
    | false=>rw[ZQQ hF hr];rfl
   have e3:ZaM p t=ZdG p t:=by
    rw[v3]
    unfold ZaM
    cases hr:rightT p t with
    | true=>rw[if_pos rfl,if_pos rfl];exact ZCI (ZBR hF hr)
    | false=>rfl
   have e4:ZaW p t=ZaS p t:=by rw[v4,Zx1 hF]
   have same:∀a:List Int,a.length≤400000000→Z0 a a=true∧ZP a a=true:=fun a h=>⟨decide_eq_true (by omega),decide_eq_true rfl⟩
   obtain ⟨q1,w1⟩:=same (ZaQ p t) (by unfold ZaQ;exact ZIv (Nat.le_trans (Zm4 _) (by rw[List.length_map];exact hN)))
   obtain ⟨q2,w2⟩:=same (Zeb p t) (by unfold Zeb;exact ZIv (Nat.le_trans (Zm4 _) (by rw[List.length_map];exact hN)))
   obtain ⟨q3,w3⟩:=same (ZdG p t) (by rw[v3];exact ZIv (Nat.le_trans (ZJ5 _ _ _) hN))
   obtain ⟨q4,w4⟩:=same (ZaS p t) (by rw[v4];exact ZIv (Nat.le_trans (ZAO _ _ _ _) hN))
   rw[ht,Zh,Zej,hp,Ze,if_pos hle,Ze,if_pos c1,Ze,if_pos d1,e1,Ze,if_pos q1,Ze,if_neg (by rw[w1];decide),Ze,if_pos c2,Ze,if_pos d2,e2,Ze,if_pos q2,Ze,if_neg (by rw[w2];decide),Ze,if_pos c3,Ze,if_pos d3,e3,Ze,if_pos q3,Ze,if_neg (by rw[w3];decide),Ze,if_pos c4,Ze,if_pos d4,e4,Ze,if_pos q4,Ze,if_neg (by rw[w4];decide),hw]
   exact ih
 exact loop 0 (Nat.zero_le _)
end Go.Ev
end

section
open Go Go.Ev
namespace Go.Ev
noncomputable section
theorem Zzn (l:List (List (El Zs))) (hk:Zsp l=true):CallOK Go.Proofs.Tryz.prog 3 (toForms Zai (l,())) (Zg3 (ZkP l),tps (toForms Zai (l,()))):=by
 obtain ⟨h1,h2⟩:=ZqZ ZzA
 obtain ⟨n,hn⟩:=Zm (c:=ZgZ) (K:=fun v=>(Zg3 v,tps (toForms Zai (l,())))) (S:=Zcc l) (by kernel_rfl) (Zzf l) (Zy1 l) (ZA9 l hk)
 exact ZyB (f:=3) (c:=ZgZ) h1 h2 (by kernel_rfl) (by kernel_rfl) (by kernel_rfl) hn
end
end Go.Ev
end

section
namespace Go.Ev
open Go
theorem Zv8 (a:Args Zai) (ha:smallArgs Zai a):CallOK Go.Proofs.Tryz.prog ZyC (toForms Zai a) (.d .bool true,tps (toForms Zai a)):=by
 obtain ⟨l,_⟩:=a
 exact Zzn l rfl
end Go.Ev
end

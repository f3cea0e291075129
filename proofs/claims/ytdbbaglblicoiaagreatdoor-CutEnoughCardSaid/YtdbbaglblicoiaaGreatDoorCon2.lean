/- Part of the proof of: The points that are chosen cut all delays; so do those of each way: for every input the law answers true. -/
import Derived.Test.YtdbbaglblicoiaaGreatDoorCon1
set_option maxRecDepth 100000
set_option linter.unusedSectionVars false
set_option linter.unusedVariables false
set_option linter.unusedSimpArgs false
section
open Go Go.Ev
namespace Go.Ev
noncomputable section
def Zeo:Sig:=[(true,Za)]
noncomputable def ZpI:Tbl:=[(100,Zcg),(105,ZhH)]
theorem ZBw:∀p∈ZpI,EntOK Go.Proofs.Tryz.prog p.1 p.2:=Zg Zcs (Zg Zi1 (Zv))
noncomputable def Zkc:Code:=Go.Proofs.Tryz.f73.body.getD .skip
def ZnR:Tb:=[]
def Zv3 (i:El Za):Empty→JT Empty ((El Zh)×Bool):=fun j=>nomatch j
def Zub (i:El Za):JT Empty ((El Zh)×Bool):=.br (ZC i) (.br ((ZA i) !=(0:Int)) (.leaf (((0:Int),((0:Int),((0:Int),(0:Int)))),false)) (.br (decide (i.1 > (9:Int))) (.leaf (((0:Int),((0:Int),((0:Int),(0:Int)))),false)) (.br (i.1==(7:Int)) (.leaf (((0:Int),((0:Int),((0:Int),(0:Int)))),false)) (.br (! (ZE i.2.2.2.1)) (.leaf (((0:Int),((0:Int),((0:Int),(0:Int)))),false)) (.leaf (i.2.2.2.1,true)))))) (.no)
def ZcK (i:El Za):(El Zh)×Bool:=bif (ZC i) then bif ((ZA i) !=(0:Int)) then (((0:Int),((0:Int),((0:Int),(0:Int)))),false) else bif (decide (i.1 > (9:Int))) then (((0:Int),((0:Int),((0:Int),(0:Int)))),false) else bif (i.1==(7:Int)) then (((0:Int),((0:Int),((0:Int),(0:Int)))),false) else bif (! (ZE i.2.2.2.1)) then (((0:Int),((0:Int),((0:Int),(0:Int)))),false) else (i.2.2.2.1,true) else (((0:Int),((0:Int),((0:Int),(0:Int)))),false)
def Zii (i:El Za):Bool:=bif (ZC i) then bif ((ZA i) !=(0:Int)) then true else bif (decide (i.1 > (9:Int))) then true else bif (i.1==(7:Int)) then true else bif (! (ZE i.2.2.2.1)) then true else true else false
theorem ZEX (i:El Za) (hk:Zii i=true):Goes (Zv3 i) (Zub i) (ZcK i):=Goes.brk hk (fun hk=>Goes.brk hk (fun hk=>Goes.leaf) (fun hk=>Goes.brk hk (fun hk=>Goes.leaf) (fun hk=>Goes.brk hk (fun hk=>Goes.leaf) (fun hk=>Goes.brk hk (fun hk=>Goes.leaf) (fun hk=>Goes.leaf))))) (fun hk=>Goes.nok hk)
def Zks:(El Zh)×Bool→AV:=fun (r:(El Zh)×Bool)=>.tu [.ag [.d (.int .i64) r.1.1,.d (.int .i64) r.1.2.1,.d (.int .i64) r.1.2.2.1,.d (.int .i64) r.1.2.2.2],.d .bool r.2]
def Zdy (i:El Za):Empty→Nat×St:=fun j=>nomatch j
theorem ZBX (i:El Za) (L:Lt):entryA Go.Proofs.Tryz.prog (clOf ZpI) ZnR Go.Proofs.Tryz.f73 Zkc L (toForms Zeo (i,()))=(Zub i).run (fun v=>some (Zks v,tps (toForms Zeo (i,())))) fun j=>L (Zdy i j).1 (Zdy i j).2:=by kernel_rfl
theorem ZBT (i:El Za):∀(L:Lt) (j:Empty),procOf (procsF Go.Proofs.Tryz.prog (clOf ZpI) ZnR Go.Proofs.Tryz.f73 Zkc (toForms Zeo (i,()))) (Zdy i j).1 L (Zdy i j).2=(Zv3 i j).run (fun v=>some (Zks v,tps (toForms Zeo (i,())))) fun j=>L (Zdy i j).1 (Zdy i j).2:=fun L j=>nomatch j
noncomputable def ZvS:Run:=entG Zeo Zks (fun a=>Zii a.1) (fun a=>ZcK a.1)
theorem ZB6:EntOK Go.Proofs.Tryz.prog 73 ZvS:=ZJ (tb:=ZnR) (c:=Zkc) ZBw (by kernel_rfl) (by kernel_rfl) (by kernel_rfl) (fun a=>by kernel_rfl) fun ⟨i,_⟩ hk=>Zn (c:=Zkc) (K:=fun v=>(Zks v,tps (toForms Zeo (i,())))) (S:=Zdy i) (by kernel_rfl) (ZBX i) (ZBT i) (ZEX i hk)
end
end Go.Ev
end

section
open Go Go.Ev
namespace Go.Ev
noncomputable section
def Zd9:Sig:=[(true,Za)]
noncomputable def Zqf:Tbl:=[(100,Zcg)]
theorem ZBU:∀p∈Zqf,EntOK Go.Proofs.Tryz.prog p.1 p.2:=Zg Zcs (Zv)
noncomputable def Zkn:Code:=Go.Proofs.Tryz.f74.body.getD .skip
def Zn4:Tb:=[]
def ZwE (i:El Za):Empty→JT Empty (Bool):=fun j=>nomatch j
def ZtY (i:El Za):JT Empty (Bool):=.br (ZC i) (.br ((ZA i)==(0:Int)) (.br (i.1==(8:Int)) (.leaf true) (.leaf i.2.1)) (.leaf false)) (.no)
def ZaA (i:El Za):Bool:=bif (ZC i) then bif ((ZA i)==(0:Int)) then bif (i.1==(8:Int)) then true else i.2.1 else false else false
def Zaj (i:El Za):Bool:=bif (ZC i) then bif ((ZA i)==(0:Int)) then bif (i.1==(8:Int)) then true else true else true else false
theorem ZF9 (i:El Za) (hk:Zaj i=true):Goes (ZwE i) (ZtY i) (ZaA i):=Goes.brk hk (fun hk=>Goes.brk hk (fun hk=>Goes.brk hk (fun hk=>Goes.leaf) (fun hk=>Goes.leaf)) (fun hk=>Goes.leaf)) (fun hk=>Goes.nok hk)
def Zj0:Bool→AV:=fun (r:Bool)=>.d .bool r
def ZdD (i:El Za):Empty→Nat×St:=fun j=>nomatch j
theorem ZCr (i:El Za) (L:Lt):entryA Go.Proofs.Tryz.prog (clOf Zqf) Zn4 Go.Proofs.Tryz.f74 Zkn L (toForms Zd9 (i,()))=(ZtY i).run (fun v=>some (Zj0 v,tps (toForms Zd9 (i,())))) fun j=>L (ZdD i j).1 (ZdD i j).2:=by kernel_rfl
theorem ZBK (i:El Za):∀(L:Lt) (j:Empty),procOf (procsF Go.Proofs.Tryz.prog (clOf Zqf) Zn4 Go.Proofs.Tryz.f74 Zkn (toForms Zd9 (i,()))) (ZdD i j).1 L (ZdD i j).2=(ZwE i j).run (fun v=>some (Zj0 v,tps (toForms Zd9 (i,())))) fun j=>L (ZdD i j).1 (ZdD i j).2:=fun L j=>nomatch j
noncomputable def ZpT:Run:=entG Zd9 Zj0 (fun a=>Zaj a.1) (fun a=>ZaA a.1)
theorem ZtB:EntOK Go.Proofs.Tryz.prog 74 ZpT:=ZJ (tb:=Zn4) (c:=Zkn) ZBU (by kernel_rfl) (by kernel_rfl) (by kernel_rfl) (fun a=>by kernel_rfl) fun ⟨i,_⟩ hk=>Zn (c:=Zkn) (K:=fun v=>(Zj0 v,tps (toForms Zd9 (i,())))) (S:=ZdD i) (by kernel_rfl) (ZCr i) (ZBK i) (ZF9 i hk)
end
end Go.Ev
end

section
open Go Go.Ev
namespace Go.Ev
noncomputable section
def Zcz:Sig:=[(true,Zc)]
noncomputable def Zk5:Tbl:=[(48,Zsg),(72,Zx5),(73,ZvS),(74,ZpT)]
theorem Zy9:∀p∈Zk5,EntOK Go.Proofs.Tryz.prog p.1 p.2:=Zg Zvk (Zg ZFY (Zg ZB6 (Zg ZtB (Zv))))
noncomputable def ZhG:Code:=Go.Proofs.Tryz.f50.body.getD .skip
def ZjS:Tb:=[(7,⟨[1,3,4],[(4,152)]⟩),(12,⟨[1,3,4,5],[(4,152)]⟩),(hintK,⟨[],[(1,152)]⟩)]
inductive ZeU where | l7 (t:Int) (out:List (El Zb)) | l12 (i:Int) (out:List (El Zb)) (t:Int)
def Zbo (p:El Zc):ZeU→JT ZeU (List (El Zb)) |.l7 t out=>.br (decide (t < (Int.ofNat (List.length p.2)))) (.jmp (.l12 (0:Int) out t)) (.leaf out) |.l12 i out t=>.br ((decide ((0:Int)≤t))&&(decide (t < (Int.ofNat (List.length p.2))))) (.br (decide (i < (Int.ofNat (List.length (List.getD p.2 (Int.toNat t) (dflt (.sl Za))))))) (.br ((decide ((0:Int)≤t))&&(decide (t < (Int.ofNat (List.length p.2))))) (.br ((decide ((0:Int)≤i))&&(decide (i < (Int.ofNat (List.length (List.getD p.2 (Int.toNat t) (dflt (.sl Za)))))))) (.br (ZjC (List.getD (List.getD p.2 (Int.toNat t) (dflt (.sl Za))) (Int.toNat i) (dflt Za))) (.br (Zii (List.getD (List.getD p.2 (Int.toNat t) (dflt (.sl Za))) (Int.toNat i) (dflt Za))) (.br (Zdo (List.getD (List.getD p.2 (Int.toNat t) (dflt (.sl Za))) (Int.toNat i) (dflt Za))).2 (.br (Zaj (List.getD (List.getD p.2 (Int.toNat t) (dflt (.sl Za))) (Int.toNat i) (dflt Za))) (.br (Nat.ble (((List.length out)+1)*40) limit) (.br (ZcK (List.getD (List.getD p.2 (Int.toNat t) (dflt (.sl Za))) (Int.toNat i) (dflt Za))).2 (.br (Zaj (List.getD (List.getD p.2 (Int.toNat t) (dflt (.sl Za))) (Int.toNat i) (dflt Za))) (.br (Nat.ble (((List.length (out++[(t,(i,((0:Int),((Zdo (List.getD (List.getD p.2 (Int.toNat t) (dflt (.sl Za))) (Int.toNat i) (dflt Za))).1.2.2.1,(false,(ZaA (List.getD (List.getD p.2 (Int.toNat t) (dflt (.sl Za))) (Int.toNat i) (dflt Za))))))))]))+1)*40) limit) (.jmp (.l12 (IntKind.i64.wrap (i+(1:Int))) ((out++[(t,(i,((0:Int),((Zdo (List.getD (List.getD p.2 (Int.toNat t) (dflt (.sl Za))) (Int.toNat i) (dflt Za))).1.2.2.1,(false,(ZaA (List.getD (List.getD p.2 (Int.toNat t) (dflt (.sl Za))) (Int.toNat i) (dflt Za))))))))])++[(t,(i,((1:Int),((ZcK (List.getD (List.getD p.2 (Int.toNat t) (dflt (.sl Za))) (Int.toNat i) (dflt Za))).1.2.2.1,(true,(ZaA (List.getD (List.getD p.2 (Int.toNat t) (dflt (.sl Za))) (Int.toNat i) (dflt Za))))))))]) t)) (.no)) (.no)) (.jmp (.l12 (IntKind.i64.wrap (i+(1:Int))) (out++[(t,(i,((0:Int),((Zdo (List.getD (List.getD p.2 (Int.toNat t) (dflt (.sl Za))) (Int.toNat i) (dflt Za))).1.2.2.1,(false,(ZaA (List.getD (List.getD p.2 (Int.toNat t) (dflt (.sl Za))) (Int.toNat i) (dflt Za))))))))]) t))) (.no)) (.no)) (.br (ZcK (List.getD (List.getD p.2 (Int.toNat t) (dflt (.sl Za))) (Int.toNat i) (dflt Za))).2 (.br (Zaj (List.getD (List.getD p.2 (Int.toNat t) (dflt (.sl Za))) (Int.toNat i) (dflt Za))) (.br (Nat.ble (((List.length out)+1)*40) limit) (.jmp (.l12 (IntKind.i64.wrap (i+(1:Int))) (out++[(t,(i,((0:Int),((ZcK (List.getD (List.getD p.2 (Int.toNat t) (dflt (.sl Za))) (Int.toNat i) (dflt Za))).1.2.2.1,(true,(ZaA (List.getD (List.getD p.2 (Int.toNat t) (dflt (.sl Za))) (Int.toNat i) (dflt Za))))))))]) t)) (.no)) (.no)) (.jmp (.l12 (IntKind.i64.wrap (i+(1:Int))) out t)))) (.no)) (.no)) (.no)) (.no)) (.jmp (.l7 (IntKind.i64.wrap (t+(1:Int))) out))) (.no)
def ZjP (p:El Zc):JT ZeU (List (El Zb)):=.br (Zb5 p) (.br ((ZcE p) !=(0:Int)) (.leaf []) (.jmp (.l7 (0:Int) []))) (.no)
def Zia:List (El Zb)→AV:=fun (r:List (El Zb))=>.rw 84 Zb r
def Zcf (p:El Zc):ZeU→Nat×St |.l7 t out=>(7,⟨mkTm 76 [(1,.pt 2 0 0),(3,.own 4 0 none),(4,.d (.int .i64) t)],[(2,0,.box 27 [.d (.sl Zz) p.1,.d (.sl (.sl Za)) p.2] none),(4,0,.row 84 Zb out false)]⟩) |.l12 i out t=>(12,⟨mkTm 76 [(1,.pt 2 0 0),(3,.own 4 0 none),(4,.d (.int .i64) t),(5,.d (.int .i64) i)],[(2,0,.box 27 [.d (.sl Zz) p.1,.d (.sl (.sl Za)) p.2] none),(4,0,.row 84 Zb out false)]⟩)
theorem Zy8 (p:El Zc) (L:Lt):entryA Go.Proofs.Tryz.prog (clOf Zk5) ZjS Go.Proofs.Tryz.f50 ZhG L (toForms Zcz (p,()))=(ZjP p).run (fun v=>some (Zia v,tps (toForms Zcz (p,())))) fun j=>L (Zcf p j).1 (Zcf p j).2:=by kernel_rfl
theorem Zy3 (p:El Zc):∀(L:Lt) (j:ZeU),procOf (procsF Go.Proofs.Tryz.prog (clOf Zk5) ZjS Go.Proofs.Tryz.f50 ZhG (toForms Zcz (p,()))) (Zcf p j).1 L (Zcf p j).2=(Zbo p j).run (fun v=>some (Zia v,tps (toForms Zcz (p,())))) fun j=>L (Zcf p j).1 (Zcf p j).2 | L,.l7 t out=>by kernel_rfl | L,.l12 i out t=>by kernel_rfl
end
end Go.Ev
end

section
namespace Go.Ev
open Go
theorem ZQB {i:El Za} (h:smallText i.2.2.2.2.2.1=true):ZjC i=true∧Zii i=true∧Zaj i=true:=by
 have h0:ZC i=true:=h
 unfold ZjC Zii Zaj
 simp only[h0,cond_true,Bool.cond_self,and_self]
theorem ZPw {i:El Za} (h:smallText i.2.2.2.2.2.1=true):Zdo i=ZaI i:=by
 have h0:ZO i=true:=h
 have h1:ZC i=true:=h
 unfold Zdo ZaI ZA
 simp only[h0,h1,cond_true]
 by_cases hr:Zw i=0
 ·simp only[hr,bne_self_eq_false,cond_false]
  rcases nine i.1 with ⟨h9,e⟩ | ⟨h9,e⟩
  ·obtain ⟨a,b⟩:=ZN9 hr h9
   rw[a,b,e,cond_false]
  ·obtain ⟨a,b⟩:=ZEr hr h9
   rw[a,b,e]
   simp only[cond_true,cond_false]
 ·have e:(Zw i !=0)=true:=by simp[hr]
  simp only[e,cond_true]
theorem ZNq {i:El Za} (h:smallText i.2.2.2.2.2.1=true):ZcK i=Zak i:=by
 have h0:ZO i=true:=h
 have h1:ZC i=true:=h
 unfold ZcK Zak ZA
 simp only[h0,h1,cond_true]
 by_cases hr:Zw i=0
 ·simp only[hr,bne_self_eq_false,cond_false]
  rcases nine i.1 with ⟨h9,e⟩ | ⟨h9,e⟩
  ·obtain ⟨a,b⟩:=ZN9 hr h9
   rw[a,e,cond_false]
   cases ZE i.2.2.2.1 <;> simp only[Bool.not_true,Bool.not_false,cond_true,cond_false,Bool.cond_self]
  ·obtain ⟨a,b⟩:=ZEr hr h9
   rw[a,e]
   simp only[cond_true,Bool.not_false]
 ·have e:(Zw i !=0)=true:=by simp[hr]
  simp only[e,cond_true]
theorem ZM4 {i:El Za} (h:smallText i.2.2.2.2.2.1=true):ZaA i=Zal i:=by
 have h0:ZO i=true:=h
 have h1:ZC i=true:=h
 unfold ZaA Zal ZA
 simp only[h0,h1]
end Go.Ev
end

section
open Go
namespace Go.Ev
def Zu (p:El Zc):List (El Zb):=ofC p
def Zij (p:El Zc):Bool:=smallAll p
theorem ZAv (p:El Zc) (hk:Zij p=true):Goes (Zbo p) (ZjP p) (Zu p):=by
 have hA:=smallA hk
 obtain ⟨sy,th⟩:=p
 have hkc:Zb5 (sy,th)=true:=hA.prog
 have hlen:th.length < 1073741824:=hA.len
 have htot:total th < 1073741824:=hA.tot
 have main:∀k,k≤th.length→∀out:List (El Zb),out.length+2*total (th.drop k) < 4294967296→Goes (Zbo (sy,th)) (.jmp (.l7 (k:Int) out)) (out++accP k (th.drop k)):=by
  refine down ?_ fun k hk ih=>?_
  ·intro out ho
   rw[Zi]
   simp only[Zbo,Ze,Zx (Nat.lt_irrefl _),ZQ,List.drop_length]
   simp[accP]
  ·intro out ho
   rw[ZDb hk] at ho
   have hS:=smallT (hA.thr _ (List.getElem_mem hk))
   rw[Zi]
   simp only[Zbo,Ze,ZS hk,if_true]
   rw[ZP hk]
   unfold accP
   obtain ⟨x,hx0⟩:∃x,th[k]=x:=⟨_,rfl⟩
   rw[hx0] at ho hS ⊢
   have inner:∀j,j≤List.length x→∀out:List (El Zb),out.length+2*(List.length x - j)+2*total (th.drop (k+1)) < 4294967296→Goes (Zbo (sy,th)) (.jmp (.l12 (j:Int) out (k:Int))) (out++(accT k j (List.drop j x)++accP (k+1) (th.drop (k+1)))):=by
    refine down ?_ fun j hj ihj=>?_
    ·intro out ho
     rw[Zi]
     simp only[Zbo,Ze,ZS hk,nng,Bool.and_self,if_true,Int.toNat_natCast,ZG hk,hx0,Zx (Nat.lt_irrefl _),Zt (k:=k) (by omega),List.drop_length]
     have:=ih out (by omega)
     simpa[accT] using this
    ·intro out ho
     have hto:=hS.to _ (List.getElem_mem hj)
     obtain ⟨a1,a2,a4⟩:=ZQB hto
     have hx:List.length x < 1099511627776:=hS.len
     rw[Zi]
     have b1:Nat.ble ((out.length+1)*40) limit=true:=ble40 (by omega)
     have b2:∀y:El Zb,Nat.ble (((out++[y]).length+1)*40) limit=true:=fun y=>ble40 (by rw[List.length_append];simp;omega)
     simp only[Zbo,Ze,ZS hk,ZG hk,hx0,ZS hj,nng,Bool.and_self,if_true,Int.toNat_natCast,ZG hj,Zt (k:=j) (by omega),a1,a2,a4,b1,b2,ZPw hto,ZNq hto,ZM4 hto]
     rw[ZP hj]
     unfold accT accI
     have hs:∀y:List (El Zb),y.length≤2→Goes (Zbo (sy,th)) (.jmp (.l12 ((j+1:Nat):Int) (out++y) (k:Int))) (out++((y++accT k (j+1) (List.drop (j+1) x))++accP (k+1) (th.drop (k+1)))):=fun y hy=>by
      have:=ihj (out++y) (by rw[List.length_append];omega)
      rw[List.append_assoc] at this
      rw[List.append_assoc]
      exact this
     by_cases hr:(ZaI x[j]).2=true <;> by_cases hw:(Zak x[j]).2=true
     ·simp only[hr,hw,if_true]
      rw[List.append_assoc out]
      exact hs _ (by simp)
     ·simp only[hr,hw,if_true,if_false]
      exact hs _ (by simp)
     ·simp only[hr,hw,if_true,if_false]
      exact hs _ (by simp)
     ·simp only[hr,hw,if_false]
      have:=hs [] (by simp)
      rw[List.append_nil] at this
      exact this
   exact inner 0 (Nat.zero_le _) out (by omega)
 unfold ZjP Zu ofC
 simp only[Ze,hkc,if_true,ZcE]
 by_cases h:checkC (sy,th)=0
 ·rw[if_neg (by simp[h]),if_pos h]
  have:=main 0 (Nat.zero_le _) [] (by simp;omega)
  simpa using this
 ·rw[if_pos (by simp[h]),if_neg h]
  exact .leaf
end Go.Ev
end

section
open Go Go.Ev
namespace Go.Ev
noncomputable section
noncomputable def ZsT:Run:=entG Zcz Zia (fun a=>Zij a.1) (fun a=>Zu a.1)
theorem Zy7:EntOK Go.Proofs.Tryz.prog 50 ZsT:=ZJ (tb:=ZjS) (c:=ZhG) Zy9 (by kernel_rfl) (by kernel_rfl) (by kernel_rfl) (fun a=>by kernel_rfl) fun ⟨p,_⟩ hk=>Zn (c:=ZhG) (K:=fun v=>(Zia v,tps (toForms Zcz (p,())))) (S:=Zcf p) (by kernel_rfl) (Zy8 p) (Zy3 p) (ZAv p hk)
end
end Go.Ev
end

section
open Go Go.Ev
namespace Go.Ev
noncomputable section
def Zfy:Sig:=[(true,Za)]
noncomputable def Zq4:Tbl:=[(100,Zcg),(102,Zmn)]
theorem ZEV:∀p∈Zq4,EntOK Go.Proofs.Tryz.prog p.1 p.2:=Zg Zcs (Zg ZoB (Zv))
noncomputable def ZmI:Code:=Go.Proofs.Tryz.f106.body.getD .skip
def Zql:Tb:=[]
def ZyE (i:El Za):Empty→JT Empty (Bool×Bool):=fun j=>nomatch j
def ZwP (i:El Za):JT Empty (Bool×Bool):=.br (ZC i) (.br ((ZA i) !=(0:Int)) (.leaf (false,false)) (.br (i.1 !=(10:Int)) (.leaf ((i.1 !=(14:Int)),(ZaG i.1))) (.leaf (false,(ZaG i.1))))) (.no)
def Zdr (i:El Za):Bool×Bool:=bif (ZC i) then bif ((ZA i) !=(0:Int)) then (false,false) else bif (i.1 !=(10:Int)) then ((i.1 !=(14:Int)),(ZaG i.1)) else (false,(ZaG i.1)) else (false,false)
def Zjd (i:El Za):Bool:=bif (ZC i) then bif ((ZA i) !=(0:Int)) then true else bif (i.1 !=(10:Int)) then true else true else false
theorem ZG5 (i:El Za) (hk:Zjd i=true):Goes (ZyE i) (ZwP i) (Zdr i):=Goes.brk hk (fun hk=>Goes.brk hk (fun hk=>Goes.leaf) (fun hk=>Goes.brk hk (fun hk=>Goes.leaf) (fun hk=>Goes.leaf))) (fun hk=>Goes.nok hk)
def Zni:Bool×Bool→AV:=fun (r:Bool×Bool)=>.tu [.d .bool r.1,.d .bool r.2]
def Zew (i:El Za):Empty→Nat×St:=fun j=>nomatch j
theorem ZGc (i:El Za) (L:Lt):entryA Go.Proofs.Tryz.prog (clOf Zq4) Zql Go.Proofs.Tryz.f106 ZmI L (toForms Zfy (i,()))=(ZwP i).run (fun v=>some (Zni v,tps (toForms Zfy (i,())))) fun j=>L (Zew i j).1 (Zew i j).2:=by kernel_rfl
theorem ZEt (i:El Za):∀(L:Lt) (j:Empty),procOf (procsF Go.Proofs.Tryz.prog (clOf Zq4) Zql Go.Proofs.Tryz.f106 ZmI (toForms Zfy (i,()))) (Zew i j).1 L (Zew i j).2=(ZyE i j).run (fun v=>some (Zni v,tps (toForms Zfy (i,())))) fun j=>L (Zew i j).1 (Zew i j).2:=fun L j=>nomatch j
noncomputable def ZxS:Run:=entG Zfy Zni (fun a=>Zjd a.1) (fun a=>Zdr a.1)
theorem ZFr:EntOK Go.Proofs.Tryz.prog 106 ZxS:=ZJ (tb:=Zql) (c:=ZmI) ZEV (by kernel_rfl) (by kernel_rfl) (by kernel_rfl) (fun a=>by kernel_rfl) fun ⟨i,_⟩ hk=>Zn (c:=ZmI) (K:=fun v=>(Zni v,tps (toForms Zfy (i,())))) (S:=Zew i) (by kernel_rfl) (ZGc i) (ZEt i) (ZG5 i hk)
end
end Go.Ev
end

section
open Go Go.Ev
namespace Go.Ev
noncomputable section
def Zg6:Sig:=[(true,(.sl Za)),(false,(.int .i64))]
noncomputable def Zuj:Tbl:=[(106,ZxS),(103,ZuR)]
theorem ZIj:∀p∈Zuj,EntOK Go.Proofs.Tryz.prog p.1 p.2:=Zg ZFr (Zg Zyb (Zv))
noncomputable def Zpr:Code:=Go.Proofs.Tryz.f75.body.getD .skip
def ZrY:Tb:=[(6,⟨[1,2,5,7],[]⟩)]
inductive Zk7 where | l6 (jumps:Bool) (is:List Bool)
def Zpg (t:List (El Za)) (i:Int):Zk7→JT Zk7 (List Bool) |.l6 jumps is=>.br jumps (.br ((decide ((0:Int)≤i))&&(decide (i < (Int.ofNat (List.length t))))) (.br (Zez t (List.getD t (Int.toNat i) (dflt Za)).2.2.2.2.2.1) (.br (decide ((Zc6 t (List.getD t (Int.toNat i) (dflt Za)).2.2.2.2.2.1)≥(0:Int))) (.br ((decide ((0:Int)≤(Zc6 t (List.getD t (Int.toNat i) (dflt Za)).2.2.2.2.2.1)))&&(decide ((Zc6 t (List.getD t (Int.toNat i) (dflt Za)).2.2.2.2.2.1) < (Int.ofNat (List.length is))))) (.leaf (List.set is (Int.toNat (Zc6 t (List.getD t (Int.toNat i) (dflt Za)).2.2.2.2.2.1)) true)) (.no)) (.leaf is)) (.no)) (.no)) (.leaf is)
def Zr5 (t:List (El Za)) (i:Int):JT Zk7 (List Bool):=.br ((((Int.ofNat (List.length t))==(Int.ofNat (List.length t)))&&(decide ((0:Int)≤(Int.ofNat (List.length t)))))&&(decide (((Int.ofNat (List.length t))*(1:Int))≤(limit:Int)))) (.br (decide (i < (0:Int))) (.leaf (List.replicate (List.length t) false)) (.br (decide (i≥(Int.ofNat (List.length t)))) (.leaf (List.replicate (List.length t) false)) (.br ((decide ((0:Int)≤i))&&(decide (i < (Int.ofNat (List.length t))))) (.br (Zjd (List.getD t (Int.toNat i) (dflt Za))) (.br (Zdr (List.getD t (Int.toNat i) (dflt Za))).1 (.br (decide ((IntKind.i64.wrap (i+(1:Int))) < (Int.ofNat (List.length t)))) (.br ((decide ((0:Int)≤(IntKind.i64.wrap (i+(1:Int)))))&&(decide ((IntKind.i64.wrap (i+(1:Int))) < (Int.ofNat (List.length (List.replicate (List.length t) false)))))) (.jmp (.l6 (Zdr (List.getD t (Int.toNat i) (dflt Za))).2 (List.set (List.replicate (List.length t) false) (Int.toNat (IntKind.i64.wrap (i+(1:Int)))) true))) (.no)) (.jmp (.l6 (Zdr (List.getD t (Int.toNat i) (dflt Za))).2 (List.replicate (List.length t) false)))) (.jmp (.l6 (Zdr (List.getD t (Int.toNat i) (dflt Za))).2 (List.replicate (List.length t) false)))) (.no)) (.no)))) (.no)
def Zo1:List Bool→AV:=fun (r:List Bool)=>.rw 4 .bool r
def ZgZ (t:List (El Za)) (i:Int):Zk7→Nat×St |.l6 jumps is=>(6,⟨mkTm 60 [(1,.d (.int .i64) i),(2,.pt 3 0 0),(5,.own 6 0 none),(7,.d .bool jumps)],[(3,0,.box 34 [.d (.sl Za) t] none),(6,0,.row 4 .bool is false)]⟩)
theorem ZHE (t:List (El Za)) (i:Int) (L:Lt):entryA Go.Proofs.Tryz.prog (clOf Zuj) ZrY Go.Proofs.Tryz.f75 Zpr L (toForms Zg6 (t,i,()))=(Zr5 t i).run (fun v=>some (Zo1 v,tps (toForms Zg6 (t,i,())))) fun j=>L (ZgZ t i j).1 (ZgZ t i j).2:=by kernel_rfl
theorem ZG4 (t:List (El Za)) (i:Int):∀(L:Lt) (j:Zk7),procOf (procsF Go.Proofs.Tryz.prog (clOf Zuj) ZrY Go.Proofs.Tryz.f75 Zpr (toForms Zg6 (t,i,()))) (ZgZ t i j).1 L (ZgZ t i j).2=(Zpg t i j).run (fun v=>some (Zo1 v,tps (toForms Zg6 (t,i,())))) fun j=>L (ZgZ t i j).1 (ZgZ t i j).2 | L,.l6 jumps is=>by kernel_rfl
end
end Go.Ev
end

section
open Go
namespace Go.Ev
theorem ZJ8 {i:El Za} (h:smallText i.2.2.2.2.2.1=true):Zjd i=true:=by
 have h1:ZC i=true:=h
 unfold Zjd
 simp only[h1,cond_true,Bool.cond_self]
theorem ZN2 {i:El Za} (h:smallText i.2.2.2.2.2.1=true):Zdr i=Zav i:=by
 have h0:ZO i=true:=h
 have h1:ZC i=true:=h
 unfold Zdr Zav ZA ZaG
 simp only[h0,h1,cond_true]
 cases h10:((show Int from i.1)==10) with
 | true=>simp only[cond_true,bne,h10,Bool.not_true,cond_false]
 | false=>simp only[cond_true,bne,h10,Bool.not_false,cond_false]
end Go.Ev
end

section
open Go
namespace Go.Ev
def rowOf (n:Nat) (M:Nat→Bool):List Bool:=(List.range n).map M
theorem ZK {n:Nat} {M:Nat→Bool} :(rowOf n M).length=n:=by simp[rowOf]
theorem Zol {n:Nat} {M:Nat→Bool} {i:Nat} (h:i < n):(rowOf n M)[i]? =some (M i):=by simp[rowOf,h]
theorem ZsW {n:Nat} {M:Nat→Bool} {i:Nat} :(rowOf n M).set i true=rowOf n fun j=>M j || (j==i):=by
 apply List.ext_getElem?
 intro j
 rw[List.getElem?_set,ZK]
 by_cases hj:j < n
 ·rw[Zol hj,Zol hj]
  by_cases hi:i=j
  ·subst hi;rw[if_pos rfl,if_pos hj];simp
  ·rw[if_neg hi]
   have:(j==i)=false:=by simp;omega
   rw[this,Bool.or_false]
 ·rw[List.getElem?_eq_none (by rw[ZK];omega),List.getElem?_eq_none (by rw[ZK];omega)]
  by_cases hi:i=j
  ·rw[if_pos hi,if_neg (by omega)]
  ·rw[if_neg hi]
theorem Z4 {n:Nat} {M M':Nat→Bool} (h:∀i,i < n→M i=M' i):rowOf n M=rowOf n M':=List.map_congr_left fun i hi=>h i (List.mem_range.1 hi)
theorem Zoe {n:Nat} :List.replicate n false=rowOf n fun _=>false:=by
 apply List.ext_getElem?
 intro j
 by_cases hj:j < n
 ·rw[Zol hj];simp[hj]
 ·rw[List.getElem?_eq_none (by simp;omega),List.getElem?_eq_none (by rw[ZK];omega)]
def Zbb (t:List (El Za)) (i:Int):List Bool:=rowOf t.length (nextB t i)
def ZcS (t:List (El Za)) (i:Int):Bool:=flowOK t
theorem ZJZ (t:List (El Za)) (i:Int) (hk:ZcS t i=true):Goes (Zpg t i) (Zr5 t i) (Zbb t i):=by
 have hlen:=ZbR hk
 have hout:∀i,¬(0≤i∧i < (t.length:Int))→List.replicate t.length false=rowOf t.length (nextB t i):=fun i h=>by
  rw[Zoe]
  refine Z4 fun j hj=>?_
  unfold nextB
  rw[decide_eq_false (fun hh=>h ⟨hh.1,hh.2.1⟩),Bool.false_and]
 unfold Zr5 Zbb
 rw[Ze,if_pos (by unfold limit;simp;omega),Ze]
 by_cases h0:i < 0
 ·rw[if_pos (decide_eq_true h0),←hout i (fun h=>by omega)];exact .leaf
 rw[if_neg (by simpa using h0),Ze]
 obtain ⟨j,rfl⟩:=Int.eq_ofNat_of_zero_le (show 0≤i by omega)
 by_cases h1:(t.length:Int)≤(j:Int)
 ·rw[if_pos (decide_eq_true (show (j:Int)≥Int.ofNat t.length from h1)),←hout _ (fun h=>by omega)];exact .leaf
 have hj:j < t.length:=by omega
 rw[if_neg (by simp;omega),Ze,if_pos (Zar hj),Ze,Int.toNat_natCast]
 have hmem:t.getD j (dflt Za)∈t:=by rw[ZG hj];exact List.getElem_mem hj
 have hsm:=Zk6 hk hmem
 rw[if_pos (ZJ8 hsm),ZN2 hsm]
 have kf:Zez t (t.getD j (dflt Za)).2.2.2.2.2.1=true:=Zzx hk
 have vf:Zc6 t (t.getD j (dflt Za)).2.2.2.2.2.1=findI (t.getD j (dflt Za)).2.2.2.2.2.1 t 0:=rfl
 have hw:IntKind.i64.wrap ((j:Int)+1)=((j+1:Nat):Int):=Zt (by omega)
 have hr:= @ZLl t j
 have l6:∀(M:Nat→Bool),Goes (Zpg t (j:Int)) (.jmp (.l6 (Zav (t.getD j (dflt Za))).2 (rowOf t.length M))) (rowOf t.length fun k=>M k || decide (toOf t j=(k:Int))):=by
  intro M
  rw[Zi,Zpg,Ze]
  by_cases hjmp:(Zav (t.getD j (dflt Za))).2=true
  ·have hto:toOf t j=findI (t.getD j (dflt Za)).2.2.2.2.2.1 t 0:=by unfold toOf;rw[if_pos hjmp]
   rw[hto] at hr
   rw[if_pos hjmp,Ze,if_pos (Zar hj),Ze,Int.toNat_natCast,if_pos kf,Ze,vf,hto]
   generalize findI (t.getD j (dflt Za)).2.2.2.2.2.1 t 0=to at hr
   by_cases h2:to≥0
   ·obtain ⟨k,rfl⟩:=Int.eq_ofNat_of_zero_le h2
    rw[if_pos (decide_eq_true h2),Ze,if_pos (by rw[ZK];exact Zar (by omega)),Int.toNat_natCast,ZsW]
    rw[show (rowOf t.length fun l=>M l || decide ((k:Int)=(l:Int)))=rowOf t.length fun l=>M l || (l==k) from Z4 fun l _=>by
     congr 1
     rw[Bool.eq_iff_iff];simp;omega]
    exact .leaf
   ·rw[if_neg (by simpa using h2)]
    rw[show (rowOf t.length fun l=>M l || decide (to=(l:Int)))=rowOf t.length M from Z4 fun l _=>by
     rw[decide_eq_false (by omega),Bool.or_false]]
    exact .leaf
  ·have hto:toOf t j= -1:=by unfold toOf;rw[if_neg hjmp]
   rw[if_neg hjmp,hto]
   rw[show (rowOf t.length fun l=>M l || decide ((-1:Int)=(l:Int)))=rowOf t.length M from Z4 fun l _=>by
     rw[decide_eq_false (by omega),Bool.or_false]]
   exact .leaf
 have hB:∀k,k < t.length→nextB t (j:Int) k=((onOf t j&&decide ((k:Int)=(j:Int)+1)) || decide (toOf t j=(k:Int))):=fun k hk=>by
  unfold nextB
  rw[decide_eq_true (by omega),Bool.true_and,Int.toNat_natCast]
 rw[Zoe,Ze]
 by_cases hon:(Zav (t.getD j (dflt Za))).1=true
 ·have hon':onOf t j=true:=hon
  rw[if_pos hon,Ze,hw]
  by_cases hin:j+1 < t.length
  ·rw[if_pos (ZS hin),Ze,ZK,if_pos (Zar hin),Int.toNat_natCast,ZsW]
   have:=l6 fun k=>false || (k==j+1)
   rw[show rowOf t.length (nextB t (j:Int))=rowOf t.length fun k=>(false || (k==j+1)) || decide (toOf t j=(k:Int)) from Z4 fun k hk=>by
    rw[hB k hk,hon',Bool.true_and,Bool.false_or]
    congr 1
    rw[Bool.eq_iff_iff];simp;omega]
   exact this
  ·rw[if_neg (by rw[Zx hin];decide)]
   have:=l6 fun _=>false
   rw[show rowOf t.length (nextB t (j:Int))=rowOf t.length fun k=>false || decide (toOf t j=(k:Int)) from Z4 fun k hk=>by
    rw[hB k hk,hon',Bool.true_and,decide_eq_false (show ¬(k:Int)=(j:Int)+1 by omega)]]
   exact this
 ·have hon':onOf t j=false:=Bool.eq_false_iff.2 hon
  rw[if_neg hon]
  have:=l6 fun _=>false
  rw[show rowOf t.length (nextB t (j:Int))=rowOf t.length fun k=>false || decide (toOf t j=(k:Int)) from Z4 fun k hk=>by
   rw[hB k hk,hon',Bool.false_and]]
  exact this
end Go.Ev
end

section
open Go Go.Ev
namespace Go.Ev
noncomputable section
noncomputable def Zu9:Run:=entG Zg6 Zo1 (fun a=>ZcS a.1 a.2.1) (fun a=>Zbb a.1 a.2.1)
theorem ZxM:EntOK Go.Proofs.Tryz.prog 75 Zu9:=ZJ (tb:=ZrY) (c:=Zpr) ZIj (by kernel_rfl) (by kernel_rfl) (by kernel_rfl) (fun a=>by kernel_rfl) fun ⟨t,i,_⟩ hk=>Zn (c:=Zpr) (K:=fun v=>(Zo1 v,tps (toForms Zg6 (t,i,())))) (S:=ZgZ t i) (by kernel_rfl) (ZHE t i) (ZG4 t i) (ZJZ t i hk)
end
end Go.Ev
end

section
open Go Go.Ev
namespace Go.Ev
noncomputable section
def Zhq:Sig:=[(true,(.sl Za)),(false,(.int .i64))]
noncomputable def Zuf:Tbl:=[(75,Zu9)]
theorem ZH4:∀p∈Zuf,EntOK Go.Proofs.Tryz.prog p.1 p.2:=Zg ZxM (Zv)
noncomputable def Zpc:Code:=Go.Proofs.Tryz.f51.body.getD .skip
def Zr1:Tb:=[(4,⟨[2,5,6],[]⟩),(9,⟨[2,5,6,7],[]⟩),(17,⟨[2,5,6,7,8,9],[]⟩)]
inductive ZlM where | l4 (moved:Bool) (is:List Bool) | l9 (k:Int) (moved:Bool) (is:List Bool) | l17 (k:Int) (more:List Bool) (moved:Bool) (j_:Int) (is:List Bool)
def ZbV (t:List (El Za)) (i:Int):ZlM→JT ZlM (List Bool) |.l4 moved is=>.br moved (.jmp (.l9 (0:Int) false is)) (.leaf is) |.l9 k moved is=>.br (decide (k < (Int.ofNat (List.length is)))) (.br ((decide ((0:Int)≤k))&&(decide (k < (Int.ofNat (List.length is))))) (.br (! (List.getD is (Int.toNat k) (dflt .bool))) (.jmp (.l9 (IntKind.i64.wrap (k+(1:Int))) moved is)) (.br (ZcS t k) (.jmp (.l17 k (Zbb t k) moved (0:Int) is)) (.no))) (.no)) (.jmp (.l4 moved is)) |.l17 k more moved j_ is=>.br (decide (j_ < (Int.ofNat (List.length is)))) (.br ((decide ((0:Int)≤j_))&&(decide (j_ < (Int.ofNat (List.length more))))) (.br (List.getD more (Int.toNat j_) (dflt .bool)) (.br ((decide ((0:Int)≤j_))&&(decide (j_ < (Int.ofNat (List.length is))))) (.br (! (List.getD is (Int.toNat j_) (dflt .bool))) (.br ((decide ((0:Int)≤j_))&&(decide (j_ < (Int.ofNat (List.length is))))) (.jmp (.l17 k more true (IntKind.i64.wrap (j_+(1:Int))) (List.set is (Int.toNat j_) true))) (.no)) (.jmp (.l17 k more moved (IntKind.i64.wrap (j_+(1:Int))) is))) (.no)) (.jmp (.l17 k more moved (IntKind.i64.wrap (j_+(1:Int))) is))) (.no)) (.jmp (.l9 (IntKind.i64.wrap (k+(1:Int))) moved is))
def Zr2 (t:List (El Za)) (i:Int):JT ZlM (List Bool):=.br (ZcS t i) (.jmp (.l4 true (Zbb t i))) (.no)
def ZpH:List Bool→AV:=fun (r:List Bool)=>.rw 4 .bool r
def ZgP (t:List (El Za)) (i:Int):ZlM→Nat×St |.l4 moved is=>(4,⟨mkTm 49 [(2,.pt 3 0 0),(5,.own 6 0 none),(6,.d .bool moved)],[(3,0,.box 34 [.d (.sl Za) t] none),(6,0,.row 4 .bool is false)]⟩) |.l9 k moved is=>(9,⟨mkTm 49 [(2,.pt 3 0 0),(5,.own 6 0 none),(6,.d .bool moved),(7,.d (.int .i64) k)],[(3,0,.box 34 [.d (.sl Za) t] none),(6,0,.row 4 .bool is false)]⟩) |.l17 k more moved j_ is=>(17,⟨mkTm 49 [(2,.pt 3 0 0),(5,.own 6 0 none),(6,.d .bool moved),(7,.d (.int .i64) k),(8,.own 9 0 none),(9,.d (.int .i64) j_)],[(3,0,.box 34 [.d (.sl Za) t] none),(6,0,.row 4 .bool is false),(9,0,.row 4 .bool more false)]⟩)
theorem ZIf (t:List (El Za)) (i:Int) (L:Lt):entryA Go.Proofs.Tryz.prog (clOf Zuf) Zr1 Go.Proofs.Tryz.f51 Zpc L (toForms Zhq (t,i,()))=(Zr2 t i).run (fun v=>some (ZpH v,tps (toForms Zhq (t,i,())))) fun j=>L (ZgP t i j).1 (ZgP t i j).2:=by kernel_rfl
theorem ZH7 (t:List (El Za)) (i:Int):∀(L:Lt) (j:ZlM),procOf (procsF Go.Proofs.Tryz.prog (clOf Zuf) Zr1 Go.Proofs.Tryz.f51 Zpc (toForms Zhq (t,i,()))) (ZgP t i j).1 L (ZgP t i j).2=(ZbV t i j).run (fun v=>some (ZpH v,tps (toForms Zhq (t,i,())))) fun j=>L (ZgP t i j).1 (ZgP t i j).2 | L,.l4 moved is=>by kernel_rfl | L,.l9 k moved is=>by kernel_rfl | L,.l17 k more moved j_ is=>by kernel_rfl
end
end Go.Ev
end

section
open Go
namespace Go.Ev
theorem Zbx {n:Nat} {M:Nat→Bool} {i:Nat} (h:i < n):List.getD (rowOf n M) i (dflt .bool)=M i:=by
 simp[List.getD,Zol h]
theorem Zz9 {n:Nat} {M:Nat→Bool} {i:Nat} {b:Bool} :(rowOf n M).set i b=rowOf n fun j=>if j=i then b else M j:=by
 apply List.ext_getElem?
 intro j
 rw[List.getElem?_set,ZK]
 by_cases hj:j < n
 ·rw[Zol hj,Zol hj]
  by_cases hi:i=j
  ·subst hi;rw[if_pos rfl,if_pos hj,if_pos rfl]
  ·rw[if_neg hi,if_neg (fun e=>hi e.symm)]
 ·rw[List.getElem?_eq_none (by rw[ZK];omega),List.getElem?_eq_none (by rw[ZK];omega)]
  by_cases hi:i=j
  ·rw[if_pos hi,if_neg (by omega)]
  ·rw[if_neg hi]
end Go.Ev
end

section
open Go
namespace Go.Ev
noncomputable def Zao (t:List (El Za)) (i:Int):List Bool:=rowOf t.length (fromB t i)
def Zcl (t:List (El Za)) (i:Int):Bool:=flowOK t
theorem ZKp (t:List (El Za)) (i:Int) (hk:Zcl t i=true):Goes (ZbV t i) (Zr2 t i) (Zao t i):=by
 have hlen:=ZbR hk
 generalize hn:t.length=n at hlen
 let OK:(Nat→Bool)→(Nat→Bool)→Bool→Prop:=fun M0 M moved=>(∀j,nextB t i j=true→M j=true)∧(∀j,M j=true→Come (fun k j=>nextB t (k:Int) j) (nextB t i) j)∧(moved=false→M=M0)∧(moved=true→card n M0 < card n M)
 have hltM:∀ {M0 M moved},OK M0 M moved→∀j,M j=true→j < n:=fun h j hj=>by
  have:=ZE4 (n:=t.length) (fun j=>ZdS) (fun k j=>ZdS) (h.2.1 j hj)
  omega
 have loop:∀m,∀M:Nat→Bool,n - card n M=m→(∀j,nextB t i j=true→M j=true)→(∀j,M j=true→Come (fun k j=>nextB t (k:Int) j) (nextB t i) j)→Goes (ZbV t i) (.jmp (.l4 true (rowOf n M))) (Zao t i):=by
  intro m
  induction m using Nat.strongRecOn with
  | _ m ih=>
  intro M0 hm hA hC
  have inner:∀k,k < n→∀Z:Prop,(∀M moved,OK M0 M moved→(moved=false→Z∧∀j,nextB t (k:Int) j=true→M0 j=true)→Goes (ZbV t i) (.jmp (.l9 ((k+1:Nat):Int) moved (rowOf n M))) (Zao t i))→
    ∀j,j≤n→∀M moved,M k=true→OK M0 M moved→(moved=false→Z∧∀x,x < j→nextB t (k:Int) x=true→M0 x=true)→Goes (ZbV t i) (.jmp (.l17 (k:Int) (rowOf n (nextB t (k:Int))) moved (j:Int) (rowOf n M))) (Zao t i):=by
   intro k hkn Z hz
   refine down ?_ fun j hj ih2=>?_
   ·intro M moved hMk hok hcl
    rw[Zi,ZbV,Ze,ZK,if_neg (by rw[Zx (Nat.lt_irrefl _)];decide),Zt (by omega)]
    exact hz M moved hok fun hm=>⟨(hcl hm).1,fun j hj=>(hcl hm).2 j (by have:=ZdS hj;omega) hj⟩
   ·intro M moved hMk hok hcl
    rw[Zi,ZbV,Ze,ZK,if_pos (ZS hj),Ze,ZK,if_pos (Zar hj),Ze,Int.toNat_natCast,Zbx hj,Zt (by omega)]
    by_cases hN:nextB t (k:Int) j=true
    ·rw[if_pos hN,Ze,if_pos (Zar hj),Ze,Zbx hj]
     cases hMj:M j with
     | true=>
      rw[if_neg (by decide)]
      refine ih2 M moved hMk hok fun hm=>⟨(hcl hm).1,fun x hx hxN=>?_⟩
      by_cases hxj:x=j
      ·subst hxj;rw[←hok.2.2.1 hm];exact hMj
      ·exact (hcl hm).2 x (by omega) hxN
     | false=>
      rw[if_pos (by decide),Ze,if_pos (Zar hj),ZsW]
      have hca:=ZmL hMj hj
      refine ih2 (fun x=>M x || (x==j)) true (by rw[hMk];rfl) ⟨fun x hx=>(show (M x || (x==j))=true by rw[hok.1 x hx];rfl),fun x hx=>?_,fun h=>(by cases h),fun _=>?_⟩ (fun h=>by cases h)
      ·simp only[Bool.or_eq_true,beq_iff_eq] at hx
       rcases hx with hx | hx
       ·exact hok.2.1 x hx
       ·subst hx;exact .step (hok.2.1 k hMk) hN
      ·cases moved with
       | true=>have:=hok.2.2.2 rfl;omega
       | false=>rw[hok.2.2.1 rfl] at hca;rw[hok.2.2.1 rfl];omega
    ·rw[if_neg hN]
     refine ih2 M moved hMk hok fun hm=>⟨(hcl hm).1,fun x hx hxN=>?_⟩
     by_cases hxj:x=j
     ·subst hxj;exact absurd hxN hN
     ·exact (hcl hm).2 x (by omega) hxN
  have pass:∀k,k≤n→∀M moved,OK M0 M moved→(moved=false→∀k' j,k' < k→M0 k'=true→nextB t (k':Int) j=true→M0 j=true)→Goes (ZbV t i) (.jmp (.l9 (k:Int) moved (rowOf n M))) (Zao t i):=by
   refine down ?_ fun k hkn ih2=>?_
   ·intro M moved hok hcl
    rw[Zi,ZbV,Ze,ZK,if_neg (by rw[Zx (Nat.lt_irrefl _)];decide)]
    cases moved with
    | true=>
     have h1:=hok.2.2.2 rfl
     have h2:= @Zfe n M
     exact ih (n - card n M) (by omega) M rfl hok.1 hok.2.1
    | false=>
     have e:=hok.2.2.1 rfl
     subst e
     rw[Zi,ZbV,Ze,if_neg (by decide)]
     have hv:rowOf n M=Zao t i:=by
      unfold Zao fromB
      rw[hn]
      exact Z4 fun j _=>ZoX hok.1 (fun k j hk hj=>hcl rfl k j (hltM hok k hk) hk hj) hok.2.1 j
     rw[hv];exact .leaf
   ·intro M moved hok hcl
    rw[Zi,ZbV,Ze,ZK,if_pos (ZS hkn),Ze,if_pos (Zar hkn),Ze,Int.toNat_natCast,Zbx hkn]
    cases hMk:M k with
    | false=>
     rw[if_pos (by decide),Zt (by omega)]
     refine ih2 M moved hok fun hm k' j hk' hk1 hj=>?_
     by_cases e:k'=k
     ·subst e;rw[←hok.2.2.1 hm,hMk] at hk1;cases hk1
     ·exact hcl hm k' j (by omega) hk1 hj
    | true=>
     have kn:ZcS t (k:Int)=true:=hk
     rw[if_neg (by decide),Ze,if_pos kn]
     have hvn:Zbb t (k:Int)=rowOf n (nextB t (k:Int)):=by unfold Zbb;rw[hn]
     rw[hvn]
     refine inner k hkn (∀k' j,k' < k→M0 k'=true→nextB t (k':Int) j=true→M0 j=true) (fun M' moved' hok' hcl'=>ih2 M' moved' hok' fun hm k' j hk' hk1 hj=>?_) 0 (Nat.zero_le _) M moved hMk hok (fun hm=>⟨hcl hm,fun x hx=>by omega⟩)
     by_cases e:k'=k
     ·subst e;exact (hcl' hm).2 j hj
     ·exact (hcl' hm).1 k' j (by omega) hk1 hj
  rw[Zi,ZbV,Ze,if_pos rfl]
  exact pass 0 (Nat.zero_le _) M0 false ⟨hA,hC,fun _=>rfl,fun h=>by cases h⟩ fun _ k' j h=>by omega
 have kn:ZcS t i=true:=hk
 unfold Zr2
 rw[Ze,if_pos kn]
 have hvn:Zbb t i=rowOf n (nextB t i):=by unfold Zbb;rw[hn]
 rw[hvn]
 exact loop _ (nextB t i) rfl (fun j h=>h) (fun j h=>.start h)
end Go.Ev
end

section
open Go Go.Ev
namespace Go.Ev
noncomputable section
noncomputable def Zun:Run:=entG Zhq ZpH (fun a=>Zcl a.1 a.2.1) (fun a=>Zao a.1 a.2.1)
theorem ZxC:EntOK Go.Proofs.Tryz.prog 51 Zun:=ZJ (tb:=Zr1) (c:=Zpc) ZH4 (by kernel_rfl) (by kernel_rfl) (by kernel_rfl) (fun a=>by kernel_rfl) fun ⟨t,i,_⟩ hk=>Zn (c:=Zpc) (K:=fun v=>(ZpH v,tps (toForms Zhq (t,i,())))) (S:=ZgP t i) (by kernel_rfl) (ZIf t i) (ZH7 t i) (ZKp t i hk)
end
end Go.Ev
end

section
open Go Go.Ev
namespace Go.Ev
noncomputable section
def ZfD:Sig:=[(true,Zb),(true,Zb)]
noncomputable def Zrb:Tbl:=[]
theorem ZGB:∀p∈Zrb,EntOK Go.Proofs.Tryz.prog p.1 p.2:=Zv
noncomputable def ZmX:Code:=Go.Proofs.Tryz.f76.body.getD .skip
def ZqJ:Tb:=[]
def Zyu (a:El Zb) (b:El Zb):Empty→JT Empty (Bool):=fun j=>nomatch j
def Zv8 (a:El Zb) (b:El Zb):JT Empty (Bool):=.br (a.1 !=b.1) (.br (a.2.2.2.1==b.2.2.2.1) (.br a.2.2.2.2.1 (.leaf true) (.leaf b.2.2.2.2.1)) (.leaf false)) (.leaf false)
def Zhs (a:El Zb) (b:El Zb):Bool:=bif (a.1 !=b.1) then bif (a.2.2.2.1==b.2.2.2.1) then bif a.2.2.2.2.1 then true else b.2.2.2.2.1 else false else false
theorem ZHK (a:El Zb) (b:El Zb):Goes (Zyu a b) (Zv8 a b) (Zhs a b):=Goes.br (Goes.br (Goes.br (Goes.leaf) (Goes.leaf)) (Goes.leaf)) (Goes.leaf)
def Zm0:Bool→AV:=fun (r:Bool)=>.d .bool r
def Zfi (a:El Zb) (b:El Zb):Empty→Nat×St:=fun j=>nomatch j
theorem ZF2 (a:El Zb) (b:El Zb) (L:Lt):entryA Go.Proofs.Tryz.prog (clOf Zrb) ZqJ Go.Proofs.Tryz.f76 ZmX L (toForms ZfD (a,b,()))=(Zv8 a b).run (fun v=>some (Zm0 v,tps (toForms ZfD (a,b,())))) fun j=>L (Zfi a b j).1 (Zfi a b j).2:=by kernel_rfl
theorem ZFx (a:El Zb) (b:El Zb):∀(L:Lt) (j:Empty),procOf (procsF Go.Proofs.Tryz.prog (clOf Zrb) ZqJ Go.Proofs.Tryz.f76 ZmX (toForms ZfD (a,b,()))) (Zfi a b j).1 L (Zfi a b j).2=(Zyu a b j).run (fun v=>some (Zm0 v,tps (toForms ZfD (a,b,())))) fun j=>L (Zfi a b j).1 (Zfi a b j).2:=fun L j=>nomatch j
noncomputable def ZxN:Run:=entT ZfD Zm0 (fun a=>Zhs a.1 a.2.1)
theorem ZEB:EntOK Go.Proofs.Tryz.prog 76 ZxN:=Zat (tb:=ZqJ) (c:=ZmX) ZGB (by kernel_rfl) (by kernel_rfl) (by kernel_rfl) (fun a=>by kernel_rfl) fun ⟨a,b,_⟩=>Zn (c:=ZmX) (K:=fun v=>(Zm0 v,tps (toForms ZfD (a,b,())))) (S:=Zfi a b) (by kernel_rfl) (ZF2 a b) (ZFx a b) (ZHK a b)
end
end Go.Ev
end

section
open Go Go.Ev
namespace Go.Ev
noncomputable section
def Zdb:Sig:=[(true,Zc),(true,Zb),(true,Zb)]
noncomputable def ZnS:Tbl:=[(51,Zun)]
theorem ZAs:∀p∈ZnS,EntOK Go.Proofs.Tryz.prog p.1 p.2:=Zg ZxC (Zv)
noncomputable def Zi9:Code:=Go.Proofs.Tryz.f77.body.getD .skip
def Zlh:Tb:=[]
def ZtG (p:El Zc) (a:El Zb) (b:El Zb):Empty→JT Empty (Bool):=fun j=>nomatch j
def ZrP (p:El Zc) (a:El Zb) (b:El Zb):JT Empty (Bool):=.br (a.1 !=b.1) (.leaf false) (.br ((a.1==b.1)&&((a.2.1==b.2.1)&&((a.2.2.1==b.2.2.1)&&((a.2.2.2.1==b.2.2.2.1)&&((a.2.2.2.2.1==b.2.2.2.2.1)&&(a.2.2.2.2.2==b.2.2.2.2.2)))))) (.leaf true) (.br (a.2.1==b.2.1) (.br (decide (b.2.2.1 > a.2.2.1)) (.leaf true) (.br ((decide ((0:Int)≤a.1))&&(decide (a.1 < (Int.ofNat (List.length p.2))))) (.br (Zcl (List.getD p.2 (Int.toNat a.1) (dflt (.sl Za))) a.2.1) (.br ((decide ((0:Int)≤b.2.1))&&(decide (b.2.1 < (Int.ofNat (List.length (Zao (List.getD p.2 (Int.toNat a.1) (dflt (.sl Za))) a.2.1)))))) (.leaf (List.getD (Zao (List.getD p.2 (Int.toNat a.1) (dflt (.sl Za))) a.2.1) (Int.toNat b.2.1) (dflt .bool))) (.no)) (.no)) (.no))) (.br ((decide ((0:Int)≤a.1))&&(decide (a.1 < (Int.ofNat (List.length p.2))))) (.br (Zcl (List.getD p.2 (Int.toNat a.1) (dflt (.sl Za))) a.2.1) (.br ((decide ((0:Int)≤b.2.1))&&(decide (b.2.1 < (Int.ofNat (List.length (Zao (List.getD p.2 (Int.toNat a.1) (dflt (.sl Za))) a.2.1)))))) (.leaf (List.getD (Zao (List.getD p.2 (Int.toNat a.1) (dflt (.sl Za))) a.2.1) (Int.toNat b.2.1) (dflt .bool))) (.no)) (.no)) (.no))))
def Zd7 (p:El Zc) (a:El Zb) (b:El Zb):Bool:=bif (a.1 !=b.1) then false else bif ((a.1==b.1)&&((a.2.1==b.2.1)&&((a.2.2.1==b.2.2.1)&&((a.2.2.2.1==b.2.2.2.1)&&((a.2.2.2.2.1==b.2.2.2.2.1)&&(a.2.2.2.2.2==b.2.2.2.2.2)))))) then true else bif (a.2.1==b.2.1) then bif (decide (b.2.2.1 > a.2.2.1)) then true else bif ((decide ((0:Int)≤a.1))&&(decide (a.1 < (Int.ofNat (List.length p.2))))) then bif (Zcl (List.getD p.2 (Int.toNat a.1) (dflt (.sl Za))) a.2.1) then bif ((decide ((0:Int)≤b.2.1))&&(decide (b.2.1 < (Int.ofNat (List.length (Zao (List.getD p.2 (Int.toNat a.1) (dflt (.sl Za))) a.2.1)))))) then (List.getD (Zao (List.getD p.2 (Int.toNat a.1) (dflt (.sl Za))) a.2.1) (Int.toNat b.2.1) (dflt .bool)) else false else false else false else bif ((decide ((0:Int)≤a.1))&&(decide (a.1 < (Int.ofNat (List.length p.2))))) then bif (Zcl (List.getD p.2 (Int.toNat a.1) (dflt (.sl Za))) a.2.1) then bif ((decide ((0:Int)≤b.2.1))&&(decide (b.2.1 < (Int.ofNat (List.length (Zao (List.getD p.2 (Int.toNat a.1) (dflt (.sl Za))) a.2.1)))))) then (List.getD (Zao (List.getD p.2 (Int.toNat a.1) (dflt (.sl Za))) a.2.1) (Int.toNat b.2.1) (dflt .bool)) else false else false else false
def ZdZ (p:El Zc) (a:El Zb) (b:El Zb):Bool:=bif (a.1 !=b.1) then true else bif ((a.1==b.1)&&((a.2.1==b.2.1)&&((a.2.2.1==b.2.2.1)&&((a.2.2.2.1==b.2.2.2.1)&&((a.2.2.2.2.1==b.2.2.2.2.1)&&(a.2.2.2.2.2==b.2.2.2.2.2)))))) then true else bif (a.2.1==b.2.1) then bif (decide (b.2.2.1 > a.2.2.1)) then true else bif ((decide ((0:Int)≤a.1))&&(decide (a.1 < (Int.ofNat (List.length p.2))))) then bif (Zcl (List.getD p.2 (Int.toNat a.1) (dflt (.sl Za))) a.2.1) then bif ((decide ((0:Int)≤b.2.1))&&(decide (b.2.1 < (Int.ofNat (List.length (Zao (List.getD p.2 (Int.toNat a.1) (dflt (.sl Za))) a.2.1)))))) then true else false else false else false else bif ((decide ((0:Int)≤a.1))&&(decide (a.1 < (Int.ofNat (List.length p.2))))) then bif (Zcl (List.getD p.2 (Int.toNat a.1) (dflt (.sl Za))) a.2.1) then bif ((decide ((0:Int)≤b.2.1))&&(decide (b.2.1 < (Int.ofNat (List.length (Zao (List.getD p.2 (Int.toNat a.1) (dflt (.sl Za))) a.2.1)))))) then true else false else false else false
theorem ZCo (p:El Zc) (a:El Zb) (b:El Zb) (hk:ZdZ p a b=true):Goes (ZtG p a b) (ZrP p a b) (Zd7 p a b):=Goes.brk hk (fun hk=>Goes.leaf) (fun hk=>Goes.brk hk (fun hk=>Goes.leaf) (fun hk=>Goes.brk hk (fun hk=>Goes.brk hk (fun hk=>Goes.leaf) (fun hk=>Goes.brk hk (fun hk=>Goes.brk hk (fun hk=>Goes.brk hk (fun hk=>Goes.leaf) (fun hk=>Goes.nok hk)) (fun hk=>Goes.nok hk)) (fun hk=>Goes.nok hk))) (fun hk=>Goes.brk hk (fun hk=>Goes.brk hk (fun hk=>Goes.brk hk (fun hk=>Goes.leaf) (fun hk=>Goes.nok hk)) (fun hk=>Goes.nok hk)) (fun hk=>Goes.nok hk))))
def Zi7:Bool→AV:=fun (r:Bool)=>.d .bool r
def ZcX (p:El Zc) (a:El Zb) (b:El Zb):Empty→Nat×St:=fun j=>nomatch j
theorem ZAb (p:El Zc) (a:El Zb) (b:El Zb) (L:Lt):entryA Go.Proofs.Tryz.prog (clOf ZnS) Zlh Go.Proofs.Tryz.f77 Zi9 L (toForms Zdb (p,a,b,()))=(ZrP p a b).run (fun v=>some (Zi7 v,tps (toForms Zdb (p,a,b,())))) fun j=>L (ZcX p a b j).1 (ZcX p a b j).2:=by kernel_rfl
theorem ZAp (p:El Zc) (a:El Zb) (b:El Zb):∀(L:Lt) (j:Empty),procOf (procsF Go.Proofs.Tryz.prog (clOf ZnS) Zlh Go.Proofs.Tryz.f77 Zi9 (toForms Zdb (p,a,b,()))) (ZcX p a b j).1 L (ZcX p a b j).2=(ZtG p a b j).run (fun v=>some (Zi7 v,tps (toForms Zdb (p,a,b,())))) fun j=>L (ZcX p a b j).1 (ZcX p a b j).2:=fun L j=>nomatch j
noncomputable def ZtL:Run:=entG Zdb Zi7 (fun a=>ZdZ a.1 a.2.1 a.2.2.1) (fun a=>Zd7 a.1 a.2.1 a.2.2.1)
theorem ZAq:EntOK Go.Proofs.Tryz.prog 77 ZtL:=ZJ (tb:=Zlh) (c:=Zi9) ZAs (by kernel_rfl) (by kernel_rfl) (by kernel_rfl) (fun a=>by kernel_rfl) fun ⟨p,a,b,_⟩ hk=>Zn (c:=Zi9) (K:=fun v=>(Zi7 v,tps (toForms Zdb (p,a,b,())))) (S:=ZcX p a b) (by kernel_rfl) (ZAb p a b) (ZAp p a b) (ZCo p a b hk)
end
end Go.Ev
end

section
open Go Go.Ev
namespace Go.Ev
noncomputable section
def Zg8:Sig:=[(true,Zc),(false,(.sl Zb)),(false,(.int .i64))]
noncomputable def ZuQ:Tbl:=[(76,ZxN),(77,ZtL)]
theorem ZHv:∀p∈ZuQ,EntOK Go.Proofs.Tryz.prog p.1 p.2:=Zg ZEB (Zg ZAq (Zv))
noncomputable def Zqx:Code:=Go.Proofs.Tryz.f52.body.getD .skip
def ZrO:Tb:=[(8,⟨[1,2,3,7,8,9,95,105,147,156],[]⟩),(14,⟨[1,2,3,7,8,10,95,105,147,156],[]⟩),(19,⟨[1,2,3,7,8,10,11,95,105,147,156],[]⟩),(24,⟨[1,2,3,7,8,10,11,12,147,156],[]⟩),(31,⟨[1,2,7,8,13,147,156],[]⟩),(36,⟨[1,2,7,8,13,14],[]⟩)]
inductive Zlp where | l8 (i:Int) (is:List Bool) | l14 (is:List Bool) (moved:Bool) | l19 (is:List Bool) (i:Int) (moved:Bool) | l24 (is:List Bool) (moved:Bool) (k:Int) (i:Int) | l31 (is:List Bool) (i:Int) (out:List Bool) | l36 (is:List Bool) (k:Int) (out:List Bool) (i:Int)
def ZaW (p:El Zc) (l:List (El Zb)) (a:Int):Zlp→JT Zlp (List Bool) |.l8 i is=>.br (decide (i < (Int.ofNat (List.length l)))) (.br ((decide ((0:Int)≤a))&&(decide (a < (Int.ofNat (List.length l))))) (.br ((decide ((0:Int)≤i))&&(decide (i < (Int.ofNat (List.length l))))) (.br ((decide ((0:Int)≤i))&&(decide (i < (Int.ofNat (List.length is))))) (.jmp (.l8 (IntKind.i64.wrap (i+(1:Int))) (List.set is (Int.toNat i) (Zhs (List.getD l (Int.toNat a) (dflt Zb)) (List.getD l (Int.toNat i) (dflt Zb)))))) (.no)) (.no)) (.no)) (.jmp (.l14 is true)) |.l14 is moved=>.br moved (.jmp (.l19 is (0:Int) false)) (.jmp (.l31 is (0:Int) (List.replicate (List.length l) false))) |.l19 is i moved=>.br (decide (i < (Int.ofNat (List.length l)))) (.jmp (.l24 is moved (0:Int) i)) (.jmp (.l14 is moved)) |.l24 is moved k i=>.br (decide (k < (Int.ofNat (List.length l)))) (.br ((decide ((0:Int)≤i))&&(decide (i < (Int.ofNat (List.length is))))) (.br (List.getD is (Int.toNat i) (dflt .bool)) (.br ((decide ((0:Int)≤k))&&(decide (k < (Int.ofNat (List.length is))))) (.br (! (List.getD is (Int.toNat k) (dflt .bool))) (.br ((decide ((0:Int)≤k))&&(decide (k < (Int.ofNat (List.length l))))) (.br ((decide ((0:Int)≤a))&&(decide (a < (Int.ofNat (List.length l))))) (.br ((List.getD l (Int.toNat k) (dflt Zb)).1 !=(List.getD l (Int.toNat a) (dflt Zb)).1) (.br ((decide ((0:Int)≤i))&&(decide (i < (Int.ofNat (List.length l))))) (.br ((decide ((0:Int)≤k))&&(decide (k < (Int.ofNat (List.length l))))) (.br (Zhs (List.getD l (Int.toNat i) (dflt Zb)) (List.getD l (Int.toNat k) (dflt Zb))) (.br ((decide ((0:Int)≤k))&&(decide (k < (Int.ofNat (List.length is))))) (.jmp (.l24 (List.set is (Int.toNat k) true) true (IntKind.i64.wrap (k+(1:Int))) i)) (.no)) (.br ((decide ((0:Int)≤i))&&(decide (i < (Int.ofNat (List.length l))))) (.br ((decide ((0:Int)≤k))&&(decide (k < (Int.ofNat (List.length l))))) (.br (ZdZ p (List.getD l (Int.toNat i) (dflt Zb)) (List.getD l (Int.toNat k) (dflt Zb))) (.br (Zd7 p (List.getD l (Int.toNat i) (dflt Zb)) (List.getD l (Int.toNat k) (dflt Zb))) (.br ((decide ((0:Int)≤k))&&(decide (k < (Int.ofNat (List.length is))))) (.jmp (.l24 (List.set is (Int.toNat k) true) true (IntKind.i64.wrap (k+(1:Int))) i)) (.no)) (.jmp (.l24 is moved (IntKind.i64.wrap (k+(1:Int))) i))) (.no)) (.no)) (.no))) (.no)) (.no)) (.jmp (.l24 is moved (IntKind.i64.wrap (k+(1:Int))) i))) (.no)) (.no)) (.jmp (.l24 is moved (IntKind.i64.wrap (k+(1:Int))) i))) (.no)) (.jmp (.l19 is (IntKind.i64.wrap (i+(1:Int))) moved))) (.no)) (.jmp (.l19 is (IntKind.i64.wrap (i+(1:Int))) moved)) |.l31 is i out=>.br (decide (i < (Int.ofNat (List.length l)))) (.jmp (.l36 is (0:Int) out i)) (.leaf out) |.l36 is k out i=>.br (decide (k < (Int.ofNat (List.length l)))) (.br ((decide ((0:Int)≤i))&&(decide (i < (Int.ofNat (List.length l))))) (.br ((decide ((0:Int)≤a))&&(decide (a < (Int.ofNat (List.length l))))) (.br ((List.getD l (Int.toNat i) (dflt Zb)).1==(List.getD l (Int.toNat a) (dflt Zb)).1) (.br ((decide ((0:Int)≤i))&&(decide (i < (Int.ofNat (List.length out))))) (.br (List.getD out (Int.toNat i) (dflt .bool)) (.br ((decide ((0:Int)≤i))&&(decide (i < (Int.ofNat (List.length out))))) (.jmp (.l36 is (IntKind.i64.wrap (k+(1:Int))) (List.set out (Int.toNat i) true) i)) (.no)) (.br ((decide ((0:Int)≤k))&&(decide (k < (Int.ofNat (List.length is))))) (.br (List.getD is (Int.toNat k) (dflt .bool)) (.br ((decide ((0:Int)≤k))&&(decide (k < (Int.ofNat (List.length l))))) (.br ((decide ((0:Int)≤i))&&(decide (i < (Int.ofNat (List.length l))))) (.br ((decide ((0:Int)≤i))&&(decide (i < (Int.ofNat (List.length out))))) (.jmp (.l36 is (IntKind.i64.wrap (k+(1:Int))) (List.set out (Int.toNat i) (Zhs (List.getD l (Int.toNat k) (dflt Zb)) (List.getD l (Int.toNat i) (dflt Zb)))) i)) (.no)) (.no)) (.no)) (.br ((decide ((0:Int)≤i))&&(decide (i < (Int.ofNat (List.length out))))) (.jmp (.l36 is (IntKind.i64.wrap (k+(1:Int))) (List.set out (Int.toNat i) false) i)) (.no))) (.no))) (.no)) (.jmp (.l31 is (IntKind.i64.wrap (i+(1:Int))) out))) (.no)) (.no)) (.jmp (.l31 is (IntKind.i64.wrap (i+(1:Int))) out))
def ZrT (p:El Zc) (l:List (El Zb)) (a:Int):JT Zlp (List Bool):=.br ((((Int.ofNat (List.length l))==(Int.ofNat (List.length l)))&&(decide ((0:Int)≤(Int.ofNat (List.length l)))))&&(decide (((Int.ofNat (List.length l))*(1:Int))≤(limit:Int)))) (.br (decide (a < (0:Int))) (.leaf (List.replicate (List.length l) false)) (.br (decide (a≥(Int.ofNat (List.length l)))) (.leaf (List.replicate (List.length l) false)) (.br ((((Int.ofNat (List.length l))==(Int.ofNat (List.length l)))&&(decide ((0:Int)≤(Int.ofNat (List.length l)))))&&(decide (((Int.ofNat (List.length l))*(1:Int))≤(limit:Int)))) (.jmp (.l8 (0:Int) (List.replicate (List.length l) false))) (.no)))) (.no)
def Zpu:List Bool→AV:=fun (r:List Bool)=>.rw 4 .bool r
def ZgN (p:El Zc) (l:List (El Zb)) (a:Int):Zlp→Nat×St |.l8 i is=>(8,⟨mkTm 161 [(1,.d (.sl Zb) l),(2,.d (.int .i64) a),(3,.pt 4 0 0),(7,.own 8 0 none),(8,.own 9 0 none),(9,.d (.int .i64) i)],[(4,0,.box 27 [.d (.sl Zz) p.1,.d (.sl (.sl Za)) p.2] none),(8,0,.row 4 .bool (List.replicate (List.length l) false) false),(9,0,.row 4 .bool is false)]⟩) |.l14 is moved=>(14,⟨mkTm 161 [(1,.d (.sl Zb) l),(2,.d (.int .i64) a),(3,.pt 4 0 0),(7,.own 8 0 none),(8,.own 9 0 none),(10,.d .bool moved)],[(4,0,.box 27 [.d (.sl Zz) p.1,.d (.sl (.sl Za)) p.2] none),(8,0,.row 4 .bool (List.replicate (List.length l) false) false),(9,0,.row 4 .bool is false)]⟩) |.l19 is i moved=>(19,⟨mkTm 161 [(1,.d (.sl Zb) l),(2,.d (.int .i64) a),(3,.pt 4 0 0),(7,.own 8 0 none),(8,.own 9 0 none),(10,.d .bool moved),(11,.d (.int .i64) i)],[(4,0,.box 27 [.d (.sl Zz) p.1,.d (.sl (.sl Za)) p.2] none),(8,0,.row 4 .bool (List.replicate (List.length l) false) false),(9,0,.row 4 .bool is false)]⟩) |.l24 is moved k i=>(24,⟨mkTm 161 [(1,.d (.sl Zb) l),(2,.d (.int .i64) a),(3,.pt 4 0 0),(7,.own 8 0 none),(8,.own 9 0 none),(10,.d .bool moved),(11,.d (.int .i64) i),(12,.d (.int .i64) k)],[(4,0,.box 27 [.d (.sl Zz) p.1,.d (.sl (.sl Za)) p.2] none),(8,0,.row 4 .bool (List.replicate (List.length l) false) false),(9,0,.row 4 .bool is false)]⟩) |.l31 is i out=>(31,⟨mkTm 161 [(1,.d (.sl Zb) l),(2,.d (.int .i64) a),(7,.own 8 0 none),(8,.own 9 0 none),(13,.d (.int .i64) i)],[(8,0,.row 4 .bool out false),(9,0,.row 4 .bool is false)]⟩) |.l36 is k out i=>(36,⟨mkTm 161 [(1,.d (.sl Zb) l),(2,.d (.int .i64) a),(7,.own 8 0 none),(8,.own 9 0 none),(13,.d (.int .i64) i),(14,.d (.int .i64) k)],[(8,0,.row 4 .bool out false),(9,0,.row 4 .bool is false)]⟩)
theorem ZIk (p:El Zc) (l:List (El Zb)) (a:Int) (L:Lt):entryA Go.Proofs.Tryz.prog (clOf ZuQ) ZrO Go.Proofs.Tryz.f52 Zqx L (toForms Zg8 (p,l,a,()))=(ZrT p l a).run (fun v=>some (Zpu v,tps (toForms Zg8 (p,l,a,())))) fun j=>L (ZgN p l a j).1 (ZgN p l a j).2:=by kernel_rfl
theorem ZIu (p:El Zc) (l:List (El Zb)) (a:Int):∀(L:Lt) (j:Zlp),procOf (procsF Go.Proofs.Tryz.prog (clOf ZuQ) ZrO Go.Proofs.Tryz.f52 Zqx (toForms Zg8 (p,l,a,()))) (ZgN p l a j).1 L (ZgN p l a j).2=(ZaW p l a j).run (fun v=>some (Zpu v,tps (toForms Zg8 (p,l,a,())))) fun j=>L (ZgN p l a j).1 (ZgN p l a j).2 | L,.l8 i is=>by kernel_rfl | L,.l14 is moved=>by kernel_rfl | L,.l19 is i moved=>by kernel_rfl | L,.l24 is moved k i=>by kernel_rfl | L,.l31 is i out=>by kernel_rfl | L,.l36 is k out i=>by kernel_rfl
end
end Go.Ev
end

section
open Go
namespace Go.Ev
theorem Zuh (l:List Acc) (i j:Nat):Zhs (accA l i) (accA l j)=clB l i j:=rfl
theorem Zgl {p:El Zc} (h:smallAll p=true) {i:Nat} (hi:i < (ofC p).length):
  0≤thA (ofC p) i∧thA (ofC p) i < (p.2.length:Int)∧flowOK (thrOf p (ofC p) i)=true∧0≤inA (ofC p) i∧inA (ofC p) i < ((thrOf p (ofC p) i).length:Int):=by
 have hA:=smallA h
 have hm:accA (ofC p) i∈ofC p:=by unfold accA;rw[ZG hi];exact List.getElem_mem hi
 obtain ⟨u,x,j,y,h1,h2,h3,h4,h5⟩:=ZzP hm
 have hth:thA (ofC p) i=(u:Int):=h4
 have hin:inA (ofC p) i=(j:Int):=h5
 have hu:=(List.getElem?_eq_some_iff.1 h1).1
 have hj:=(List.getElem?_eq_some_iff.1 h2).1
 have ht:thrOf p (ofC p) i=x:=by
  unfold thrOf
  rw[hth,Int.toNat_natCast,List.getD_eq_getElem?_getD,h1];rfl
 rw[ht]
 exact ⟨by omega,by omega,Zoh (hA.thr x (List.mem_of_getElem? h1)),by omega,by omega⟩
theorem ZQc {p:El Zc} {i k:Nat} (hi:i < (ofC p).length) (hk:k < (ofC p).length) (e:accA (ofC p) i=accA (ofC p) k):i=k:=by
 have ho:=List.pairwise_iff_getElem.1 (ZNW p)
 have gi:accA (ofC p) i=(ofC p)[i]:=by unfold accA;rw[ZG hi]
 have gk:accA (ofC p) k=(ofC p)[k]:=by unfold accA;rw[ZG hk]
 have irr:∀a:El Zb,¬ltAX a a:=fun a h=>by
  have:∀t k q:Int,¬ltNX t k q t k q:=fun t k q h=>by
   rcases h with h | ⟨_,h | ⟨_,h⟩⟩ <;> omega
  exact this _ _ _ h
 rw[gi,gk] at e
 by_cases h:i=k
 ·exact h
 ·exfalso
  by_cases hl:i < k
  ·have:=ho i k hi hk hl
   rw[e] at this
   exact irr _ this
  ·have:=ho k i hk hi (by omega)
   rw[←e] at this
   exact irr _ this
theorem ZMt {p:El Zc} (h:smallAll p=true) {i k:Nat} (hi:i < (ofC p).length) (hk:k < (ofC p).length):
  ZdZ p (accA (ofC p) i) (accA (ofC p) k)=true∧Zd7 p (accA (ofC p) i) (accA (ofC p) k)=behB p (ofC p) i k:=by
 obtain ⟨i0,i1,i2,i3,i4⟩:=Zgl h hi
 obtain ⟨k0,k1,k2,k3,k4⟩:=Zgl h hk
 have hinj:=fun e=>ZQc hi hk e
 have a1:(accA (ofC p) i).1=thA (ofC p) i:=rfl
 have a2:(accA (ofC p) i).2.1=inA (ofC p) i:=rfl
 have a3:(accA (ofC p) i).2.2.1=paA (ofC p) i:=rfl
 have b1:(accA (ofC p) k).1=thA (ofC p) k:=rfl
 have b2:(accA (ofC p) k).2.1=inA (ofC p) k:=rfl
 have b3:(accA (ofC p) k).2.2.1=paA (ofC p) k:=rfl
 have ht:List.getD p.2 (Int.toNat (thA (ofC p) i)) (dflt (.sl Za))=thrOf p (ofC p) i:=rfl
 have kf:Zcl (thrOf p (ofC p) i) (inA (ofC p) i)=true:=i2
 have vf:Zao (thrOf p (ofC p) i) (inA (ofC p) i)=rowOf (thrOf p (ofC p) i).length (fromB (thrOf p (ofC p) i) (inA (ofC p) i)):=rfl
 have htri:(decide ((0:Int)≤thA (ofC p) i)&&decide (thA (ofC p) i < Int.ofNat p.2.length))=true:=by
  rw[Bool.and_eq_true,decide_eq_true_eq,decide_eq_true_eq];exact ⟨i0,i1⟩
 unfold ZdZ Zd7 behB
 rw[decide_eq_true hk,Bool.true_and]
 simp only[a1,a2,a3,b1,b2,b3,ht,kf,vf,htri,cond_true,ZK]
 by_cases e1:thA (ofC p) i=thA (ofC p) k
 ·have htk:thrOf p (ofC p) k=thrOf p (ofC p) i:=by unfold thrOf;rw[e1]
  rw[htk] at k4
  have hbr:(decide ((0:Int)≤inA (ofC p) k)&&decide (inA (ofC p) k < Int.ofNat (thrOf p (ofC p) i).length))=true:=by
   rw[Bool.and_eq_true,decide_eq_true_eq,decide_eq_true_eq];exact ⟨k3,k4⟩
  have hrow:List.getD (rowOf (thrOf p (ofC p) i).length (fromB (thrOf p (ofC p) i) (inA (ofC p) i))) (inA (ofC p) k).toNat (dflt .bool)=fromB (thrOf p (ofC p) i) (inA (ofC p) i) (inA (ofC p) k).toNat:=Zbx (by omega)
  have hb2:decide (inA (ofC p) k < Int.ofNat (thrOf p (ofC p) i).length)=true:=decide_eq_true k4
  simp only[hb2,hrow,cond_true,e1,bne_self_eq_false,beq_self_eq_true,cond_false,Bool.true_and,decide_eq_true k3]
  by_cases e2:k=i
  ·subst e2
   simp
  ·have hne:accA (ofC p) i≠accA (ofC p) k:=fun e=>e2 (hinj e).symm
   have hstr:((accA (ofC p) i).2.1==(accA (ofC p) k).2.1&&((accA (ofC p) i).2.2.1==(accA (ofC p) k).2.2.1&&((accA (ofC p) i).2.2.2.1==(accA (ofC p) k).2.2.2.1&&((accA (ofC p) i).2.2.2.2.1==(accA (ofC p) k).2.2.2.2.1&&(accA (ofC p) i).2.2.2.2.2==(accA (ofC p) k).2.2.2.2.2))))=false:=by
    rw[←Bool.not_eq_true]
    simp only[Bool.and_eq_true,beq_iff_eq]
    rintro ⟨h1,h2,h3,h4,h5⟩
    exact hne (Prod.ext e1 (Prod.ext h1 (Prod.ext h2 (Prod.ext h3 (Prod.ext h4 h5)))))
   rw[a2,a3,b2,b3] at hstr
   have e2b:(k==i)=false:=by simpa using e2
   simp only[hstr,e2b,cond_false,Bool.false_or]
   by_cases e3:inA (ofC p) i=inA (ofC p) k
   ·rw[e3]
    simp only[beq_self_eq_true,cond_true,Bool.true_and]
    cases hq:decide (paA (ofC p) k > paA (ofC p) i) <;> simp
   ·have e3b:(inA (ofC p) i==inA (ofC p) k)=false:=by simpa using e3
    have e3c:(inA (ofC p) k==inA (ofC p) i)=false:=by simpa using fun e=>e3 e.symm
    simp only[e3b,e3c,cond_false,Bool.false_and,Bool.false_or,and_self]
 ·have e1b:(thA (ofC p) i !=thA (ofC p) k)=true:=by simpa using e1
  have e1c:(thA (ofC p) k==thA (ofC p) i)=false:=by simpa using fun e=>e1 e.symm
  simp only[e1b,e1c,cond_true,Bool.false_and,and_self]
end Go.Ev
end

section
open Go
namespace Go.Ev
noncomputable def ZcR (p:El Zc) (l:List (El Zb)) (a:Int):List Bool:=rowOf l.length fun b=>decide (0≤a∧a < (l.length:Int))&&backB p l a.toNat b
def ZiB (p:El Zc) (l:List (El Zb)) (a:Int):Bool:=smallAll p&&same (.sl Zb) l (ofC p)
theorem ZPs {P:Nat→Bool} {k:Nat} :(List.range (k+1)).any P=((List.range k).any P || P k):=by
 rw[List.range_succ,List.any_append];simp
theorem ZJ2 (p:El Zc) (l:List (El Zb)) (a:Int) (hk:ZiB p l a=true):Goes (ZaW p l a) (ZrT p l a) (ZcR p l a):=by
 unfold ZiB at hk
 rw[Bool.and_eq_true] at hk
 obtain ⟨hs,hsame⟩:=hk
 have hl:=ZLZ.1 hsame
 have hN:=ZOi hs
 rw[←hl] at hN
 have hfol:∀i k,i < l.length→k < l.length→ZdZ p (accA l i) (accA l k)=true∧Zd7 p (accA l i) (accA l k)=behB p l i k:=fun i k hi hk=>by
  rw[hl] at*
  exact ZMt hs hi hk
 have hmk:((((Int.ofNat (List.length l))==(Int.ofNat (List.length l)))&&(decide ((0:Int)≤(Int.ofNat (List.length l)))))&&(decide (((Int.ofNat (List.length l))*(1:Int))≤(limit:Int))))=true:=by
  simp[limit];omega
 obtain ⟨n,hn⟩:∃n,l.length=n:=⟨_,rfl⟩
 have none:¬(0≤a∧a < (n:Int))→List.replicate n false=ZcR p l a:=fun h=>by
  unfold ZcR
  rw[hn,Zoe]
  exact Z4 fun i _=>by rw[decide_eq_false h];rfl
 obtain ⟨T,hT⟩:∃T,T=ZaW p l a:=⟨_,rfl⟩
 rw[←hT]
 unfold ZrT
 rw[hn] at hN hfol hmk ⊢
 rw[Ze,if_pos hmk,Ze]
 by_cases h0:a < 0
 ·rw[if_pos (decide_eq_true h0),none (fun h=>by omega)];exact .leaf
 rw[if_neg (by simpa using h0),Ze]
 by_cases h1:a≥Int.ofNat n
 ·rw[if_pos (decide_eq_true h1),none (fun h=>by simp at h1;omega)];exact .leaf
 obtain ⟨a,rfl⟩:=Int.eq_ofNat_of_zero_le (show 0≤a by omega)
 have ha:a < n:=by simp at h1;omega
 rw[if_neg (by simpa using h1),Ze,if_pos hmk]
 have hval:ZcR p l (a:Int)=rowOf n (backB p l a):=by
  unfold ZcR
  rw[hn]
  exact Z4 fun i _=>by rw[decide_eq_true ⟨by omega,by omega⟩,Int.toNat_natCast];rfl
 rw[hval]
 have ea:List.getD l a (dflt Zb)=accA l a:=rfl
 have nn:(List.length l)=n:=hn
 have out:Goes T (.jmp (.l31 (rowOf n (isB p l a)) (0:Int) (List.replicate n false))) (rowOf n (backB p l a)):=by
  have outer:∀i,i≤n→Goes T (.jmp (.l31 (rowOf n (isB p l a)) (i:Int) (rowOf n fun j=>decide (j < i)&&backB p l a j))) (rowOf n (backB p l a)):=by
   refine down ?_ fun i hi ih=>?_
   ·rw[Zi,hT,ZaW,←hT,Ze,nn,if_neg (by simp)]
    rw[show (rowOf n fun j=>decide (j < n)&&backB p l a j)=rowOf n (backB p l a) from Z4 fun j hj=>by rw[decide_eq_true hj];rfl]
    exact .leaf
   ·have inner:∀k,k≤n→thA l i=thA l a→Goes T (.jmp (.l36 (rowOf n (isB p l a)) (k:Int) (rowOf n fun j=>if j=i then (List.range k).any (fun q=>isB p l a q&&clB l q i) else decide (j < i)&&backB p l a j) (i:Int))) (rowOf n (backB p l a)):=by
     refine down ?_ fun k hk ih2=>?_
     ·intro ht
      rw[Zi,hT,ZaW,←hT,Ze,nn,if_neg (by simp),Zt (by omega)]
      rw[show (rowOf n fun j=>if j=i then (List.range n).any (fun q=>isB p l a q&&clB l q i) else decide (j < i)&&backB p l a j)=(rowOf n fun j=>decide (j < i+1)&&backB p l a j) from Z4 fun j hj=>by
       by_cases e:j=i
       ·subst e
        rw[if_pos rfl,decide_eq_true (by omega),Bool.true_and]
        unfold backB
        rw[ht,beq_self_eq_true,Bool.true_and,hn]
       ·rw[if_neg e]
        by_cases e2:j < i
        ·rw[decide_eq_true e2,decide_eq_true (by omega)]
        ·rw[decide_eq_false e2,decide_eq_false (by omega)]]
      exact ih
     ·intro ht
      have hrow:∀M:Nat→Bool,List.getD (rowOf n M) i (dflt .bool)=M i:=fun M=>Zbx hi
      have hrk:List.getD (rowOf n (isB p l a)) k (dflt .bool)=isB p l a k:=Zbx hk
      have et:((accA l i).1==(accA l a).1)=true:=by show (thA l i==thA l a)=true;rw[ht];simp
      have ei:List.getD l i (dflt Zb)=accA l i:=rfl
      have ek:List.getD l k (dflt Zb)=accA l k:=rfl
      have lt1:∀ {x:Nat},x < n→decide ((x:Int) < Int.ofNat n)=true:=fun h=>decide_eq_true (by simpa using h)
      have key:∀b,b=((List.range (k+1)).any fun q=>isB p l a q&&clB l q i)→Goes T (.jmp (.l36 (rowOf n (isB p l a)) ((k+1:Nat):Int) ((rowOf n fun j=>if j=i then (List.range k).any (fun q=>isB p l a q&&clB l q i) else decide (j < i)&&backB p l a j).set i b) (i:Int))) (rowOf n (backB p l a)):=fun b hb=>by
       rw[Zz9,show (rowOf n fun j=>if j=i then b else if j=i then (List.range k).any (fun q=>isB p l a q&&clB l q i) else decide (j < i)&&backB p l a j)=(rowOf n fun j=>if j=i then (List.range (k+1)).any (fun q=>isB p l a q&&clB l q i) else decide (j < i)&&backB p l a j) from Z4 fun j _=>by
        by_cases e:j=i
        ·rw[if_pos e,if_pos e,hb]
        ·rw[if_neg e,if_neg e,if_neg e]]
       exact ih2 ht
      rw[ZPs] at key
      rw[Zi,hT,ZaW,←hT]
      simp only[Ze,nn,ZK,lt1 hk,lt1 hi,lt1 ha,nng,Bool.and_self,if_true,Int.toNat_natCast,ei,ek,ea,et,hrow,hrk,Zuh,Zt (k:=k) (by omega)]
      generalize hq:((List.range k).any fun q=>isB p l a q&&clB l q i)=q at*
      cases q with
      | true=>
       rw[if_pos rfl]
       exact key true (by simp)
      | false=>
       rw[if_neg (by decide)]
       cases hb:isB p l a k with
       | true=>
        rw[if_pos rfl]
        exact key _ (by rw[hb];simp)
       | false=>
        rw[if_neg (by decide)]
        exact key false (by rw[hb];simp)
    rw[Zi,hT,ZaW,←hT,Ze,nn,if_pos (decide_eq_true (by simpa using hi))]
    by_cases ht:thA l i=thA l a
    ·have:=inner 0 (Nat.zero_le _) ht
     rw[show (rowOf n fun j=>if j=i then (List.range 0).any (fun q=>isB p l a q&&clB l q i) else decide (j < i)&&backB p l a j)=(rowOf n fun j=>decide (j < i)&&backB p l a j) from Z4 fun j _=>by
      by_cases e:j=i
      ·subst e;simp
      ·rw[if_neg e]] at this
     exact this
    ·have lt1:∀ {x:Nat},x < n→decide ((x:Int) < Int.ofNat n)=true:=fun h=>decide_eq_true (by simpa using h)
     have et:((accA l i).1==(accA l a).1)=false:=by show (thA l i==thA l a)=false;simpa using ht
     have ei:List.getD l i (dflt Zb)=accA l i:=rfl
     have hlt0:decide ((0:Int) < Int.ofNat n)=true:=decide_eq_true (by simp;omega)
     rw[Zi,hT,ZaW,←hT]
     simp only[Ze,nn,hlt0,lt1 hi,lt1 ha,nng,Bool.and_self,if_true,Int.toNat_natCast,ei,ea,et,Bool.false_eq_true,if_false,Zt (k:=i) (by omega)]
     rw[show (rowOf n fun j=>decide (j < i)&&backB p l a j)=(rowOf n fun j=>decide (j < i+1)&&backB p l a j) from Z4 fun j _=>by
      by_cases e:j=i
      ·subst e
       have:backB p l a j=false:=by unfold backB;rw[show (thA l j==thA l a)=false by simpa using ht];rfl
       rw[this,Bool.and_false,Bool.and_false]
      ·by_cases e2:j < i
       ·rw[decide_eq_true e2,decide_eq_true (by omega)]
       ·rw[decide_eq_false e2,decide_eq_false (by omega)]]
     exact ih
  have:=outer 0 (Nat.zero_le _)
  rw[show (rowOf n fun j=>decide (j < 0)&&backB p l a j)=List.replicate n false from by
   rw[Zoe];exact Z4 fun j _=>by simp] at this
  exact this
 let OK:(Nat→Bool)→(Nat→Bool)→Bool→Prop:=fun M0 M moved=>(∀j,chS l a j=true→M j=true)∧(∀j,M j=true→Come (chB p l a) (chS l a) j)∧(moved=false→M=M0)∧(moved=true→card n M0 < card n M)
 have lt1:∀ {x:Nat},x < n→decide ((x:Int) < Int.ofNat n)=true:=fun h=>decide_eq_true (by simpa using h)
 have hMlt:∀ {M:Nat→Bool},(∀j,M j=true→Come (chB p l a) (chS l a) j)→∀j,M j=true→j < n:=fun h j hj=>by
  have:=ZQo (p:=p) (l:=l) (a:=a) (Zce.2 (h j hj))
  omega
 have loop:∀m,∀M:Nat→Bool,n - card n M=m→(∀j,chS l a j=true→M j=true)→(∀j,M j=true→Come (chB p l a) (chS l a) j)→Goes T (.jmp (.l14 (rowOf n M) true)) (rowOf n (backB p l a)):=by
  intro m
  induction m using Nat.strongRecOn with
  | _ m ih=>
  intro M0 hm hA hC
  have inner:∀i,i < n→∀Z:Prop,(∀M moved,OK M0 M moved→(moved=false→Z∧(M0 i=true→∀j,chB p l a i j=true→M0 j=true))→Goes T (.jmp (.l19 (rowOf n M) ((i+1:Nat):Int) moved)) (rowOf n (backB p l a)))→
    ∀k,k≤n→∀M moved,OK M0 M moved→(moved=false→Z∧∀x,x < k→M0 i=true→chB p l a i x=true→M0 x=true)→Goes T (.jmp (.l24 (rowOf n M) moved (k:Int) (i:Int))) (rowOf n (backB p l a)):=by
   intro i hi Z hz
   refine down ?_ fun k hk ih2=>?_
   ·intro M moved hok hcl
    rw[Zi,hT,ZaW,←hT,Ze,nn,if_neg (by simp),Zt (by omega)]
    refine hz M moved hok fun hm=>⟨(hcl hm).1,fun h1 j hj=>(hcl hm).2 j ?_ h1 hj⟩
    unfold chB at hj
    simp only[Bool.and_eq_true,decide_eq_true_eq] at hj
    omega
   ·intro M moved hok hcl
    obtain ⟨f1,f2⟩:=hfol i k hi hk
    have hri:List.getD (rowOf n M) i (dflt .bool)=M i:=Zbx hi
    have hrk:List.getD (rowOf n M) k (dflt .bool)=M k:=Zbx hk
    have ei:List.getD l i (dflt Zb)=accA l i:=rfl
    have ek:List.getD l k (dflt Zb)=accA l k:=rfl
    have tk:(accA l k).1=thA l k:=rfl
    have ta:(accA l a).1=thA l a:=rfl
    rw[Zi,hT,ZaW,←hT]
    simp only[Ze,nn,ZK,lt1 hk,lt1 hi,lt1 ha,nng,Bool.and_self,if_true,Int.toNat_natCast,ei,ek,ea,hri,hrk,Zuh,f1,f2,tk,ta,Zt (k:=k) (by omega),Zt (k:=i) (by omega)]
    cases hMi:M i with
    | false=>
     rw[if_neg (by decide)]
     refine hz M moved hok fun hm=>⟨(hcl hm).1,fun h1=>?_⟩
     rw[←hok.2.2.1 hm,hMi] at h1;cases h1
    | true=>
     rw[if_pos rfl]
     cases hMk:M k with
     | true=>
      rw[if_neg (by decide)]
      refine ih2 M moved hok fun hm=>⟨(hcl hm).1,fun x hx h1 h2=>?_⟩
      by_cases e:x=k
      ·subst e;rw[←hok.2.2.1 hm];exact hMk
      ·exact (hcl hm).2 x (by omega) h1 h2
     | false=>
      rw[if_pos (by decide)]
      have skip:chB p l a i k=false→Goes T (.jmp (.l24 (rowOf n M) moved ((k+1:Nat):Int) (i:Int))) (rowOf n (backB p l a)):=fun hc=>ih2 M moved hok fun hm=>⟨(hcl hm).1,fun x hx h1 h2=>by
       by_cases e:x=k
       ·subst e;rw[hc] at h2;cases h2
       ·exact (hcl hm).2 x (by omega) h1 h2⟩
      have set:chB p l a i k=true→Goes T (.jmp (.l24 ((rowOf n M).set k true) true ((k+1:Nat):Int) (i:Int))) (rowOf n (backB p l a)):=fun hc=>by
       have hca:=ZmL hMk hk
       rw[ZsW]
       refine ih2 _ true ⟨fun x hx=>(show (M x || (x==k))=true by rw[hok.1 x hx];rfl),fun x hx=>?_,fun h=>(by cases h),fun _=>?_⟩ (fun h=>by cases h)
       ·simp only[Bool.or_eq_true,beq_iff_eq] at hx
        rcases hx with hx | hx
        ·exact hok.2.1 x hx
        ·subst hx;exact .step (hok.2.1 i hMi) hc
       ·cases moved with
        | true=>have:=hok.2.2.2 rfl;omega
        | false=>rw[hok.2.2.1 rfl] at hca;rw[hok.2.2.1 rfl];omega
      have hce:chB p l a i k=(!(thA l k==thA l a)&&(clB l i k || behB p l i k)):=by unfold chB;rw[hn,decide_eq_true hk,Bool.true_and]
      by_cases c1:thA l k=thA l a
      ·rw[if_neg (by simp[c1])]
       exact skip (by rw[hce];simp[c1])
      ·rw[if_pos (by simpa using c1)]
       have c1b:(thA l k==thA l a)=false:=by simpa using c1
       rw[c1b] at hce
       cases c2:clB l i k with
       | true=>
        rw[if_pos rfl]
        exact set (by rw[hce,c2];rfl)
       | false=>
        rw[if_neg (by decide)]
        cases c3:behB p l i k with
        | true=>
         rw[if_pos rfl]
         exact set (by rw[hce,c2,c3];rfl)
        | false=>
         rw[if_neg (by decide)]
         exact skip (by rw[hce,c2,c3];rfl)
  have pass:∀i,i≤n→∀M moved,OK M0 M moved→(moved=false→∀i' j,i' < i→M0 i'=true→chB p l a i' j=true→M0 j=true)→Goes T (.jmp (.l19 (rowOf n M) (i:Int) moved)) (rowOf n (backB p l a)):=by
   refine down ?_ fun i hi ih2=>?_
   ·intro M moved hok hcl
    rw[Zi,hT,ZaW,←hT,Ze,nn,if_neg (by simp)]
    cases moved with
    | true=>
     have h1:=hok.2.2.2 rfl
     have h2:= @Zfe n M
     exact ih (n - card n M) (by omega) M rfl hok.1 hok.2.1
    | false=>
     have e:=hok.2.2.1 rfl
     subst e
     rw[Zi,hT,ZaW,←hT,Ze,if_neg (by decide),nn]
     rw[show rowOf n M=rowOf n (isB p l a) from Z4 fun j _=>ZoX hok.1 (fun k j hk hj=>hcl rfl k j (hMlt hok.2.1 k hk) hk hj) hok.2.1 j]
     exact out
   ·intro M moved hok hcl
    rw[Zi,hT,ZaW,←hT,Ze,nn,if_pos (lt1 hi)]
    refine inner i hi (∀i' j,i' < i→M0 i'=true→chB p l a i' j=true→M0 j=true) (fun M' moved' hok' hcl'=>ih2 M' moved' hok' fun hm i' j hi' h1 hj=>?_) 0 (Nat.zero_le _) M moved hok (fun hm=>⟨hcl hm,fun x hx=>by omega⟩)
    by_cases e:i'=i
    ·subst e;exact (hcl' hm).2 h1 j hj
    ·exact (hcl' hm).1 i' j (by omega) h1 hj
  rw[Zi,hT,ZaW,←hT,Ze,if_pos rfl]
  exact pass 0 (Nat.zero_le _) M0 false ⟨hA,hC,fun _=>rfl,fun h=>by cases h⟩ fun _ i' j h=>by omega
 have start:∀i,i≤n→Goes T (.jmp (.l8 (i:Int) (rowOf n fun j=>decide (j < i)&&chS l a j))) (rowOf n (backB p l a)):=by
  refine down ?_ fun i hi ih=>?_
  ·rw[Zi,hT,ZaW,←hT,Ze,nn,if_neg (by simp)]
   rw[show (rowOf n fun j=>decide (j < n)&&chS l a j)=rowOf n (chS l a) from Z4 fun j hj=>by rw[decide_eq_true hj];rfl]
   exact loop _ (chS l a) rfl (fun j h=>h) (fun j h=>.start h)
  ·have ei:List.getD l i (dflt Zb)=accA l i:=rfl
   rw[Zi,hT,ZaW,←hT]
   simp only[Ze,nn,ZK,lt1 hi,lt1 ha,nng,Bool.and_self,if_true,Int.toNat_natCast,ei,ea,Zuh,Zt (k:=i) (by omega)]
   rw[Zz9,show (rowOf n fun j=>if j=i then clB l a i else decide (j < i)&&chS l a j)=(rowOf n fun j=>decide (j < i+1)&&chS l a j) from Z4 fun j hj=>by
    by_cases e:j=i
    ·subst e
     rw[if_pos rfl,decide_eq_true (by omega),Bool.true_and]
     unfold chS
     rw[hn,decide_eq_true hj,Bool.true_and]
    ·rw[if_neg e]
     by_cases e2:j < i
     ·rw[decide_eq_true e2,decide_eq_true (by omega)]
     ·rw[decide_eq_false e2,decide_eq_false (by omega)]]
   exact ih
 have:=start 0 (Nat.zero_le _)
 rw[show (rowOf n fun j=>decide (j < 0)&&chS l a j)=List.replicate n false from by
  rw[Zoe];exact Z4 fun j _=>by simp] at this
 exact this
end Go.Ev
end

section
open Go Go.Ev
namespace Go.Ev
noncomputable section
noncomputable def ZAc:Run:=entG Zg8 Zpu (fun a=>ZiB a.1 a.2.1 a.2.2.1) (fun a=>ZcR a.1 a.2.1 a.2.2.1)
theorem ZGI:EntOK Go.Proofs.Tryz.prog 52 ZAc:=ZJ (tb:=ZrO) (c:=Zqx) ZHv (by kernel_rfl) (by kernel_rfl) (by kernel_rfl) (fun a=>by kernel_rfl) fun ⟨p,l,a,_⟩ hk=>Zn (c:=Zqx) (K:=fun v=>(Zpu v,tps (toForms Zg8 (p,l,a,())))) (S:=ZgN p l a) (by kernel_rfl) (ZIk p l a) (ZIu p l a) (ZJ2 p l a hk)
end
end Go.Ev
end

section
open Go Go.Ev
namespace Go.Ev
noncomputable section
def Zd6:Sig:=[(true,Zc)]
noncomputable def Zpf:Tbl:=[(50,ZsT),(51,Zun),(52,ZAc)]
theorem ZCh:∀p∈Zpf,EntOK Go.Proofs.Tryz.prog p.1 p.2:=Zg Zy7 (Zg ZxC (Zg ZGI (Zv)))
noncomputable def Zkz:Code:=Go.Proofs.Tryz.f29.body.getD .skip
def ZnM:Tb:=[(5,⟨[1,3,4,5],[(5,122)]⟩),(13,⟨[1,3,4,5,6,7],[(5,122)]⟩)]
inductive ZhR where | l5 (s:Int) (out:List (El Zd)) | l13 (behind:List Bool) (s:Int) (r:Int) (out:List (El Zd))
def ZbE (p:El Zc):ZhR→JT ZhR (List (El Zd)) |.l5 s out=>.br (decide (s < (Int.ofNat (List.length (Zu p))))) (.br ((decide ((0:Int)≤s))&&(decide (s < (Int.ofNat (List.length (Zu p)))))) (.br (! (List.getD (Zu p) (Int.toNat s) (dflt Zb)).2.2.2.2.1) (.jmp (.l5 (IntKind.i64.wrap (s+(1:Int))) out)) (.br ((decide ((0:Int)≤s))&&(decide (s < (Int.ofNat (List.length (Zu p)))))) (.br (List.getD (Zu p) (Int.toNat s) (dflt Zb)).2.2.2.2.2 (.jmp (.l5 (IntKind.i64.wrap (s+(1:Int))) out)) (.br ((decide ((0:Int)≤s))&&(decide (s < (Int.ofNat (List.length (Zu p)))))) (.br ((decide ((0:Int)≤(List.getD (Zu p) (Int.toNat s) (dflt Zb)).1))&&(decide ((List.getD (Zu p) (Int.toNat s) (dflt Zb)).1 < (Int.ofNat (List.length p.2))))) (.br ((decide ((0:Int)≤s))&&(decide (s < (Int.ofNat (List.length (Zu p)))))) (.br (Zcl (List.getD p.2 (Int.toNat (List.getD (Zu p) (Int.toNat s) (dflt Zb)).1) (dflt (.sl Za))) (List.getD (Zu p) (Int.toNat s) (dflt Zb)).2.1) (.jmp (.l13 (Zao (List.getD p.2 (Int.toNat (List.getD (Zu p) (Int.toNat s) (dflt Zb)).1) (dflt (.sl Za))) (List.getD (Zu p) (Int.toNat s) (dflt Zb)).2.1) s (0:Int) out)) (.no)) (.no)) (.no)) (.no))) (.no))) (.no)) (.leaf out) |.l13 behind s r out=>.br (decide (r < (Int.ofNat (List.length (Zu p))))) (.br ((decide ((0:Int)≤r))&&(decide (r < (Int.ofNat (List.length (Zu p)))))) (.br ((decide ((0:Int)≤s))&&(decide (s < (Int.ofNat (List.length (Zu p)))))) (.br ((List.getD (Zu p) (Int.toNat r) (dflt Zb)).1==(List.getD (Zu p) (Int.toNat s) (dflt Zb)).1) (.br ((decide ((0:Int)≤r))&&(decide (r < (Int.ofNat (List.length (Zu p)))))) (.br (! (List.getD (Zu p) (Int.toNat r) (dflt Zb)).2.2.2.2.1) (.br ((decide ((0:Int)≤r))&&(decide (r < (Int.ofNat (List.length (Zu p)))))) (.br (! (List.getD (Zu p) (Int.toNat r) (dflt Zb)).2.2.2.2.2) (.br ((decide ((0:Int)≤r))&&(decide (r < (Int.ofNat (List.length (Zu p)))))) (.br ((decide ((0:Int)≤(List.getD (Zu p) (Int.toNat r) (dflt Zb)).2.1))&&(decide ((List.getD (Zu p) (Int.toNat r) (dflt Zb)).2.1 < (Int.ofNat (List.length behind))))) (.br (List.getD behind (Int.toNat (List.getD (Zu p) (Int.toNat r) (dflt Zb)).2.1) (dflt .bool)) (.br (ZiB p (Zu p) r) (.br ((decide ((0:Int)≤s))&&(decide (s < (Int.ofNat (List.length (ZcR p (Zu p) r)))))) (.br (List.getD (ZcR p (Zu p) r) (Int.toNat s) (dflt .bool)) (.br ((decide ((0:Int)≤s))&&(decide (s < (Int.ofNat (List.length (Zu p)))))) (.br ((decide ((0:Int)≤s))&&(decide (s < (Int.ofNat (List.length (Zu p)))))) (.br ((decide ((0:Int)≤r))&&(decide (r < (Int.ofNat (List.length (Zu p)))))) (.br (Nat.ble (((List.length out)+1)*24) limit) (.jmp (.l13 behind s (IntKind.i64.wrap (r+(1:Int))) (out++[((List.getD (Zu p) (Int.toNat s) (dflt Zb)).1,((List.getD (Zu p) (Int.toNat s) (dflt Zb)).2.1,(List.getD (Zu p) (Int.toNat r) (dflt Zb)).2.1))]))) (.no)) (.no)) (.no)) (.no)) (.jmp (.l13 behind s (IntKind.i64.wrap (r+(1:Int))) out))) (.no)) (.no)) (.jmp (.l13 behind s (IntKind.i64.wrap (r+(1:Int))) out))) (.no)) (.no)) (.jmp (.l13 behind s (IntKind.i64.wrap (r+(1:Int))) out))) (.no)) (.jmp (.l13 behind s (IntKind.i64.wrap (r+(1:Int))) out))) (.no)) (.jmp (.l13 behind s (IntKind.i64.wrap (r+(1:Int))) out))) (.no)) (.no)) (.jmp (.l5 (IntKind.i64.wrap (s+(1:Int))) out))
def Znp (p:El Zc):JT ZhR (List (El Zd)):=.br (Zij p) (.jmp (.l5 (0:Int) [])) (.no)
def Zkf:List (El Zd)→AV:=fun (r:List (El Zd))=>.rw 67 Zd r
def ZdU (p:El Zc):ZhR→Nat×St |.l5 s out=>(5,⟨mkTm 116 [(1,.pt 2 0 0),(3,.own 4 0 none),(4,.own 5 0 none),(5,.d (.int .i64) s)],[(2,0,.box 27 [.d (.sl Zz) p.1,.d (.sl (.sl Za)) p.2] none),(4,0,.row 84 Zb (Zu p) false),(5,0,.row 67 Zd out false)]⟩) |.l13 behind s r out=>(13,⟨mkTm 116 [(1,.pt 2 0 0),(3,.own 4 0 none),(4,.own 5 0 none),(5,.d (.int .i64) s),(6,.own 7 0 none),(7,.d (.int .i64) r)],[(2,0,.box 27 [.d (.sl Zz) p.1,.d (.sl (.sl Za)) p.2] none),(4,0,.row 84 Zb (Zu p) false),(5,0,.row 67 Zd out false),(7,0,.row 4 .bool behind false)]⟩)
theorem ZBZ (p:El Zc) (L:Lt):entryA Go.Proofs.Tryz.prog (clOf Zpf) ZnM Go.Proofs.Tryz.f29 Zkz L (toForms Zd6 (p,()))=(Znp p).run (fun v=>some (Zkf v,tps (toForms Zd6 (p,())))) fun j=>L (ZdU p j).1 (ZdU p j).2:=by kernel_rfl
theorem ZCt (p:El Zc):∀(L:Lt) (j:ZhR),procOf (procsF Go.Proofs.Tryz.prog (clOf Zpf) ZnM Go.Proofs.Tryz.f29 Zkz (toForms Zd6 (p,()))) (ZdU p j).1 L (ZdU p j).2=(ZbE p j).run (fun v=>some (Zkf v,tps (toForms Zd6 (p,())))) fun j=>L (ZdU p j).1 (ZdU p j).2 | L,.l5 s out=>by kernel_rfl | L,.l13 behind s r out=>by kernel_rfl
end
end Go.Ev
end

section
open Go
namespace Go.Ev
def stB' (l:List Acc) (s:Nat):Bool:=(accA l s).2.2.2.2.1&& ! (accA l s).2.2.2.2.2
def ldB' (l:List Acc) (s:Nat):Bool:=! (accA l s).2.2.2.2.1&& ! (accA l s).2.2.2.2.2
noncomputable def delB (p:El Zc) (l:List Acc) (s r:Nat):Bool:=((thA l r==thA l s)&&ldB' l r)&&(fromB (thrOf p l s) (inA l s) (inA l r).toNat&&backB p l r s)
def delPair (l:List Acc) (s r:Nat):El Zd:=(thA l s,(inA l s,inA l r))
noncomputable def delS (p:El Zc) (l:List Acc) (s:Nat):List (El Zd):=if stB' l s then ((List.range' 0 l.length).filter fun r=>delB p l s r).map (delPair l s) else []
noncomputable def delsFrom (p:El Zc) (l:List Acc) (s:Nat):List (El Zd):=(List.range' s (l.length - s)).flatMap (delS p l)
noncomputable def ZH (p:El Zc):List (El Zd):=delsFrom p (ofC p) 0
def Zbp (p:El Zc):Bool:=smallAll p&&decide ((ofC p).length < 1000000)
theorem ZL0 (p:El Zc) (l:List Acc) (s:Nat):(delS p l s).length≤l.length:=by
 unfold delS
 split
 ·rw[List.length_map]
  have:=List.length_filter_le (fun r=>delB p l s r) (List.range' 0 l.length)
  rw[List.length_range'] at this
  exact this
 ·exact Nat.zero_le _
theorem ZEa (p:El Zc) (hk:Zbp p=true):Goes (ZbE p) (Znp p) (ZH p):=by
 unfold Zbp at hk
 rw[Bool.and_eq_true] at hk
 obtain ⟨hs,hN⟩:=hk
 have hN:=of_decide_eq_true hN
 have kt:Zij p=true:=hs
 have vt:Zu p=ofC p:=rfl
 have facts:=fun i=>Zgl (i:=i) hs
 have same_th:∀i k,thA (ofC p) k=thA (ofC p) i→thrOf p (ofC p) k=thrOf p (ofC p) i:=fun i k h=>by unfold thrOf;rw[h]
 have kb:∀r,ZiB p (ofC p) r=true:=fun r=>by unfold ZiB;rw[hs,ZLZ.2 rfl];rfl
 have vb:∀r:Nat,r < (ofC p).length→ZcR p (ofC p) (r:Int)=rowOf (ofC p).length fun b=>backB p (ofC p) r b:=fun r hr=>by
  unfold ZcR
  rw[Int.toNat_natCast]
  exact Z4 fun i _=>by rw[decide_eq_true ⟨Int.natCast_nonneg r,Int.ofNat_lt.2 hr⟩,Bool.true_and]
 obtain ⟨l,hl⟩:∃l,ofC p=l:=⟨_,rfl⟩
 rw[hl] at hN vt facts kb vb same_th
 have outer:∀s,s≤l.length→∀out:List (El Zd),out.length≤s*l.length→Goes (ZbE p) (.jmp (.l5 (s:Int) out)) (out++delsFrom p l s):=by
  refine down ?_ fun s hsl ih=>?_
  ·intro out ho
   rw[Zi,ZbE,vt,Ze,if_neg (by rw[Zx (Nat.lt_irrefl _)];decide)]
   unfold delsFrom
   rw[Nat.sub_self]
   simp only[List.range'_zero,List.flatMap_nil,List.append_nil]
   exact .leaf
  ·intro out ho
   have e:delsFrom p l s=delS p l s++delsFrom p l (s+1):=by
    unfold delsFrom
    rw[show l.length - s=(l.length - (s+1))+1 by omega,List.range'_succ,List.flatMap_cons]
   have ga:List.getD l s (dflt Zb)=accA l s:=rfl
   have goon:∀o2,o2=out++delS p l s→Goes (ZbE p) (.jmp (.l5 (((s+1:Nat)):Int) o2)) (out++delsFrom p l s):=fun o2 ho2=>by
    have:=ih (out++delS p l s) (by
     rw[List.length_append]
     have:=ZL0 p l s
     rw[Nat.add_mul];omega)
    rw[e,←List.append_assoc,ho2]
    exact this
   rw[Zi,ZbE,vt]
   simp only[Ze,ZS hsl,nng,Bool.and_self,if_true,Int.toNat_natCast,ga,Zt (k:=s) (by omega)]
   by_cases c1:(! (accA l s).2.2.2.2.1)=true
   ·rw[if_pos c1]
    refine goon out ?_
    unfold delS stB'
    rw[if_neg (by rw[Bool.not_eq_true'] at c1;rw[c1,Bool.false_and];exact Bool.false_ne_true),List.append_nil]
   rw[if_neg c1]
   by_cases c2:(accA l s).2.2.2.2.2=true
   ·rw[if_pos c2]
    refine goon out ?_
    unfold delS stB'
    rw[if_neg (by rw[c2];simp),List.append_nil]
   rw[if_neg c2]
   have hst:stB' l s=true:=by
    unfold stB'
    cases h1:(accA l s).2.2.2.2.1 <;> cases h2:(accA l s).2.2.2.2.2 <;> simp_all
   have hdel:delS p l s=((List.range' 0 l.length).filter fun r=>delB p l s r).map (delPair l s):=by unfold delS;rw[if_pos hst]
   obtain ⟨t0,t1,hf,i0,i1⟩:=facts s hsl
   have hth:(decide ((0:Int)≤(accA l s).1)&&decide ((accA l s).1 < Int.ofNat p.2.length))=true:=by
    rw[Bool.and_eq_true,decide_eq_true_eq,decide_eq_true_eq];exact ⟨t0,t1⟩
   have kf:Zcl (List.getD p.2 (Int.toNat (accA l s).1) (dflt (.sl Za))) (accA l s).2.1=true:=hf
   have vf:Zao (List.getD p.2 (Int.toNat (accA l s).1) (dflt (.sl Za))) (accA l s).2.1=rowOf (thrOf p l s).length (fromB (thrOf p l s) (inA l s)):=rfl
   rw[if_pos hth,if_pos kf,vf]
   have inner:∀r,r≤l.length→∀o2:List (El Zd),o2.length≤s*l.length+r→o2++((List.range' r (l.length - r)).filter fun r=>delB p l s r).map (delPair l s)=out++delS p l s→
     Goes (ZbE p) (.jmp (.l13 (rowOf (thrOf p l s).length (fromB (thrOf p l s) (inA l s))) (s:Int) (r:Int) o2)) (out++delsFrom p l s):=by
    refine down ?_ fun r hr ih2=>?_
    ·intro o2 ho2 he
     rw[Zi,ZbE,vt,Ze,if_neg (by rw[Zx (Nat.lt_irrefl _)];decide),Zt (by omega)]
     rw[Nat.sub_self] at he
     simp only[List.range'_zero,List.filter_nil,List.map_nil,List.append_nil] at he
     exact goon o2 he
    ·intro o2 ho2 he
     have hprod:s*l.length≤1000000*1000000:=Nat.mul_le_mul (by omega) (by omega)
     have b1:Nat.ble ((o2.length+1)*24) limit=true:=Nat.ble_eq_true_of_le (by unfold limit;omega)
     have gr:List.getD l r (dflt Zb)=accA l r:=rfl
     rw[show l.length - r=(l.length - (r+1))+1 by omega,List.range'_succ,List.filter_cons] at he
     have next:∀o3,delB p l s r=false→o3=o2→Goes (ZbE p) (.jmp (.l13 (rowOf (thrOf p l s).length (fromB (thrOf p l s) (inA l s))) (s:Int) ((r+1:Nat):Int) o3)) (out++delsFrom p l s):=fun o3 hd h3=>by
      subst h3
      rw[if_neg (by rw[hd];decide)] at he
      exact ih2 o3 (by omega) he
     rw[Zi,ZbE,vt]
     simp only[Ze,ZS hr,ZS hsl,nng,Bool.and_self,if_true,Int.toNat_natCast,ga,gr,b1,Zt (k:=r) (by omega)]
     by_cases d1:((accA l r).1==(accA l s).1)=true
     ·rw[if_pos d1]
      by_cases d2:(! (accA l r).2.2.2.2.1)=true
      ·rw[if_pos d2]
       by_cases d3:(! (accA l r).2.2.2.2.2)=true
       ·rw[if_pos d3]
        have eth:thA l r=thA l s:=by simpa[thA] using d1
        obtain ⟨_,_,_,j0,j1⟩:=facts r hr
        rw[same_th s r eth] at j1
        have hin:(decide ((0:Int)≤(accA l r).2.1)&&decide ((accA l r).2.1 < Int.ofNat (rowOf (thrOf p l s).length (fromB (thrOf p l s) (inA l s))).length))=true:=by
         rw[ZK,Bool.and_eq_true,decide_eq_true_eq,decide_eq_true_eq];exact ⟨j0,j1⟩
        have hin':(inA l r).toNat < (thrOf p l s).length:=by omega
        have hg:List.getD (rowOf (thrOf p l s).length (fromB (thrOf p l s) (inA l s))) (Int.toNat (accA l r).2.1) (dflt .bool)=fromB (thrOf p l s) (inA l s) (inA l r).toNat:=Zbx hin'
        rw[if_pos hin,hg]
        have hld:ldB' l r=true:=by unfold ldB';rw[d2,d3];rfl
        have hdb:delB p l s r=(fromB (thrOf p l s) (inA l s) (inA l r).toNat&&backB p l r s):=by
         unfold delB
         rw[hld,show (thA l r==thA l s)=true from d1];rfl
        by_cases d4:fromB (thrOf p l s) (inA l s) (inA l r).toNat=true
        ·rw[if_pos d4,if_pos (kb (r:Int)),vb r hr,ZK,Bool.true_and,if_pos (ZS hsl),Zbx hsl]
         by_cases d5:backB p l r s=true
         ·rw[if_pos d5]
          rw[if_pos (by rw[hdb,d4,d5];rfl)] at he
          exact ih2 _ (by simp;omega) (by rw[List.append_assoc];exact he)
         ·rw[if_neg d5]
          exact next _ (by rw[hdb];simp[d5]) rfl
        ·rw[if_neg d4]
         exact next _ (by rw[hdb];simp[d4]) rfl
       ·rw[if_neg d3]
        exact next _ (by unfold delB ldB';simp at d3;simp[d3]) rfl
      ·rw[if_neg d2]
       exact next _ (by unfold delB ldB';simp at d2;simp[d2]) rfl
     ·rw[if_neg d1]
      exact next _ (by unfold delB thA;simp at d1;simp[d1]) rfl
   exact inner 0 (Nat.zero_le _) out (by omega) (by rw[hdel];rfl)
 have:=outer 0 (Nat.zero_le _) [] (Nat.zero_le _)
 unfold Znp ZH
 rw[Ze,if_pos kt,hl]
 exact this
end Go.Ev
end

section
open Go
namespace Go.Ev
def ZqN (a b:List (El Zd)):Bool:=decide (a.length < 4611686018427387904)
end Go.Ev
end

section
open Go
namespace Go.Ev
theorem ZI3 {n:Nat} (hn:n < 4611686018427387904) {B:Nat→Bool} :∀(xs:List Nat) (d:SetD) (M:Nat→Bool),(∀x∈xs,x < n)→SetOK d n M→SetOK (putAll d (xs.map Int.ofNat)) n fun k=>M k || xs.contains k
 | [],d,M,_,h=>h.congr' fun j=>by simp
 | x :: xs,d,M,hx,h=>by
  have h1:=(h.putO hn (hx x (by simp))).2
  have h2:=ZI3 (B:=B) hn xs _ _ (fun y hy=>hx y (by simp[hy])) h1
  refine h2.congr' fun j=>?_
  rw[List.contains_cons,Bool.or_assoc]
theorem ZAJ {n:Nat} (hn:n < 4611686018427387904) {B:Nat→Bool} :SetOK (putAll ((n:Int),[]) (listOf n B)) n fun k=>decide (k < n)&&B k:=by
 have:=ZI3 (B:=B) hn ((List.range n).filter B) ((n:Int),[]) _ (fun x hx=>List.mem_range.1 (List.mem_filter.1 hx).1) (SetOK.new n)
 refine this.congr' fun j=>?_
 rw[Bool.false_or,Bool.eq_iff_iff,List.contains_iff_mem,List.mem_filter,List.mem_range,Bool.and_eq_true,decide_eq_true_eq]
theorem ZPE {n:Nat} (hn:n < 4611686018427387904):Zy (Int.ofNat n)=((n:Int),[]):=by
 unfold Zy
 simp
 omega
section
variable {p:El Zc}
theorem ZPU (hk:Z3 p=true) {r:Nat} (hr:r < (ofC p).length):SetOK (dBack p (ofC p) (r:Int)) (ofC p).length fun k=>decide (k < (ofC p).length)&&backB p (ofC p) r k:=by
 obtain ⟨hs,hd⟩:=delayOK hk
 have hn:(ofC p).length < 4611686018427387904:=Nat.lt_trans hd.len (by decide)
 unfold dBack
 rw[ZPE hn]
 unfold ZbM
 rw[if_pos ⟨Int.natCast_nonneg r,Int.ofNat_lt.2 hr⟩,Int.toNat_natCast]
 exact ZAJ hn
theorem ZQs (hk:Z3 p=true) {s r:Nat} (hs:s < (ofC p).length) (hr:r < (ofC p).length) (ht:thA (ofC p) r=thA (ofC p) s):
  hitP p (ofC p) (s:Int) (frS p (ofC p) (thA (ofC p) s) (s:Int)) (r:Int)=(fromB (thrOf p (ofC p) s) (inA (ofC p) s) (inA (ofC p) r).toNat&&backB p (ofC p) r s):=by
 obtain ⟨hsm,hd⟩:=delayOK hk
 have hn:(ofC p).length < 4611686018427387904:=Nat.lt_trans hd.len (by decide)
 obtain ⟨t0,t1,hf,i0,i1⟩:=Zgl hsm hs
 obtain ⟨_,_,_,j0,j1⟩:=Zgl hsm hr
 have et:thrOf p (ofC p) r=thrOf p (ofC p) s:=by unfold thrOf;rw[ht]
 rw[et] at j1
 have hlen:(thrOf p (ofC p) s).length < 4611686018427387904:=Nat.lt_trans (ZbR hf) (by decide)
 have e1:frS p (ofC p) (thA (ofC p) s) (s:Int)=putAll (((thrOf p (ofC p) s).length:Int),[]) (listOf (thrOf p (ofC p) s).length (fromB (thrOf p (ofC p) s) (inA (ofC p) s))):=by
  unfold frS
  rw[show insP p (thA (ofC p) s)=thrOf p (ofC p) s from rfl,ZPE hlen]
  rfl
 have h1:=ZAJ hlen (B:=fromB (thrOf p (ofC p) s) (inA (ofC p) s))
 rw[←e1] at h1
 have h2:=ZPU hk hr
 have e2:∀(x:SetD) (i:Int),(Zr x i).1=hasS x i:=fun _ _=>rfl
 have g1:(Zr (frS p (ofC p) (thA (ofC p) s) (s:Int)) (inA (ofC p) r)).1=fromB (thrOf p (ofC p) s) (inA (ofC p) s) (inA (ofC p) r).toNat:=by
  rw[e2,h1.has hlen,decide_eq_true j0,decide_eq_true (show (inA (ofC p) r).toNat < (thrOf p (ofC p) s).length by omega),Bool.true_and,Bool.true_and]
 have g2:(Zr (dBack p (ofC p) (r:Int)) (s:Int)).1=backB p (ofC p) r s:=by
  rw[e2,h2.has hn,decide_eq_true (Int.natCast_nonneg s),Int.toNat_natCast,decide_eq_true hs,Bool.true_and,Bool.true_and]
 unfold hitP
 rw[g2]
 have:(Zr (frS p (ofC p) (thA (ofC p) s) (s:Int)) (List.getD (ofC p) (Int.toNat (r:Int)) (dflt Zb)).2.1).1=fromB (thrOf p (ofC p) s) (inA (ofC p) s) (inA (ofC p) r).toNat:=by
  rw[Int.toNat_natCast]
  exact g1
 rw[this]
end
theorem ZpY {α β:Type} {f g:α→List β} {l:List α} (h:∀x∈l,f x=g x):l.flatMap f=l.flatMap g:=by
 rw[List.flatMap_def,List.flatMap_def,List.map_congr_left h]
theorem ZPC {α β:Type} {key:α→Nat} {D:α→List β} :∀(T:Nat) (L:List α),L.Pairwise (fun a b=>key a≤key b)→(∀x∈L,key x < T)→((List.range T).flatMap fun t=>(L.filter fun x=>key x==t).flatMap D)=L.flatMap D
 | 0,L,_,h=>by
  cases L with
  | nil=>rfl
  | cons x L=>exact absurd (h x (by simp)) (Nat.not_lt_zero _)
 | T+1,L,hp,h=>by
  have split:∀L:List α,L.Pairwise (fun a b=>key a≤key b)→(∀x∈L,key x < T+1)→L=(L.filter fun x=>decide (key x < T))++L.filter fun x=>key x==T:=by
   intro L
   induction L with
   | nil=>intros;rfl
   | cons x L ih=>
    intro hp h
    obtain ⟨p1,p2⟩:=List.pairwise_cons.1 hp
    have ih:=ih p2 fun y hy=>h y (by simp[hy])
    by_cases hx:key x < T
    ·have hx':(key x==T)=false:=by rw[beq_eq_false_iff_ne];omega
     rw[List.filter_cons_of_pos (by simpa using hx),List.filter_cons_of_neg (by rw[hx'];exact Bool.false_ne_true),List.cons_append,←ih]
    ·have hk:key x=T:=by have:=h x (by simp);omega
     have hnone:L.filter (fun x=>decide (key x < T))=[]:=List.filter_eq_nil_iff.2 fun y hy=>by have:=p1 y hy;simp;omega
     rw[List.filter_cons_of_neg (by simpa using hx),List.filter_cons_of_pos (by simpa using hk),hnone,List.nil_append]
     rw[hnone,List.nil_append] at ih
     rw[←ih]
  have e:=split L hp h
  rw[List.range_succ,List.flatMap_append]
  have h1:((List.range T).flatMap fun t=>(L.filter fun x=>key x==t).flatMap D)=(L.filter fun x=>decide (key x < T)).flatMap D:=by
   rw[←ZPC T (L.filter fun x=>decide (key x < T)) (hp.sublist List.filter_sublist) fun x hx=>by simpa using (List.mem_filter.1 hx).2]
   refine ZpY fun t ht=>?_
   rw[List.filter_filter]
   congr 1
   refine List.filter_congr fun x hx=>?_
   have:=List.mem_range.1 ht
   by_cases hk:key x=t
   ·simp[hk,this]
   ·simp[hk]
  rw[h1]
  simp only[List.flatMap_cons,List.flatMap_nil,List.append_nil]
  rw[←List.flatMap_append,←e]
theorem ZOs {α β γ:Type} {g:β→List γ} {f:α→β} {P H:α→Bool} {q:α→γ} :∀(l:List α),(∀x∈l,P x=true→g (f x)=if H x=true then [q x] else [])→((l.filter P).map f).flatMap g=(l.filter fun x=>P x&&H x).map q
 | [],_=>rfl
 | x :: l,h=>by
  have ih:=ZOs l fun y hy=>h y (by simp[hy])
  cases hP:P x with
  | false=>rw[List.filter_cons_of_neg (by simp[hP]),List.filter_cons_of_neg (by simp[hP]),ih]
  | true=>
   rw[List.filter_cons_of_pos hP,List.map_cons,List.flatMap_cons,h x (by simp) hP,ih]
   cases hH:H x with
   | false=>rw[List.filter_cons_of_neg (by simp[hP,hH])];simp
   | true=>rw[List.filter_cons_of_pos (by simp[hP,hH])];simp
theorem Zuo {α β:Type} {P:α→Bool} {D:α→List β} :∀(l:List α),(l.flatMap fun x=>if P x=true then D x else [])=(l.filter P).flatMap D
 | []=>rfl
 | x :: l=>by
  cases hP:P x with
  | false=>rw[List.filter_cons_of_neg (by simp[hP]),List.flatMap_cons,Zuo l];simp[hP]
  | true=>rw[List.filter_cons_of_pos hP,List.flatMap_cons,List.flatMap_cons,Zuo l];simp[hP]
theorem ZQk {p:El Zc} {a b:Nat} (ha:a < (ofC p).length) (hb:b < (ofC p).length) (h:a < b):thA (ofC p) a≤thA (ofC p) b:=by
 have ho:=List.pairwise_iff_getElem.1 (ZNW p) a b ha hb h
 have ga:accA (ofC p) a=(ofC p)[a]:=by unfold accA;rw[ZG ha]
 have gb:accA (ofC p) b=(ofC p)[b]:=by unfold accA;rw[ZG hb]
 rw[←ga,←gb] at ho
 have:∀t k q t' k' q':Int,ltNX t k q t' k' q'→t≤t':=fun t k q t' k' q' h=>by
  rcases h with h | ⟨h,_⟩ <;> omega
 exact this _ _ _ _ _ _ ho
theorem ZNM {p:El Zc} (hk:Z3 p=true):Zk p=ZH p:=by
 obtain ⟨hsm,hd⟩:=delayOK hk
 have facts:=fun i=>Zgl (i:=i) hsm
 have hits:=fun s r=>ZQs (s:=s) (r:=r) hk
 have keys:=fun a b=>ZQk (p:=p) (a:=a) (b:=b)
 unfold Zk ZH delsFrom outN
 generalize ofC p=l at facts hits keys
 rw[Nat.sub_zero,←List.range_eq_range']
 have hD:∀s,delS p l s=if stB' l s=true then ((List.range l.length).filter fun r=>delB p l s r).map (delPair l s) else []:=fun s=>by
  unfold delS
  rw[←List.range_eq_range']
 rw[ZpY fun s _=>hD s,Zuo]
 refine Eq.trans ?_ (ZPC (key:=fun s=>(thA l s).toNat) p.2.length ((List.range l.length).filter fun s=>stB' l s) ?_ ?_)
 ·refine ZpY fun t ht=>?_
  have ht:=List.mem_range.1 ht
  rw[List.filter_filter]
  unfold outT ZR listOf
  rw[List.flatMap_map]
  have hf:(List.range l.length).filter (plB l (t:Int) true)=(List.range l.length).filter fun s=>((thA l s).toNat==t)&&stB' l s:=by
   refine List.filter_congr fun s hs=>?_
   obtain ⟨t0,_⟩:=facts s (List.mem_range.1 hs)
   unfold plB stB'
   rw[Bool.and_assoc]
   have e:(((List.getD l s (dflt Zb)).1:Int)==(t:Int))=((thA l s).toNat==t):=by
    show (thA l s==(t:Int))=_
    rw[Bool.eq_iff_iff,beq_iff_eq,beq_iff_eq]
    omega
   have e2:((List.getD l s (dflt Zb)).2.2.2.2.1==true)=(accA l s).2.2.2.2.1:=by
    show ((accA l s).2.2.2.2.1==true)=_
    cases (accA l s).2.2.2.2.1 <;> rfl
   rw[e2]
   exact congrArg (· &&_) e
  rw[hf]
  refine ZpY fun s hs=>?_
  obtain ⟨hs1,hs2⟩:=List.mem_filter.1 hs
  have hsN:=List.mem_range.1 hs1
  rw[Bool.and_eq_true,beq_iff_eq] at hs2
  obtain ⟨t0,_⟩:=facts s hsN
  have hth:thA l s=(t:Int):=by have:=hs2.1;omega
  unfold outS ZR listOf
  rw[ZOs (H:=fun r=>fromB (thrOf p l s) (inA l s) (inA l r).toNat&&backB p l r s) (q:=delPair l s)]
  ·congr 1
   refine List.filter_congr fun r hr=>?_
   unfold plB delB ldB'
   have e1:(((List.getD l r (dflt Zb)).1:Int)==(t:Int))=(thA l r==thA l s):=by rw[hth];rfl
   have e2:((List.getD l r (dflt Zb)).2.2.2.2.1==false)=! (accA l r).2.2.2.2.1:=by
    show ((accA l r).2.2.2.2.1==false)=_
    cases (accA l r).2.2.2.2.1 <;> rfl
   rw[e2,←Bool.and_assoc (thA l r==thA l s)]
   exact congrArg (fun x=>x&&_&&_&&_) e1
  ·intro r hr hP
   have hrN:=List.mem_range.1 hr
   unfold plB at hP
   rw[Bool.and_eq_true,Bool.and_eq_true] at hP
   have hth2:thA l r=(t:Int):=by have:=hP.1.1;exact eq_of_beq this
   have:=hits s r hsN hrN (hth2.trans hth.symm)
   rw[hth] at this
   show oneP p l (t:Int) (s:Int) (frS p l (t:Int) (s:Int)) (r:Int)=_
   unfold oneP
   rw[this]
   unfold delPair
   rw[hth]
   rfl
 ·refine List.Pairwise.filter _ ?_
  refine List.pairwise_lt_range.imp_of_mem fun {a b} ha hb h=>?_
  have:=keys a b (List.mem_range.1 ha) (List.mem_range.1 hb) h
  omega
 ·intro s hs
  obtain ⟨t0,t1,_⟩:=facts s (List.mem_range.1 (List.mem_filter.1 hs).1)
  omega
end Go.Ev
end

section
namespace Go.Ev
open Go
theorem ZDw (i:El Za) (ls:List ByteArray):Zw (setL i ls)=Zw i:=rfl
theorem ZP1 (i:El Za) (ls:List ByteArray):(setL i ls).2.2.2.2.2.1=i.2.2.2.2.2.1:=rfl
theorem ZDh {th:List (List (El Za))} {k r s n:Int} (h:k=3∨k=4→placeOK k s n=true):placeC (symsB,th) (k,(r,(s,n)))=0:=by
 show placeN 3 _ k s n=0
 unfold placeN
 by_cases hk:k=3∨k=4
 ·rw[if_pos hk]
  have:=h hk
  unfold placeOK at this
  simp only[Bool.and_eq_true,decide_eq_true_eq,Bool.or_eq_true,beq_iff_eq] at this
  obtain ⟨h0,h3,hn⟩:=this
  rw[if_neg (by omega)]
  have hs:s=0∨s=1∨s=2:=by omega
  rcases hs with rfl | rfl | rfl
  ·rw[if_neg]
   rintro ⟨h1,h2⟩
   have h2:(1:Int)≤n:=h2
   rcases hn with hn | hn
   ·omega
   ·have hn:n < (1:Int):=hn
    omega
  ·rw[if_neg]
   rintro ⟨h1,h2⟩
   have h2:(2:Int)≤n:=h2
   rcases hn with hn | hn
   ·omega
   ·have hn:n < (2:Int):=hn
    omega
  ·rw[if_neg]
   rintro ⟨h1,h2⟩
   have h2:(1:Int)≤n:=h2
   rcases hn with hn | hn
   ·omega
   ·have hn:n < (1:Int):=hn
    omega
 ·rw[if_neg hk]
theorem ZNL {th:List (List (El Za))} {many:Int} {i:El Za} (h:BookOK many i) (ls:List ByteArray):insC (symsB,th) (setL i ls)=0:=by
 have hA:placeC (symsB,th) i.2.2.2.1=0:=ZDh (k:=i.2.2.2.1.1) (r:=i.2.2.2.1.2.1) (s:=i.2.2.2.1.2.2.1) (n:=i.2.2.2.1.2.2.2) h.placeA
 have hB:placeC (symsB,th) i.2.2.2.2.1=0:=ZDh (k:=i.2.2.2.2.1.1) (r:=i.2.2.2.2.1.2.1) (s:=i.2.2.2.2.1.2.2.1) (n:=i.2.2.2.2.1.2.2.2) h.placeB
 unfold insC
 rw[ZDw,h.right]
 show (if (0:Int)≠0 then _ else if placeC (symsB,th) i.2.2.2.1≠0 then _ else placeC (symsB,th) i.2.2.2.2.1)=0
 rw[hA,hB]
 rfl
theorem ZJL {p:El Zc} {K:List ByteArray→Int} :∀(x:List (El Za)) (k:Nat) (seen:List ByteArray),
  (∀(j:Nat) (i:El Za),x[j]? =some i→(i.2.2.2.2.2.2=[]∨i.2.2.2.2.2.2=[Zo ((k+j:Nat):Int)])∧insC p i=0)→(∀l∈seen,∃k',k' < k∧l=Zo (k':Int))→k+x.length≤100→scanI p K seen x=K (seen++labels x)
 | [],k,seen,_,_,_=>by simp[scanI,labels]
 | i :: r,k,seen,h,hs,hk=>by
  obtain ⟨hl,hi⟩:=h 0 i rfl
  rw[List.length_cons] at hk
  have hr:=fun seen' hs'=>ZJL (K:=K) r (k+1) seen' (fun j y hy=>by
   have:=h (j+1) y (by simpa using hy)
   rwa[show k+(j+1)=k+1+j by omega] at this) hs' (by omega)
  unfold scanI
  rcases hl with hl | hl
  ·rw[hl]
   unfold scanL
   rw[hi]
   simp only[ne_eq,not_true_eq_false,if_false]
   rw[hr seen fun l hl=>by obtain ⟨k',h1,h2⟩:=hs l hl;exact ⟨k',by omega,h2⟩]
   unfold labels
   rw[List.flatMap_cons,hl,List.nil_append]
  ·rw[hl,Nat.add_zero]
   unfold scanL
   rw[if_neg (by rw[(Zpk (k:=(k:Int)) (by omega) (by omega)).1];decide)]
   have hns:seen.contains (Zo (k:Int))=false:=by
    rw[Bool.eq_false_iff]
    intro hc
    rw[List.contains_iff_mem] at hc
    obtain ⟨k',h1,h2⟩:=hs _ hc
    have:=ZOl (by omega) (by omega) h2
    omega
   rw[if_neg (by rw[hns];decide)]
   unfold scanL
   rw[hi]
   simp only[ne_eq,not_true_eq_false,if_false]
   rw[hr _ fun l hl=>by
    rcases List.mem_append.1 hl with hl | hl
    ·obtain ⟨k',h1,h2⟩:=hs l hl;exact ⟨k',by omega,h2⟩
    ·rw[List.mem_singleton] at hl;exact ⟨k,by omega,hl⟩]
   unfold labels
   rw[List.flatMap_cons,hl,Nat.add_zero,List.append_assoc]
theorem ZIY {seen:List ByteArray} :∀ {x:List (El Za)},(∀i∈x,((i.1==(10:Int)) || (i.1==(11:Int)))=true→seen.contains i.2.2.2.2.2.1=true)→jumpC seen x=0
 | [],_=>rfl
 | i :: r,h=>by
  unfold jumpC
  have ih:=ZIY fun j hj=>h j (List.mem_cons_of_mem _ hj)
  by_cases hj:((i.1==(10:Int)) || (i.1==(11:Int)))=true
  ·rw[if_pos hj,if_pos (h i (List.mem_cons_self ..) hj)];exact ih
  ·rw[if_neg hj];exact ih
theorem Zld {a:List (El Zs)} {n:Nat} (hn:n≤90) (ha:n≤a.length) {k:Nat} {i:El Za} (h:(threadB a n)[k]? =some i):
  (k < n∧∃x,(baseT a n)[k]? =some x∧BookOK ((n+1:Nat):Int) x∧i=setL x (if sAt (baseT a n) n k then [Zo (k:Int)] else []))∨(k=n∧i=setL (bare 14) (if sAt (baseT a n) n k then [Zo (k:Int)] else [])):=by
 have hl:=Zrh a n ha
 obtain ⟨hk,he⟩:=List.getElem?_eq_some_iff.1 h
 unfold threadB at hk he
 rw[Zig hk] at he
 rw[Zcc,hl] at hk
 by_cases hkn:k < n
 ·obtain ⟨x,h1,h2⟩:=ZME hn hkn ha
  obtain ⟨h3,h4⟩:=List.getElem?_eq_some_iff.1 h1
  rw[h4] at he
  exact .inl ⟨hkn,_,h1,h2,he.symm⟩
 ·have hkn:k=n:=by omega
  subst hkn
  have:(baseT a k)[k]'(by omega)=bare 14:=by
   unfold baseT
   rw[List.getElem_append_right (by simp;omega)]
   simp
  rw[this] at he
  exact .inr ⟨rfl,he.symm⟩
theorem ZKb (many:Int) (ls:List ByteArray) {th:List (List (El Za))} :insC (symsB,th) (setL (bare 14) ls)=0:=by
 unfold insC
 rw[ZDw,ZMb (.inr (.inr rfl))]
 rfl
theorem ZMO {x:List (El Za)} {k:Nat} {i:El Za} {l:ByteArray} (h:x[k]? =some i) (hl:l∈i.2.2.2.2.2.2):(labels x).contains l=true:=by
 rw[List.contains_iff_mem]
 unfold labels
 exact List.mem_flatMap.2 ⟨i,List.mem_of_getElem? h,hl⟩
theorem ZGK {a:List (El Zs)} {n:Nat} (hn:n≤90) (ha:n≤a.length) {th:List (List (El Za))} :threadC (symsB,th) (threadB a n)=0:=by
 have hlen:(threadB a n).length=n+1:=by unfold threadB;rw[Zcc,Zrh a n ha]
 unfold threadC
 have hc:=ZNg (threadB a n)
 rw[if_neg (by omega),ZJL (threadB a n) 0 [] (fun j i h=>by
  rw[Nat.zero_add]
  rcases Zld hn ha h with ⟨_,x,_,hx,rfl⟩ | ⟨_,rfl⟩
  ·refine ⟨?_,ZNL hx _⟩
   show (if _ then [Zo (j:Int)] else [])=[]∨(if _ then [Zo (j:Int)] else [])=[Zo (j:Int)]
   split
   ·exact .inr rfl
   ·exact .inl rfl
  ·refine ⟨?_,ZKb 0 _⟩
   show (if _ then [Zo (j:Int)] else [])=[]∨(if _ then [Zo (j:Int)] else [])=[Zo (j:Int)]
   split
   ·exact .inr rfl
   ·exact .inl rfl) (fun l hl=>by cases hl) (by omega)]
 rw[List.nil_append,ZJ4 (by omega)]
 have hlast:(threadB a n)[(threadB a n).length - 1]? =some ((threadB a n)[(threadB a n).length - 1]'(by omega)):=List.getElem?_eq_getElem (by omega)
 have h14:(((threadB a n)[(threadB a n).length - 1]'(by omega)).1==(10:Int) || ((threadB a n)[(threadB a n).length - 1]'(by omega)).1==(14:Int))=true:=by
  rcases Zld hn ha hlast with ⟨h1,_⟩ | ⟨_,h2⟩
  ·omega
  ·rw[h2];rfl
 rw[if_pos h14]
 refine ZIY fun i hi hj=>?_
 obtain ⟨k,hk⟩:=List.getElem?_of_mem hi
 rcases Zld hn ha hk with ⟨hkn,x,hx,hb,rfl⟩ | ⟨_,rfl⟩
 ·rw[ZP1]
  rcases hb.to with ⟨h1,h2,_⟩ | ⟨_,m,m0,m1,e⟩
  ·exfalso
   have hj:((x.1==(10:Int)) || (x.1==(11:Int)))=true:=hj
   simp only[Bool.or_eq_true,beq_iff_eq] at hj
   rcases hj with hj | hj
   ·exact h1 hj
   ·exact h2 hj
  ·rw[e]
   obtain ⟨q,rfl⟩:∃q:Nat,m=(q:Int):=⟨m.toNat,by omega⟩
   have hqn:q < n+1:=by omega
   have hq:(threadB a n)[q]? =some ((threadB a n)[q]'(by omega)):=List.getElem?_eq_getElem (by omega)
   have hs:sAt (baseT a n) n q=true:=by
    unfold sAt
    rw[List.any_eq_true]
    exact ⟨x,List.mem_of_getElem? (i:=k) (by rw[List.getElem?_take,if_pos hkn];exact hx),decide_eq_true e⟩
   refine ZMO hq ?_
   rcases Zld hn ha hq with ⟨_,y,_,_,h2⟩ | ⟨_,h2⟩
   ·rw[h2,hs];exact List.mem_singleton.2 rfl
   ·rw[h2,hs];exact List.mem_singleton.2 rfl
 ·cases hj
theorem ZMc {a:List (El Zs)} {n:Nat} (hn:n≤90) (ha:n≤a.length):smallThread (threadB a n)=true:=by
 have hlen:(threadB a n).length=n+1:=by unfold threadB;rw[Zcc,Zrh a n ha]
 have hlab:∀i∈threadB a n,smallText i.2.2.2.2.2.1=true∧i.2.2.2.2.2.2.length≤1∧∀l∈i.2.2.2.2.2.2,smallText l=true:=fun i hi=>by
  obtain ⟨k,hk⟩:=List.getElem?_of_mem hi
  have hkl:=(List.getElem?_eq_some_iff.1 hk).1
  have hls:∀b:Bool,(if b=true then [Zo (k:Int)] else []).length≤1∧∀l∈(if b=true then [Zo (k:Int)] else []),smallText l=true:=fun b=>by
   cases b with
   | false=>exact ⟨by simp,fun l hl=>by simp at hl⟩
   | true=>exact ⟨by simp,fun l hl=>by
     rw[if_pos rfl,List.mem_singleton] at hl
     rw[hl];exact (Zpk (by omega) (by omega)).2⟩
  rcases Zld hn ha hk with ⟨hkn,x,hx,hb,rfl⟩ | ⟨_,rfl⟩
  ·exact ⟨hb.small (by omega),hls _⟩
  ·exact ⟨(by decide:smallText (bs [])=true),hls _⟩
 have:=ZN4 (t:=threadB a n) (n:=1) fun i hi=>(hlab i hi).2.1
 unfold smallThread
 simp only[Bool.and_eq_true,decide_eq_true_eq,List.all_eq_true]
 exact ⟨by omega,by omega,fun i hi=>⟨(hlab i hi).1,(hlab i hi).2.2⟩⟩
theorem ZL7 (K:Int):symsC K [] symsB=K:=by kernel_rfl
theorem ZHb {p:El Zc} :∀ {th:List (List (El Za))},(∀t∈th,threadC p t=0)→thsC p th=0
 | [],_=>rfl
 | t :: r,h=>by
  unfold thsC
  rw[h t (List.mem_cons_self ..)]
  simp only[ne_eq,not_true_eq_false,if_false]
  exact ZHb fun x hx=>h x (List.mem_cons_of_mem _ hx)
theorem ZMp (l:List (List (El Zs))) {threads many:Int} (h0:0≤threads) (h1:threads≤64) (m0:0≤many) (m1:many≤90):checkC (Zp l threads many)=0∧smallProg (Zp l threads many)=true∧Zfc l threads many=true:=by
 refine ⟨?_,?_,?_⟩
 ·unfold checkC Zp
  show (if 64 < symsB.length∨64 < ((l.take threads.toNat).map fun a=>threadB a (min a.length many.toNat)).length then (10:Int) else symsC (thsC _ ((l.take threads.toNat).map fun a=>threadB a (min a.length many.toNat))) [] symsB)=0
  rw[if_neg,ZL7]
  ·exact ZHb fun t ht=>by
    obtain ⟨a,_,rfl⟩:=List.mem_map.1 ht
    exact ZGK (by omega) (by omega)
  ·rw[List.length_map,List.length_take]
   have:symsB.length=3:=rfl
   omega
 ·unfold smallProg Zp
  simp only[Bool.and_eq_true,List.all_eq_true]
  refine ⟨?_,fun t ht=>?_⟩
  ·have:symsB.all (fun s=>smallText s.1)=true:=by decide+kernel
   rw[List.all_eq_true] at this
   exact this
  ·obtain ⟨a,_,rfl⟩:=List.mem_map.1 ht
   exact ZMc (by omega) (by omega)
 ·unfold Zfc
  simp only[Bool.and_eq_true,decide_eq_true_eq]
  omega
end Go.Ev
end

section
open Go
namespace Go.Ev
end Go.Ev
end

section
open Go Go.Ev
namespace Go.Ev
noncomputable section
def ZcA:Sig:=[(false,(.sl (.int .i64))),(false,(.sl (.int .i64)))]
noncomputable def ZlW:Tbl:=[]
theorem ZyM:∀p∈ZlW,EntOK Go.Proofs.Tryz.prog p.1 p.2:=Zv
noncomputable def Zie:Code:=Go.Proofs.Tryz.f11.body.getD .skip
def ZjH:Tb:=[(6,⟨[0,1,5],[]⟩)]
inductive Zfa where | l6 (i:Int)
def ZeR (a:List Int) (b:List Int):Zfa→JT Zfa (Bool) |.l6 i=>.br (decide (i < (Int.ofNat (List.length a)))) (.br ((decide ((0:Int)≤i))&&(decide (i < (Int.ofNat (List.length a))))) (.br ((decide ((0:Int)≤i))&&(decide (i < (Int.ofNat (List.length b))))) (.br ((List.getD a (Int.toNat i) (dflt (.int .i64))) !=(List.getD b (Int.toNat i) (dflt (.int .i64)))) (.leaf false) (.jmp (.l6 (IntKind.i64.wrap (i+(1:Int)))))) (.no)) (.no)) (.leaf true)
def ZjQ (a:List Int) (b:List Int):JT Zfa (Bool):=.br ((Int.ofNat (List.length a)) !=(Int.ofNat (List.length b))) (.leaf false) (.jmp (.l6 (0:Int)))
def Zh3:Bool→AV:=fun (r:Bool)=>.d .bool r
def Zcj (a:List Int) (b:List Int):Zfa→Nat×St |.l6 i=>(6,⟨mkTm 26 [(0,.d (.sl (.int .i64)) a),(1,.d (.sl (.int .i64)) b),(5,.d (.int .i64) i)],[]⟩)
theorem ZyX (a:List Int) (b:List Int) (L:Lt):entryA Go.Proofs.Tryz.prog (clOf ZlW) ZjH Go.Proofs.Tryz.f11 Zie L (toForms ZcA (a,b,()))=(ZjQ a b).run (fun v=>some (Zh3 v,tps (toForms ZcA (a,b,())))) fun j=>L (Zcj a b j).1 (Zcj a b j).2:=by kernel_rfl
theorem ZyZ (a:List Int) (b:List Int):∀(L:Lt) (j:Zfa),procOf (procsF Go.Proofs.Tryz.prog (clOf ZlW) ZjH Go.Proofs.Tryz.f11 Zie (toForms ZcA (a,b,()))) (Zcj a b j).1 L (Zcj a b j).2=(ZeR a b j).run (fun v=>some (Zh3 v,tps (toForms ZcA (a,b,())))) fun j=>L (Zcj a b j).1 (Zcj a b j).2 | L,.l6 i=>by kernel_rfl
end
end Go.Ev
end

section
open Go
namespace Go.Ev
theorem ZM5 {a b:Int} :(a==b)=decide (a=b):=by rw[Bool.eq_iff_iff];simp
def ZaC (a b:List Int):Bool:=decide (a=b)
def ZaO (a b:List Int):Bool:=decide (a.length < 4611686018427387904)
theorem ZBb (a b:List Int) (hk:ZaO a b=true):Goes (ZeR a b) (ZjQ a b) (ZaC a b):=by
 have hn:a.length < 4611686018427387904:=of_decide_eq_true hk
 have loop:a.length=b.length→∀k,k≤a.length→Goes (ZeR a b) (.jmp (.l6 (k:Int))) (decide (a.drop k=b.drop k)):=by
  intro he
  refine down ?_ fun k hk ih=>?_
  ·rw[Zi]
   simp[ZeR,Ze,ZQ,he]
  ·rw[Zi]
   have hkb:k < b.length:=he▸hk
   simp only[ZeR,Ze,ZS hk,ZS hkb,nng,Bool.and_self,if_true,Int.toNat_natCast,ZG hk,ZG hkb,Zt (k:=k) (by omega)]
   rw[ZP hk,ZP hkb]
   split
   ·rename_i h1
    have h2:(! decide (a[k]=b[k]))=true:=(congrArg Bool.not ZM5).symm.trans h1
    have h3:¬a[k]=b[k]:=by simpa using h2
    rw[decide_eq_false (fun e=>h3 (List.cons.inj e).1)]
    exact .leaf
   ·rename_i h1
    have h2:¬(! decide (a[k]=b[k]))=true:=fun h=>h1 ((congrArg Bool.not ZM5).trans h)
    have h3:a[k]=b[k]:=by simpa using h2
    rw[show decide (a[k] :: List.drop (k+1) a=b[k] :: List.drop (k+1) b)=decide (List.drop (k+1) a=List.drop (k+1) b) from decide_eq_decide.2 ⟨fun e=>(List.cons.inj e).2,fun e=>by rw[h3,e]⟩]
    exact ih
 unfold ZjQ ZaC
 rw[Ze]
 by_cases h:a.length=b.length
 ·have:=loop h 0 (Nat.zero_le _)
  simpa[h] using this
 ·have:a≠b:=fun e=>h (congrArg _ e)
  rw[if_pos (by simp;omega),decide_eq_false this]
  exact .leaf
end Go.Ev
end

section
open Go
namespace Go.Ev
theorem Zz4 {n:Nat} {M:Nat→Bool} :(listOf n M).length≤n:=by rw[ZhJ];exact Zfe
theorem ZsG {n:Nat} {M:Nat→Bool} {x:Int} :(listOf n M).contains x=(decide (0≤x∧x < (n:Int))&&M x.toNat):=by
 rw[Bool.eq_iff_iff,List.contains_iff_mem,Zcy]
 simp only[Bool.and_eq_true,decide_eq_true_eq]
 constructor
 ·rintro ⟨i,h1,h2,rfl⟩;exact ⟨by omega,by rw[Int.toNat_natCast];exact h2⟩
 ·rintro ⟨h1,h2⟩;exact ⟨x.toNat,by omega,h2,by omega⟩
theorem ZN0 {l:List Int} (h:l.length < 1099511627776):ZaO l l=true∧ZaC l l=true:=⟨decide_eq_true (by omega),decide_eq_true rfl⟩
theorem ZM8 {t:List (El Za)} {points:List Int} (h:flowOK t=true) (hp:points.length < 4611686018427387904) (s:Int):
  ZbY t points s=true∧ZaO (ZN t points s) (ZN t points s)=true∧ZaC (ZN t points s) (ZN t points s)=true:=by
 have k1:ZbY t points s=true:=by unfold ZbY;rw[h,decide_eq_true hp];rfl
 have hl:=ZbR h
 exact ⟨k1,ZN0 (by unfold ZN;have:= @Zz4 t.length (endsB t points s);omega)⟩
theorem ZHY {t:List (El Za)} {points:List Int} (h:flowOK t=true) (hp:points.length < 4611686018427387904) (s l:Int):
  Zgy t points s l=true∧Zdz t points s l=(decide (0≤l∧l < (t.length:Int))&&endsB t points s l.toNat):=by
 obtain ⟨k1,_⟩:=ZM8 h hp s
 have hl:=ZbR h
 have ki:ZaE (ZN t points s) l=true:=decide_eq_true (by unfold ZN;have:= @Zz4 t.length (endsB t points s);omega)
 have vr:Zdz t points s l=(decide (0≤l∧l < (t.length:Int))&&endsB t points s l.toNat):=by
  unfold Zdz Zaa ZaJ
  rw[k1,ki]
  simp only[cond_true]
  unfold Za5
  rw[ZGP]
  unfold ZN
  exact ZsG
 refine ⟨?_,vr⟩
 unfold Zgy Zaa;rw[k1,ki];rfl
end Go.Ev
end

section
open Go Go.Ev
namespace Go.Ev
noncomputable section
def ZkR:Sig:=[(false,(.sl (.int .i64))),(false,(.int .i64))]
noncomputable def Zzu:Tbl:=[]
theorem ZMx:∀p∈Zzu,EntOK Go.Proofs.Tryz.prog p.1 p.2:=Zv
noncomputable def ZwI:Code:=Go.Proofs.Tryz.f12.body.getD .skip
def Zw2:Tb:=[(3,⟨[0,1,5],[]⟩)]
inductive Zrp where | l3 (i:Int)
def ZsF (l:List Int) (n:Int):Zrp→JT Zrp (Bool) |.l3 i=>.br (decide (i < (Int.ofNat (List.length l)))) (.br ((decide ((0:Int)≤i))&&(decide (i < (Int.ofNat (List.length l))))) (.br ((List.getD l (Int.toNat i) (dflt (.int .i64)))==n) (.leaf true) (.jmp (.l3 (IntKind.i64.wrap (i+(1:Int)))))) (.no)) (.leaf false)
def Zxx (l:List Int) (n:Int):JT Zrp (Bool):=.jmp (.l3 (0:Int))
def Zv5:Bool→AV:=fun (r:Bool)=>.d .bool r
def Zly (l:List Int) (n:Int):Zrp→Nat×St |.l3 i=>(3,⟨mkTm 18 [(0,.d (.sl (.int .i64)) l),(1,.d (.int .i64) n),(5,.d (.int .i64) i)],[]⟩)
theorem ZMh (l:List Int) (n:Int) (L:Lt):entryA Go.Proofs.Tryz.prog (clOf Zzu) Zw2 Go.Proofs.Tryz.f12 ZwI L (toForms ZkR (l,n,()))=(Zxx l n).run (fun v=>some (Zv5 v,tps (toForms ZkR (l,n,())))) fun j=>L (Zly l n j).1 (Zly l n j).2:=by kernel_rfl
theorem ZMl (l:List Int) (n:Int):∀(L:Lt) (j:Zrp),procOf (procsF Go.Proofs.Tryz.prog (clOf Zzu) Zw2 Go.Proofs.Tryz.f12 ZwI (toForms ZkR (l,n,()))) (Zly l n j).1 L (Zly l n j).2=(ZsF l n j).run (fun v=>some (Zv5 v,tps (toForms ZkR (l,n,())))) fun j=>L (Zly l n j).1 (Zly l n j).2 | L,.l3 i=>by kernel_rfl
end
end Go.Ev
end

section
open Go
namespace Go.Ev
def Zod (l:List Int) (n:Int):Bool:=l.contains n
def Zsy (l:List Int) (n:Int):Bool:=decide (l.length < 4611686018427387904)
theorem ZNw (l:List Int) (n:Int) (hk:Zsy l n=true):Goes (ZsF l n) (Zxx l n) (Zod l n):=by
 have hn:l.length < 4611686018427387904:=of_decide_eq_true hk
 have loop:∀k,k≤l.length→Goes (ZsF l n) (.jmp (.l3 (k:Int))) ((l.drop k).contains n):=by
  refine down ?_ fun k hk ih=>?_
  ·rw[Zi]
   simp only[ZsF,Ze,Zx (Nat.lt_irrefl _),ZQ,List.drop_length]
   simp
  ·rw[Zi]
   simp only[ZsF,Ze,ZS hk,nng,Bool.and_self,if_true,Int.toNat_natCast,ZG hk,Zt (k:=k) (by omega)]
   rw[ZP hk,List.contains_cons]
   cases h:(l[k]==n) with
   | true=>
    have:(n==l[k])=true:=by simp at h ⊢;exact h.symm
    rw[this];simp[ZQ]
   | false=>
    have:(n==l[k])=false:=by simp at h ⊢;exact fun e=>h e.symm
    rw[this];simpa using ih
 unfold Zxx Zod
 simpa using loop 0 (Nat.zero_le _)
end Go.Ev
end

section
open Go Go.Ev
namespace Go.Ev
noncomputable section
noncomputable def ZG1:Run:=entG ZkR Zv5 (fun a=>Zsy a.1 a.2.1) (fun a=>Zod a.1 a.2.1)
theorem ZMP:EntOK Go.Proofs.Tryz.prog 12 ZG1:=ZJ (tb:=Zw2) (c:=ZwI) ZMx (by kernel_rfl) (by kernel_rfl) (by kernel_rfl) (fun a=>by kernel_rfl) fun ⟨l,n,_⟩ hk=>Zn (c:=ZwI) (K:=fun v=>(Zv5 v,tps (toForms ZkR (l,n,())))) (S:=Zly l n) (by kernel_rfl) (ZMh l n) (ZMl l n) (ZNw l n hk)
end
end Go.Ev
end

section
open Go Go.Ev
namespace Go.Ev
noncomputable section
def ZfY:Sig:=[(true,Za)]
noncomputable def Zsf:Tbl:=[(100,Zcg),(74,ZpT)]
theorem ZFs:∀p∈Zsf,EntOK Go.Proofs.Tryz.prog p.1 p.2:=Zg Zcs (Zg ZtB (Zv))
noncomputable def ZmV:Code:=Go.Proofs.Tryz.f104.body.getD .skip
def ZoM:Tb:=[]
def ZxO (i:El Za):Empty→JT Empty (Bool):=fun j=>nomatch j
def ZvA (i:El Za):JT Empty (Bool):=.br (ZC i) (.br ((ZA i)==(0:Int)) (.br (i.1==(12:Int)) (.leaf true) (.br (Zaj i) (.leaf (ZaA i)) (.no))) (.br (Zaj i) (.leaf (ZaA i)) (.no))) (.no)
def Zg9 (i:El Za):Bool:=bif (ZC i) then bif ((ZA i)==(0:Int)) then bif (i.1==(12:Int)) then true else bif (Zaj i) then (ZaA i) else false else bif (Zaj i) then (ZaA i) else false else false
def Zhp (i:El Za):Bool:=bif (ZC i) then bif ((ZA i)==(0:Int)) then bif (i.1==(12:Int)) then true else bif (Zaj i) then true else false else bif (Zaj i) then true else false else false
theorem ZGT (i:El Za) (hk:Zhp i=true):Goes (ZxO i) (ZvA i) (Zg9 i):=Goes.brk hk (fun hk=>Goes.brk hk (fun hk=>Goes.brk hk (fun hk=>Goes.leaf) (fun hk=>Goes.brk hk (fun hk=>Goes.leaf) (fun hk=>Goes.nok hk))) (fun hk=>Goes.brk hk (fun hk=>Goes.leaf) (fun hk=>Goes.nok hk))) (fun hk=>Goes.nok hk)
def Zmw:Bool→AV:=fun (r:Bool)=>.d .bool r
def ZeB (i:El Za):Empty→Nat×St:=fun j=>nomatch j
theorem ZFE (i:El Za) (L:Lt):entryA Go.Proofs.Tryz.prog (clOf Zsf) ZoM Go.Proofs.Tryz.f104 ZmV L (toForms ZfY (i,()))=(ZvA i).run (fun v=>some (Zmw v,tps (toForms ZfY (i,())))) fun j=>L (ZeB i j).1 (ZeB i j).2:=by kernel_rfl
theorem ZD5 (i:El Za):∀(L:Lt) (j:Empty),procOf (procsF Go.Proofs.Tryz.prog (clOf Zsf) ZoM Go.Proofs.Tryz.f104 ZmV (toForms ZfY (i,()))) (ZeB i j).1 L (ZeB i j).2=(ZxO i j).run (fun v=>some (Zmw v,tps (toForms ZfY (i,())))) fun j=>L (ZeB i j).1 (ZeB i j).2:=fun L j=>nomatch j
noncomputable def Zx0:Run:=entG ZfY Zmw (fun a=>Zhp a.1) (fun a=>Zg9 a.1)
theorem ZFd:EntOK Go.Proofs.Tryz.prog 104 Zx0:=ZJ (tb:=ZoM) (c:=ZmV) ZFs (by kernel_rfl) (by kernel_rfl) (by kernel_rfl) (fun a=>by kernel_rfl) fun ⟨i,_⟩ hk=>Zn (c:=ZmV) (K:=fun v=>(Zmw v,tps (toForms ZfY (i,())))) (S:=ZeB i) (by kernel_rfl) (ZFE i) (ZD5 i) (ZGT i hk)
end
end Go.Ev
end

section
open Go Go.Ev
namespace Go.Ev
noncomputable section
def Zhl:Sig:=[(true,(.sl Za)),(false,(.sl (.int .i64))),(false,(.int .i64))]
noncomputable def ZuO:Tbl:=[(75,Zu9),(12,ZG1),(104,Zx0)]
theorem ZJl:∀p∈ZuO,EntOK Go.Proofs.Tryz.prog p.1 p.2:=Zg ZxM (Zg ZMP (Zg ZFd (Zv)))
noncomputable def Zpz:Code:=Go.Proofs.Tryz.f71.body.getD .skip
def Zr3:Tb:=[(4,⟨[1,3,7,8],[]⟩),(10,⟨[1,3,7,9],[]⟩),(15,⟨[1,3,7,9,10],[]⟩),(23,⟨[1,3,7,9,10,11,12],[]⟩)]
inductive Zk2 where | l4 (i:Int) (is:List Bool) | l10 (is:List Bool) (moved:Bool) | l15 (is:List Bool) (k:Int) (moved:Bool) | l23 (is:List Bool) (k:Int) (more:List Bool) (moved:Bool) (j_:Int)
def ZaN (t:List (El Za)) (points:List Int) (s:Int):Zk2→JT Zk2 (List Bool) |.l4 i is=>.br (decide (i < (Int.ofNat (List.length is)))) (.br ((decide ((0:Int)≤i))&&(decide (i < (Int.ofNat (List.length is))))) (.br (List.getD is (Int.toNat i) (dflt .bool)) (.br (Zsy points i) (.br ((decide ((0:Int)≤i))&&(decide (i < (Int.ofNat (List.length is))))) (.jmp (.l4 (IntKind.i64.wrap (i+(1:Int))) (List.set is (Int.toNat i) (! (Zod points i))))) (.no)) (.no)) (.br ((decide ((0:Int)≤i))&&(decide (i < (Int.ofNat (List.length is))))) (.jmp (.l4 (IntKind.i64.wrap (i+(1:Int))) (List.set is (Int.toNat i) false))) (.no))) (.no)) (.jmp (.l10 is true)) |.l10 is moved=>.br moved (.jmp (.l15 is (0:Int) false)) (.leaf is) |.l15 is k moved=>.br (decide (k < (Int.ofNat (List.length is)))) (.br ((decide ((0:Int)≤k))&&(decide (k < (Int.ofNat (List.length is))))) (.br (! (List.getD is (Int.toNat k) (dflt .bool))) (.jmp (.l15 is (IntKind.i64.wrap (k+(1:Int))) moved)) (.br ((decide ((0:Int)≤k))&&(decide (k < (Int.ofNat (List.length t))))) (.br (Zhp (List.getD t (Int.toNat k) (dflt Za))) (.br (Zg9 (List.getD t (Int.toNat k) (dflt Za))) (.jmp (.l15 is (IntKind.i64.wrap (k+(1:Int))) moved)) (.br (ZcS t k) (.jmp (.l23 is k (Zbb t k) moved (0:Int))) (.no))) (.no)) (.no))) (.no)) (.jmp (.l10 is moved)) |.l23 is k more moved j_=>.br (decide (j_ < (Int.ofNat (List.length is)))) (.br ((decide ((0:Int)≤j_))&&(decide (j_ < (Int.ofNat (List.length more))))) (.br (List.getD more (Int.toNat j_) (dflt .bool)) (.br ((decide ((0:Int)≤j_))&&(decide (j_ < (Int.ofNat (List.length is))))) (.br (! (List.getD is (Int.toNat j_) (dflt .bool))) (.br (Zsy points j_) (.br (! (Zod points j_)) (.br ((decide ((0:Int)≤j_))&&(decide (j_ < (Int.ofNat (List.length is))))) (.jmp (.l23 (List.set is (Int.toNat j_) true) k more true (IntKind.i64.wrap (j_+(1:Int))))) (.no)) (.jmp (.l23 is k more moved (IntKind.i64.wrap (j_+(1:Int)))))) (.no)) (.jmp (.l23 is k more moved (IntKind.i64.wrap (j_+(1:Int)))))) (.no)) (.jmp (.l23 is k more moved (IntKind.i64.wrap (j_+(1:Int)))))) (.no)) (.jmp (.l15 is (IntKind.i64.wrap (k+(1:Int))) moved))
def ZsA (t:List (El Za)) (points:List Int) (s:Int):JT Zk2 (List Bool):=.br (ZcS t s) (.jmp (.l4 (0:Int) (Zbb t s))) (.no)
def Zps:List Bool→AV:=fun (r:List Bool)=>.rw 4 .bool r
def ZgY (t:List (El Za)) (points:List Int) (s:Int):Zk2→Nat×St |.l4 i is=>(4,⟨mkTm 85 [(1,.d (.sl (.int .i64)) points),(3,.pt 4 0 0),(7,.own 8 0 none),(8,.d (.int .i64) i)],[(4,0,.box 34 [.d (.sl Za) t] none),(8,0,.row 4 .bool is false)]⟩) |.l10 is moved=>(10,⟨mkTm 85 [(1,.d (.sl (.int .i64)) points),(3,.pt 4 0 0),(7,.own 8 0 none),(9,.d .bool moved)],[(4,0,.box 34 [.d (.sl Za) t] none),(8,0,.row 4 .bool is false)]⟩) |.l15 is k moved=>(15,⟨mkTm 85 [(1,.d (.sl (.int .i64)) points),(3,.pt 4 0 0),(7,.own 8 0 none),(9,.d .bool moved),(10,.d (.int .i64) k)],[(4,0,.box 34 [.d (.sl Za) t] none),(8,0,.row 4 .bool is false)]⟩) |.l23 is k more moved j_=>(23,⟨mkTm 85 [(1,.d (.sl (.int .i64)) points),(3,.pt 4 0 0),(7,.own 8 0 none),(9,.d .bool moved),(10,.d (.int .i64) k),(11,.own 12 0 none),(12,.d (.int .i64) j_)],[(4,0,.box 34 [.d (.sl Za) t] none),(8,0,.row 4 .bool is false),(12,0,.row 4 .bool more false)]⟩)
theorem ZJi (t:List (El Za)) (points:List Int) (s:Int) (L:Lt):entryA Go.Proofs.Tryz.prog (clOf ZuO) Zr3 Go.Proofs.Tryz.f71 Zpz L (toForms Zhl (t,points,s,()))=(ZsA t points s).run (fun v=>some (Zps v,tps (toForms Zhl (t,points,s,())))) fun j=>L (ZgY t points s j).1 (ZgY t points s j).2:=by kernel_rfl
theorem ZGM (t:List (El Za)) (points:List Int) (s:Int):∀(L:Lt) (j:Zk2),procOf (procsF Go.Proofs.Tryz.prog (clOf ZuO) Zr3 Go.Proofs.Tryz.f71 Zpz (toForms Zhl (t,points,s,()))) (ZgY t points s j).1 L (ZgY t points s j).2=(ZaN t points s j).run (fun v=>some (Zps v,tps (toForms Zhl (t,points,s,())))) fun j=>L (ZgY t points s j).1 (ZgY t points s j).2 | L,.l4 i is=>by kernel_rfl | L,.l10 is moved=>by kernel_rfl | L,.l15 is k moved=>by kernel_rfl | L,.l23 is k more moved j_=>by kernel_rfl
end
end Go.Ev
end

section
open Go
namespace Go.Ev
theorem ZOH {i:El Za} (h:smallText i.2.2.2.2.2.1=true):ZeG i=true∧Zhp i=true:=by
 have h0:ZO i=true:=h
 have h1:ZC i=true:=h
 have a:Zax i=true:=by unfold Zax;simp only[h0,cond_true,Bool.cond_self]
 have b:Zaj i=true:=by unfold Zaj;simp only[h1,cond_true,Bool.cond_self]
 unfold ZeG Zhp
 simp only[h0,h1,a,b,cond_true,Bool.cond_self,and_self]
theorem ZNK {i:El Za} (h:smallText i.2.2.2.2.2.1=true):Zg9 i=ZgB i:=by
 have h0:ZO i=true:=h
 have h1:ZC i=true:=h
 have a:Zax i=true:=by unfold Zax;simp only[h0,cond_true,Bool.cond_self]
 have b:Zaj i=true:=by unfold Zaj;simp only[h1,cond_true,Bool.cond_self]
 have c:ZaA i=Zal i:=by
  unfold ZaA Zal ZA
  simp only[h0,h1]
 unfold Zg9 ZgB ZA
 simp only[h0,h1,a,b,c]
end Go.Ev
end

section
open Go
namespace Go.Ev
noncomputable def Zan (t:List (El Za)) (points:List Int) (s:Int):List Bool:=rowOf t.length (endsB t points s)
def Zfl (t:List (El Za)) (points:List Int) (s:Int):Bool:=flowOK t&&decide (points.length < 4611686018427387904)
theorem ZLh (t:List (El Za)) (points:List Int) (s:Int) (hk:Zfl t points s=true):Goes (ZaN t points s) (ZsA t points s) (Zan t points s):=by
 unfold Zfl at hk
 rw[Bool.and_eq_true] at hk
 obtain ⟨hf,hpl⟩:=hk
 have hlen:=ZbR hf
 have kIn:∀x,Zsy points x=true:=fun x=>hpl
 have vIn:∀x,Zod points x=points.contains x:=fun x=>rfl
 generalize hn:t.length=n at hlen
 have kfe:∀k,k < n→Zhp (List.getD t k (dflt Za))=true∧Zg9 (List.getD t k (dflt Za))=fenceAtT t k:=fun k hk=>by
  have hmem:t.getD k (dflt Za)∈t:=by rw[ZG (by omega)];exact List.getElem_mem (by omega)
  have hs:=Zk6 hf hmem
  exact ⟨(ZOH hs).2,ZNK hs⟩
 let OK:(Nat→Bool)→(Nat→Bool)→Bool→Prop:=fun M0 M moved=>(∀j,firstB t points s j=true→M j=true)∧(∀j,M j=true→Come (stepB t points) (firstB t points s) j)∧(moved=false→M=M0)∧(moved=true→card n M0 < card n M)
 have hltM:∀ {M0 M moved},OK M0 M moved→∀j,M j=true→j < n:=fun h j hj=>by
  have:=ZE4 (n:=t.length) (fun j=>ZIH) (fun k j=>ZFi) (h.2.1 j hj)
  omega
 have loop:∀m,∀M:Nat→Bool,n - card n M=m→(∀j,firstB t points s j=true→M j=true)→(∀j,M j=true→Come (stepB t points) (firstB t points s) j)→Goes (ZaN t points s) (.jmp (.l10 (rowOf n M) true)) (Zan t points s):=by
  intro m
  induction m using Nat.strongRecOn with
  | _ m ih=>
  intro M0 hm hA hC
  have inner:∀k,k < n→fenceAtT t k=false→∀Z:Prop,(∀M moved,OK M0 M moved→(moved=false→Z∧∀j,stepB t points k j=true→M0 j=true)→Goes (ZaN t points s) (.jmp (.l15 (rowOf n M) ((k+1:Nat):Int) moved)) (Zan t points s))→
    ∀j,j≤n→∀M moved,M k=true→OK M0 M moved→(moved=false→Z∧∀x,x < j→stepB t points k x=true→M0 x=true)→Goes (ZaN t points s) (.jmp (.l23 (rowOf n M) (k:Int) (rowOf n (nextB t (k:Int))) moved (j:Int))) (Zan t points s):=by
   intro k hkn hfk Z hz
   have hst:∀x,stepB t points k x=(nextB t (k:Int) x&& !points.contains (x:Int)):=fun x=>by unfold stepB;rw[hfk];rfl
   refine down ?_ fun j hj ih2=>?_
   ·intro M moved hMk hok hcl
    rw[Zi,ZaN,Ze,ZK,if_neg (by rw[Zx (Nat.lt_irrefl _)];decide),Zt (by omega)]
    exact hz M moved hok fun hm=>⟨(hcl hm).1,fun j hj=>(hcl hm).2 j (by have:=ZFi hj;omega) hj⟩
   ·intro M moved hMk hok hcl
    rw[Zi,ZaN,Ze,ZK,if_pos (ZS hj),Ze,ZK,if_pos (Zar hj),Ze,Int.toNat_natCast,Zbx hj,Zt (by omega)]
    have skip:(stepB t points k j=true→moved=false→M0 j=true)→Goes (ZaN t points s) (.jmp (.l23 (rowOf n M) (k:Int) (rowOf n (nextB t (k:Int))) moved ((j+1:Nat):Int))) (Zan t points s):=fun hsk=>by
     refine ih2 M moved hMk hok fun hm=>⟨(hcl hm).1,fun x hx hxN=>?_⟩
     by_cases hxj:x=j
     ·subst hxj;exact hsk hxN hm
     ·exact (hcl hm).2 x (by omega) hxN
    by_cases hN:nextB t (k:Int) j=true
    ·rw[if_pos hN,Ze,if_pos (Zar hj),Ze,Zbx hj]
     cases hMj:M j with
     | true=>
      rw[if_neg (by decide)]
      exact skip fun _ hm=>by rw[←hok.2.2.1 hm];exact hMj
     | false=>
      rw[if_pos (by decide),Ze,if_pos (kIn _),Ze,vIn]
      cases hpt:points.contains (j:Int) with
      | true=>
       rw[if_neg (by decide)]
       exact skip fun h _=>by rw[hst,hpt,Bool.not_true,Bool.and_false] at h;cases h
      | false=>
       rw[if_pos (by decide),Ze,if_pos (Zar hj),ZsW]
       have hca:=ZmL hMj hj
       refine ih2 (fun x=>M x || (x==j)) true (by rw[hMk];rfl) ⟨fun x hx=>(show (M x || (x==j))=true by rw[hok.1 x hx];rfl),fun x hx=>?_,fun h=>(by cases h),fun _=>?_⟩ (fun h=>by cases h)
       ·simp only[Bool.or_eq_true,beq_iff_eq] at hx
        rcases hx with hx | hx
        ·exact hok.2.1 x hx
        ·subst hx;exact .step (hok.2.1 k hMk) (by rw[hst,hN,hpt];rfl)
       ·cases moved with
        | true=>have:=hok.2.2.2 rfl;omega
        | false=>rw[hok.2.2.1 rfl] at hca;rw[hok.2.2.1 rfl];omega
    ·rw[if_neg hN]
     exact skip fun h _=>by rw[hst] at h;simp only[Bool.and_eq_true] at h;exact absurd h.1 hN
  have pass:∀k,k≤n→∀M moved,OK M0 M moved→(moved=false→∀k' j,k' < k→M0 k'=true→stepB t points k' j=true→M0 j=true)→Goes (ZaN t points s) (.jmp (.l15 (rowOf n M) (k:Int) moved)) (Zan t points s):=by
   refine down ?_ fun k hkn ih2=>?_
   ·intro M moved hok hcl
    rw[Zi,ZaN,Ze,ZK,if_neg (by rw[Zx (Nat.lt_irrefl _)];decide)]
    cases moved with
    | true=>
     have h1:=hok.2.2.2 rfl
     have h2:= @Zfe n M
     exact ih (n - card n M) (by omega) M rfl hok.1 hok.2.1
    | false=>
     have e:=hok.2.2.1 rfl
     subst e
     rw[Zi,ZaN,Ze,if_neg (by decide)]
     have hv:rowOf n M=Zan t points s:=by
      unfold Zan endsB
      rw[hn]
      exact Z4 fun j _=>ZoX hok.1 (fun k j hk hj=>hcl rfl k j (hltM hok k hk) hk hj) hok.2.1 j
     rw[hv];exact .leaf
   ·intro M moved hok hcl
    rw[Zi,ZaN,Ze,ZK,if_pos (ZS hkn),Ze,if_pos (Zar hkn),Ze,Int.toNat_natCast,Zbx hkn]
    cases hMk:M k with
    | false=>
     rw[if_pos (by decide),Zt (by omega)]
     refine ih2 M moved hok fun hm k' j hk' hk1 hj=>?_
     by_cases e:k'=k
     ·subst e;rw[←hok.2.2.1 hm,hMk] at hk1;cases hk1
     ·exact hcl hm k' j (by omega) hk1 hj
    | true=>
     have kn:ZcS t (k:Int)=true:=hf
     obtain ⟨kf1,vf1⟩:=kfe k hkn
     rw[if_neg (by decide),Ze,hn,if_pos (Zar hkn),Ze,if_pos kf1,Ze,vf1]
     cases hfk:fenceAtT t k with
     | true=>
      rw[if_pos rfl,Zt (by omega)]
      refine ih2 M moved hok fun hm k' j hk' hk1 hj=>?_
      by_cases e:k'=k
      ·subst e;unfold stepB at hj;rw[hfk] at hj;cases hj
      ·exact hcl hm k' j (by omega) hk1 hj
     | false=>
      rw[if_neg (by decide),Ze,if_pos kn]
      have hvn:Zbb t (k:Int)=rowOf n (nextB t (k:Int)):=by unfold Zbb;rw[hn]
      rw[hvn]
      refine inner k hkn hfk (∀k' j,k' < k→M0 k'=true→stepB t points k' j=true→M0 j=true) (fun M' moved' hok' hcl'=>ih2 M' moved' hok' fun hm k' j hk' hk1 hj=>?_) 0 (Nat.zero_le _) M moved hMk hok (fun hm=>⟨hcl hm,fun x hx=>by omega⟩)
      by_cases e:k'=k
      ·subst e;exact (hcl' hm).2 j hj
      ·exact (hcl' hm).1 k' j (by omega) hk1 hj
  rw[Zi,ZaN,Ze,if_pos rfl]
  exact pass 0 (Nat.zero_le _) M0 false ⟨hA,hC,fun _=>rfl,fun h=>by cases h⟩ fun _ k' j h=>by omega
 have kn:ZcS t s=true:=hf
 unfold ZsA
 rw[Ze,if_pos kn]
 have hvn:Zbb t s=rowOf n fun j=>if j < 0 then firstB t points s j else nextB t s j:=by
  unfold Zbb;rw[hn]
  exact Z4 fun j _=>by rw[if_neg (by omega)]
 rw[hvn]
 have first:∀k,k≤n→Goes (ZaN t points s) (.jmp (.l4 (k:Int) (rowOf n fun j=>if j < k then firstB t points s j else nextB t s j))) (Zan t points s):=by
  refine down ?_ fun k hkn ih=>?_
  ·rw[Zi,ZaN,Ze,ZK,if_neg (by rw[Zx (Nat.lt_irrefl _)];decide)]
   rw[show (rowOf n fun j=>if j < n then firstB t points s j else nextB t s j)=rowOf n (firstB t points s) from Z4 fun j hj=>by rw[if_pos hj]]
   exact loop _ (firstB t points s) rfl (fun j h=>h) (fun j h=>.start h)
  ·have nx:∀b,b=firstB t points s k→Goes (ZaN t points s) (.jmp (.l4 ((k+1:Nat):Int) ((rowOf n fun j=>if j < k then firstB t points s j else nextB t s j).set k b))) (Zan t points s):=fun b hb=>by
    rw[Zz9]
    rw[show (rowOf n fun j=>if j=k then b else if j < k then firstB t points s j else nextB t s j)=rowOf n fun j=>if j < k+1 then firstB t points s j else nextB t s j from Z4 fun j _=>by
     by_cases h1:j=k
     ·subst h1;rw[if_pos rfl,if_pos (by omega),hb]
     ·rw[if_neg h1]
      by_cases h2:j < k
      ·rw[if_pos h2,if_pos (by omega)]
      ·rw[if_neg h2,if_neg (by omega)]]
    exact ih
   rw[Zi,ZaN,Ze,ZK,if_pos (ZS hkn),Ze,if_pos (Zar hkn),Ze,Int.toNat_natCast,Zbx hkn,if_neg (c:=k < k) (Nat.lt_irrefl k),Zt (by omega)]
   cases hN:nextB t s k with
   | true=>
    rw[if_pos rfl,Ze,if_pos (kIn _),Ze,if_pos (Zar hkn),vIn]
    exact nx _ (by unfold firstB;rw[hN,Bool.true_and])
   | false=>
    rw[if_neg (by decide),Ze,if_pos (Zar hkn)]
    exact nx false (by unfold firstB;rw[hN,Bool.false_and])
 exact first 0 (Nat.zero_le _)
end Go.Ev
end

section
namespace Go.Ev
open Go
end Go.Ev
end

section
namespace Go.Ev
open Go
end Go.Ev
end

section
open Go Go.Ev
namespace Go.Ev
noncomputable section
noncomputable def ZAe:Run:=entG Zhl Zps (fun a=>Zfl a.1 a.2.1 a.2.2.1) (fun a=>Zan a.1 a.2.1 a.2.2.1)
theorem ZHG:EntOK Go.Proofs.Tryz.prog 71 ZAe:=ZJ (tb:=Zr3) (c:=Zpz) ZJl (by kernel_rfl) (by kernel_rfl) (by kernel_rfl) (fun a=>by kernel_rfl) fun ⟨t,points,s,_⟩ hk=>Zn (c:=Zpz) (K:=fun v=>(Zps v,tps (toForms Zhl (t,points,s,())))) (S:=ZgY t points s) (by kernel_rfl) (ZJi t points s) (ZGM t points s) (ZLh t points s hk)
end
end Go.Ev
end

section
open Go Go.Ev
namespace Go.Ev
noncomputable section
def Zhy:Sig:=[(true,(.sl Za)),(false,(.sl (.int .i64))),(false,(.int .i64)),(false,(.int .i64))]
noncomputable def ZuN:Tbl:=[(71,ZAe)]
theorem ZJQ:∀p∈ZuN,EntOK Go.Proofs.Tryz.prog p.1 p.2:=Zg ZHG (Zv)
noncomputable def ZqG:Code:=Go.Proofs.Tryz.f49.body.getD .skip
def Zq8:Tb:=[]
def ZAN (t:List (El Za)) (points:List Int) (s:Int) (l:Int):Empty→JT Empty (Bool):=fun j=>nomatch j
def ZxQ (t:List (El Za)) (points:List Int) (s:Int) (l:Int):JT Empty (Bool):=.br (decide (l≥(0:Int))) (.br (decide (l < (Int.ofNat (List.length t)))) (.br (Zfl t points s) (.br ((decide ((0:Int)≤l))&&(decide (l < (Int.ofNat (List.length (Zan t points s)))))) (.leaf (List.getD (Zan t points s) (Int.toNat l) (dflt .bool))) (.no)) (.no)) (.leaf false)) (.leaf false)
def ZgX (t:List (El Za)) (points:List Int) (s:Int) (l:Int):Bool:=bif (decide (l≥(0:Int))) then bif (decide (l < (Int.ofNat (List.length t)))) then bif (Zfl t points s) then bif ((decide ((0:Int)≤l))&&(decide (l < (Int.ofNat (List.length (Zan t points s)))))) then (List.getD (Zan t points s) (Int.toNat l) (dflt .bool)) else false else false else false else false
def Zit (t:List (El Za)) (points:List Int) (s:Int) (l:Int):Bool:=bif (decide (l≥(0:Int))) then bif (decide (l < (Int.ofNat (List.length t)))) then bif (Zfl t points s) then bif ((decide ((0:Int)≤l))&&(decide (l < (Int.ofNat (List.length (Zan t points s)))))) then true else false else false else true else true
theorem ZKv (t:List (El Za)) (points:List Int) (s:Int) (l:Int) (hk:Zit t points s l=true):Goes (ZAN t points s l) (ZxQ t points s l) (ZgX t points s l):=Goes.brk hk (fun hk=>Goes.brk hk (fun hk=>Goes.brk hk (fun hk=>Goes.brk hk (fun hk=>Goes.leaf) (fun hk=>Goes.nok hk)) (fun hk=>Goes.nok hk)) (fun hk=>Goes.leaf)) (fun hk=>Goes.leaf)
def Zp5:Bool→AV:=fun (r:Bool)=>.d .bool r
def Zgt (t:List (El Za)) (points:List Int) (s:Int) (l:Int):Empty→Nat×St:=fun j=>nomatch j
theorem ZI7 (t:List (El Za)) (points:List Int) (s:Int) (l:Int) (L:Lt):entryA Go.Proofs.Tryz.prog (clOf ZuN) Zq8 Go.Proofs.Tryz.f49 ZqG L (toForms Zhy (t,points,s,l,()))=(ZxQ t points s l).run (fun v=>some (Zp5 v,tps (toForms Zhy (t,points,s,l,())))) fun j=>L (Zgt t points s l j).1 (Zgt t points s l j).2:=by kernel_rfl
theorem ZGO (t:List (El Za)) (points:List Int) (s:Int) (l:Int):∀(L:Lt) (j:Empty),procOf (procsF Go.Proofs.Tryz.prog (clOf ZuN) Zq8 Go.Proofs.Tryz.f49 ZqG (toForms Zhy (t,points,s,l,()))) (Zgt t points s l j).1 L (Zgt t points s l j).2=(ZAN t points s l j).run (fun v=>some (Zp5 v,tps (toForms Zhy (t,points,s,l,())))) fun j=>L (Zgt t points s l j).1 (Zgt t points s l j).2:=fun L j=>nomatch j
noncomputable def ZzI:Run:=entG Zhy Zp5 (fun a=>Zit a.1 a.2.1 a.2.2.1 a.2.2.2.1) (fun a=>ZgX a.1 a.2.1 a.2.2.1 a.2.2.2.1)
theorem ZHm:EntOK Go.Proofs.Tryz.prog 49 ZzI:=ZJ (tb:=Zq8) (c:=ZqG) ZJQ (by kernel_rfl) (by kernel_rfl) (by kernel_rfl) (fun a=>by kernel_rfl) fun ⟨t,points,s,l,_⟩ hk=>Zn (c:=ZqG) (K:=fun v=>(Zp5 v,tps (toForms Zhy (t,points,s,l,())))) (S:=Zgt t points s l) (by kernel_rfl) (ZI7 t points s l) (ZGO t points s l) (ZKv t points s l hk)
end
end Go.Ev
end

section
open Go
namespace Go.Ev
theorem ZDG {t:List (El Za)} {points:List Int} (h:flowOK t=true) (hp:points.length < 4611686018427387904) (s l:Int):
  Zgy t points s l=true∧Zit t points s l=true∧ZgX t points s l=Zdz t points s l∧Zdz t points s l=(decide (0≤l∧l < (t.length:Int))&&endsB t points s l.toNat):=by
 have hl:=ZbR h
 have k4:Zfl t points s=true:=by unfold Zfl;rw[h,decide_eq_true hp];rfl
 obtain ⟨kr,vr⟩:=ZHY h hp s l
 refine ⟨kr,?_,?_,vr⟩
 ·unfold Zit
  by_cases h0:l≥0
  ·rw[decide_eq_true h0,cond_true]
   by_cases h1:l < Int.ofNat t.length
   ·have h2:decide (l < Int.ofNat (Zan t points s).length)=true:=by
     unfold Zan
     rw[ZK];exact decide_eq_true h1
    simp only[decide_eq_true h1,k4,h2,Bool.and_self,Bool.true_and,cond_true]
   ·rw[decide_eq_false h1];rfl
  ·rw[decide_eq_false h0];rfl
 ·rw[vr]
  unfold ZgX
  by_cases h0:l≥0
  ·rw[decide_eq_true h0,cond_true]
   by_cases h1:l < Int.ofNat t.length
   ·have h2:decide (l < Int.ofNat (Zan t points s).length)=true:=by
     unfold Zan
     rw[ZK];exact decide_eq_true h1
    simp only[decide_eq_true h1,k4,h2,Bool.and_self,Bool.true_and,cond_true]
    rw[decide_eq_true (show 0≤l∧l < (t.length:Int) from ⟨h0,h1⟩),Bool.true_and]
    unfold Zan
    obtain ⟨j,rfl⟩:=Int.eq_ofNat_of_zero_le h0
    rw[Int.toNat_natCast,Zbx (by have:(j:Int) < (t.length:Int):=h1;omega)]
   ·rw[decide_eq_false h1,decide_eq_false (show ¬(0≤l∧l < (t.length:Int)) from fun h=>h1 h.2)];rfl
  ·rw[decide_eq_false h0,decide_eq_false (show ¬(0≤l∧l < (t.length:Int)) from fun h=>h0 h.1)];rfl
end Go.Ev
end

section
open Go Go.Ev
namespace Go.Ev
noncomputable section
noncomputable def Zwb:Run:=entG Zd6 Zkf (fun a=>Zbp a.1) (fun a=>ZH a.1)
theorem ZBH:EntOK Go.Proofs.Tryz.prog 29 Zwb:=ZJ (tb:=ZnM) (c:=Zkz) ZCh (by kernel_rfl) (by kernel_rfl) (by kernel_rfl) (fun a=>by kernel_rfl) fun ⟨p,_⟩ hk=>Zn (c:=Zkz) (K:=fun v=>(Zkf v,tps (toForms Zd6 (p,())))) (S:=ZdU p) (by kernel_rfl) (ZBZ p) (ZCt p) (ZEa p hk)
end
end Go.Ev
end

section
open Go
namespace Go.Ev
noncomputable def openR (p:El Zc) (x:El Zd):Bool:=ZgX (List.getD p.2 (Int.toNat x.1) (dflt (.sl Za))) [] x.2.1 x.2.2
noncomputable def openRK (p:El Zc) (x:El Zd):Bool:=(decide ((0:Int)≤x.1)&&decide (x.1 < Int.ofNat (List.length p.2)))&&Zit (List.getD p.2 (Int.toNat x.1) (dflt (.sl Za))) [] x.2.1 x.2.2
noncomputable def Zpn (p:El Zc):List (El Zd):=(ZH p).filter (openR p)
noncomputable def ZpQ (p:El Zc):Bool:=Zbp p&&(decide ((ZH p).length < 10000000000)&&(ZH p).all (openRK p))
end Go.Ev
end

section
open Go
namespace Go.Ev
end Go.Ev
end

section
open Go
namespace Go.Ev
def fromX (t:List (El Za)) (i:Int) (j:Nat):Bool:=(comeL (fun k j=>nextB t (k:Int) j) (nextB t i) t.length).getD j false
theorem ZLB (t:List (El Za)) (i:Int) (j:Nat):fromB t i j=fromX t i j:=ZFJ (fun j=>ZdS) (fun k j=>ZdS) j
def behX (p:El Zc) (l:List Acc) (c d:Nat):Bool:=
 decide (d < l.length)&&(thA l d==thA l c&&(d==c || ((inA l d==inA l c&&decide (paA l d > paA l c)) || (decide (0≤inA l d)&&fromX (thrOf p l c) (inA l c) (inA l d).toNat))))
theorem ZPV (p:El Zc) (l:List Acc) (c d:Nat):behB p l c d=behX p l c d:=by
 unfold behB behX
 rw[ZLB]
def chX (p:El Zc) (l:List Acc) (a i k:Nat):Bool:=decide (k < l.length)&&(!(thA l k==thA l a)&&(clB l i k || behX p l i k))
def isX (p:El Zc) (l:List Acc) (a k:Nat):Bool:=(comeL (chX p l a) (chS l a) l.length).getD k false
theorem ZQF (p:El Zc) (l:List Acc) (a k:Nat):isB p l a k=isX p l a k:=by
 have e:chB p l a=chX p l a:=by
  funext i k
  unfold chB chX
  rw[ZPV]
 unfold isB isX
 rw[e]
 refine ZFJ (fun j h=>?_) (fun k j h=>?_) k
 ·unfold chS at h
  rw[Bool.and_eq_true,decide_eq_true_eq] at h
  exact h.1
 ·unfold chX at h
  rw[Bool.and_eq_true,decide_eq_true_eq] at h
  exact h.1
def backX (p:El Zc) (l:List Acc) (a b:Nat):Bool:=thA l b==thA l a&&(List.range l.length).any fun k=>isX p l a k&&clB l k b
theorem ZPu (p:El Zc) (l:List Acc) (a b:Nat):backB p l a b=backX p l a b:=by
 unfold backB backX
 simp only[ZQF]
end Go.Ev
end

section
open Go
namespace Go.Ev
theorem ZLT (p:El Zc):(ZH p).length≤(ofC p).length*(ofC p).length:=by
 unfold ZH delsFrom
 have:=ZoV (ZL0 p (ofC p)) (List.range' 0 ((ofC p).length - 0))
 rw[List.length_range',Nat.sub_zero] at this
 exact this
theorem Zzd {p:El Zc} {x:El Zd} (h:x∈ZH p):∃s r,s < (ofC p).length∧r < (ofC p).length∧stB' (ofC p) s=true∧delB p (ofC p) s r=true∧x=delPair (ofC p) s r:=by
 unfold ZH delsFrom at h
 obtain ⟨s,hs,hx⟩:=List.mem_flatMap.1 h
 rw[Nat.sub_zero,←List.range_eq_range'] at hs
 unfold delS at hx
 split at hx
 ·rename_i hst
  obtain ⟨r,hr,rfl⟩:=List.mem_map.1 hx
  obtain ⟨hr1,hr2⟩:=List.mem_filter.1 hr
  rw[←List.range_eq_range'] at hr1
  exact ⟨s,r,List.mem_range.1 hs,List.mem_range.1 hr1,hst,hr2,rfl⟩
 ·cases hx
theorem ZzA {p:El Zc} (h:smallAll p=true) {x:El Zd} (hx:x∈ZH p):openK p x=true∧openRK p x=true∧openR p x=openB p x:=by
 obtain ⟨s,r,hs,hr,h1,h2,rfl⟩:=Zzd hx
 obtain ⟨t0,t1,hf,i0,i1⟩:=Zgl h hs
 have hf':flowOK (List.getD p.2 (Int.toNat (delPair (ofC p) s r).1) (dflt (.sl Za)))=true:=hf
 obtain ⟨f1,f2,f3,_⟩:=ZDG hf' (points:=[]) (by decide) (delPair (ofC p) s r).2.1 (delPair (ofC p) s r).2.2
 have hin:(decide ((0:Int)≤(delPair (ofC p) s r).1)&&decide ((delPair (ofC p) s r).1 < Int.ofNat (List.length p.2)))=true:=by
  rw[Bool.and_eq_true,decide_eq_true_eq,decide_eq_true_eq];exact ⟨t0,t1⟩
 unfold openK openRK openR openB
 rw[hin,f1,f2]
 exact ⟨rfl,rfl,f3⟩
theorem ZMV {p:El Zc} (h:smallAll p=true) (hN:(ofC p).length≤20000) (hT:p.2.length≤100):
  Z3 p=true∧Zbp p=true∧ZH p=Zk p∧ZqN (Zk p) (Zk p)=true∧ZaF p=true∧ZpQ p=true∧Zpn p=Zm p∧ZqN (Zm p) (Zm p)=true:=by
 have hNN:(ofC p).length*(ofC p).length≤20000*20000:=Nat.mul_le_mul hN hN
 have hTN:p.2.length*((ofC p).length*(ofC p).length)≤100*(20000*20000):=Nat.mul_le_mul hT hNN
 have k1:Z3 p=true:=by
  unfold Z3
  rw[h,decide_eq_true (show (ofC p).length < 1000000000 by omega),decide_eq_true (show p.2.length < 1000000000 by omega),decide_eq_true]
  ·rfl
  ·unfold limit;omega
 have k2:Zbp p=true:=by unfold Zbp;rw[h,decide_eq_true (show (ofC p).length < 1000000 by omega)];rfl
 have e:=ZNM k1
 have hl:=ZLT p
 have hl2:(ZH p).length≤400000000:=by omega
 have k3:ZaF p=true:=by
  unfold ZaF
  rw[k1,e,decide_eq_true (Nat.lt_of_le_of_lt hl2 (by decide)),Bool.true_and,Bool.true_and]
  exact List.all_eq_true.2 fun x hx=>(ZzA h hx).1
 have k4:ZpQ p=true:=by
  unfold ZpQ
  rw[k2,decide_eq_true (Nat.lt_of_le_of_lt hl2 (by decide)),Bool.true_and,Bool.true_and]
  exact List.all_eq_true.2 fun x hx=>(ZzA h hx).2.1
 have e2:Zpn p=Zm p:=by
  unfold Zpn Zm
  rw[e]
  exact List.filter_congr fun x hx=>(ZzA h hx).2.2
 refine ⟨k1,k2,e.symm,decide_eq_true (by rw[e];exact Nat.lt_of_le_of_lt hl2 (by decide)),k3,k4,e2,decide_eq_true ?_⟩
 have:(Zm p).length≤(Zk p).length:=by unfold Zm;exact List.length_filter_le _ _
 rw[e] at this
 exact Nat.lt_of_le_of_lt (Nat.le_trans this hl2) (by decide)
def delBX (p:El Zc) (l:List Acc) (s r:Nat):Bool:=((thA l r==thA l s)&&ldB' l r)&&(fromX (thrOf p l s) (inA l s) (inA l r).toNat&&backX p l r s)
def delsX (p:El Zc) (l:List Acc):List (El Zd):=(List.range' 0 l.length).flatMap fun s=>if stB' l s then ((List.range' 0 l.length).filter fun r=>delBX p l s r).map (delPair l s) else []
theorem ZO2 (p:El Zc):ZH p=delsX p (ofC p):=by
 unfold ZH delsFrom delsX delS
 rw[Nat.sub_zero]
 have:∀l s r,delB p l s r=delBX p l s r:=fun l s r=>by unfold delB delBX;rw[ZLB,ZPu]
 simp only[this]
def endsX (t:List (El Za)) (points:List Int) (s:Int) (j:Nat):Bool:=(comeL (stepB t points) (firstB t points s) t.length).getD j false
theorem ZLA (t:List (El Za)) (points:List Int) (s:Int) (j:Nat):endsB t points s j=endsX t points s j:=ZFJ (fun j=>ZIH) (fun k j=>ZFi) j
end Go.Ev
end

section
namespace Go.Ev
open Go
theorem Zsv {zs:List Int} {j:Nat} (h:j < zs.length):zs.toArray[j]! =zs[j]:=by simp[h]
theorem ZKI {zs:List Int} {x:Int} :x∈Go.Lib.compact zs↔x∈zs:=by
 unfold Go.Lib.compact Go.Lib.compactUpTo
 rw[List.mem_map]
 constructor
 ·rintro ⟨j,hj,rfl⟩
  obtain ⟨h1,_⟩:=List.mem_filter.1 hj
  have hj:=List.mem_range.1 h1
  rw[Zsv hj]
  exact List.getElem_mem hj
 ·intro hx
  obtain ⟨j,hj,he⟩:=List.mem_iff_getElem.1 hx
  induction j using Nat.strongRecOn with
  | _ j ih=>
  by_cases hk:Go.Lib.keeps zs.toArray j=true
  ·exact ⟨j,List.mem_filter.2 ⟨List.mem_range.2 hj,hk⟩,by rw[Zsv hj,he]⟩
  ·unfold Go.Lib.keeps at hk
   simp only[ne_eq,decide_eq_true_eq,not_or,Decidable.not_not] at hk
   obtain ⟨h0,h1⟩:=hk
   have hj':j - 1 < zs.length:=by omega
   rw[Zsv hj,Zsv hj'] at h1
   exact ih (j - 1) (by omega) hj' (h1▸he)
theorem ZB4 {zs:List Int} (h:zs.Pairwise (· ≤ ·)):(Go.Lib.compact zs).Pairwise (· < ·):=by
 unfold Go.Lib.compact Go.Lib.compactUpTo
 have hg:=List.pairwise_iff_getElem.1 h
 refine List.pairwise_map.2 ((List.Pairwise.filter _ List.pairwise_lt_range).imp_of_mem ?_)
 intro i j hi hj hij
 obtain ⟨h1,_⟩:=List.mem_filter.1 hi
 obtain ⟨h2,h3⟩:=List.mem_filter.1 hj
 have hi:=List.mem_range.1 h1
 have hj:=List.mem_range.1 h2
 have hj':j - 1 < zs.length:=by omega
 unfold Go.Lib.keeps at h3
 simp only[ne_eq,decide_eq_true_eq] at h3
 rw[Zsv hi,Zsv hj]
 rw[Zsv hj,Zsv hj'] at h3
 have a1:zs[i]≤zs[j - 1]:=by
  by_cases e:i=j - 1
  ·subst e;exact Int.le_refl _
  ·exact hg i (j - 1) hi hj' (by omega)
 have a2:zs[j - 1]≤zs[j]:=hg (j - 1) j hj' hj (by omega)
 rcases h3 with h3 | h3
 ·omega
 ·have:zs[j]≠zs[j - 1]:=h3
  omega
@[reducible] def risL (l:List Int):List Int:=Go.Lib.compact (sorted l)
theorem ZNl (l:List Int):(sorted l).Pairwise (· ≤ ·):=by
 have:=List.pairwise_mergeSort (le:=fun x y:Int=>decide (x≤y)) (fun a b c h1 h2=>by simp at*;omega) (fun a b=>by simp;omega) l
 exact this.imp fun h=>by simpa using h
theorem ZLK {l:List Int} {x:Int} :x∈risL l↔x∈l:=by rw[ZKI,List.mem_mergeSort]
theorem Zz6 {l:List Int} :(risL l).Pairwise (· < ·):=ZB4 (ZNl l)
theorem ZGe {l:List Int} :(risL l).length≤l.length:=by
 have:=Go.Lib.compact_length_le (sorted l)
 rwa[List.length_mergeSort] at this
def putL (n:Int):List Int→List Int
 | []=>[n]
 | x :: r=>if x < n then x :: putL n r else if x=n then x :: r else n :: x :: r
theorem ZEL {n x:Int} :∀ {l:List Int},x∈putL n l↔x=n∨x∈l
 | []=>by simp[putL]
 | y :: r=>by
  unfold putL
  split
  ·rw[List.mem_cons,ZEL,List.mem_cons]
   constructor
   ·rintro (h | h | h) <;> simp[h]
   ·rintro (h | h | h) <;> simp[h]
  ·split
   ·rename_i h
    subst h
    simp
   ·simp
theorem ZzW {n:Int} :∀ {l:List Int},l.Pairwise (· < ·)→(putL n l).Pairwise (· < ·)
 | [],_=>by simp[putL]
 | y :: r,h=>by
  obtain ⟨h1,h2⟩:=List.pairwise_cons.1 h
  unfold putL
  split
  ·refine List.pairwise_cons.2 ⟨fun z hz=>?_,ZzW h2⟩
   rcases ZEL.1 hz with rfl | hz
   ·assumption
   ·exact h1 z hz
  ·split
   ·exact h
   ·refine List.pairwise_cons.2 ⟨fun z hz=>?_,h⟩
    rcases List.mem_cons.1 hz with rfl | hz
    ·omega
    ·have:=h1 z hz;omega
def putsL (acc:List Int) (l:List Int):List Int:=l.foldl (fun a n=>putL n a) acc
theorem ZkY {x:Int} :∀ {l acc:List Int},x∈putsL acc l↔x∈acc∨x∈l
 | [],acc=>by simp[putsL]
 | n :: r,acc=>by
  show x∈putsL (putL n acc) r↔_
  rw[ZkY,ZEL,List.mem_cons]
  constructor
  ·rintro ((h | h) | h) <;> simp[h]
  ·rintro (h | h | h) <;> simp[h]
theorem ZrA:∀ {l acc:List Int},acc.Pairwise (· < ·)→(putsL acc l).Pairwise (· < ·)
 | [],acc,h=>h
 | n :: r,acc,h=>ZrA (l:=r) (ZzW h)
end Go.Ev
end

section
open Go
namespace Go.Ev
section
variable {α:Type} (U:List Int→α→Bool)
def stepG (pts:List Int) (l:List α) (acc:Int×List α) (k:Nat):Int×List α:=if (l.filter (U (pts++[(k:Int)]))).length < acc.2.length then ((k:Int),l.filter (U (pts++[(k:Int)]))) else acc
def bestFrom (n:Nat) (pts:List Int) (l:List α) (k:Nat) (acc:Int×List α):Int×List α:=(List.range' k (n - k)).foldl (stepG U pts l) acc
def bestG (n:Nat) (pts:List Int) (l:List α):Int×List α:=bestFrom U n pts l 0 (0,l)
def greedyL (n:Nat):Nat→List Int→List α→List Int
 | 0,pts,_=>pts
 | f+1,pts,l=>if l.length=0 then pts else greedyL n f (pts++[(bestG U n pts l).1]) (bestG U n pts l).2
def pruneL (all:List α):List Int→List Int→List Int
 | done,[]=>done
 | done,x :: r=>if (all.filter (U (done++r))).length=0 then pruneL all done r else pruneL all (done++[x]) r
variable {U}
theorem Zyz {n:Nat} {pts:List Int} {l:List α} {acc:Int×List α} :bestFrom U n pts l n acc=acc:=by unfold bestFrom;rw[Nat.sub_self];rfl
theorem Zvs {n:Nat} {pts:List Int} {l:List α} {k:Nat} (hk:k < n) {acc:Int×List α} :bestFrom U n pts l k acc=bestFrom U n pts l (k+1) (stepG U pts l acc k):=by
 unfold bestFrom
 rw[show n - k=(n - (k+1))+1 by omega,List.range'_succ,List.foldl_cons]
theorem ZIC {n:Nat} {pts:List Int} {l:List α} :∀(m k:Nat),k+m=n→∀acc:Int×List α,
  ((bestFrom U n pts l k acc)=acc∨∃j:Nat,k≤j∧j < n∧(bestFrom U n pts l k acc).1=(j:Int)∧(bestFrom U n pts l k acc).2=l.filter (U (pts++[(j:Int)]))∧(bestFrom U n pts l k acc).2.length < acc.2.length)∧
  (bestFrom U n pts l k acc).2.length≤acc.2.length∧∀j:Nat,k≤j→j < n→(bestFrom U n pts l k acc).2.length≤(l.filter (U (pts++[(j:Int)]))).length:=by
 intro m
 induction m with
 | zero=>
  intro k hk acc
  have:k=n:=by omega
  subst this
  rw[Zyz]
  exact ⟨.inl rfl,Nat.le_refl _,fun j h1 h2=>by omega⟩
 | succ m ih=>
  intro k hk acc
  rw[Zvs (by omega)]
  obtain ⟨h1,h2,h3⟩:=ih (k+1) (by omega) (stepG U pts l acc k)
  unfold stepG at h1 h2 h3 ⊢
  by_cases hc:(l.filter (U (pts++[(k:Int)]))).length < acc.2.length
  ·rw[if_pos hc] at h1 h2 h3 ⊢
   refine ⟨.inr ?_,by simp only at h2;omega,fun j j1 j2=>?_⟩
   ·rcases h1 with h1 | ⟨j,j1,j2,j3,j4,j5⟩
    ·rw[h1];exact ⟨k,Nat.le_refl _,by omega,rfl,rfl,hc⟩
    ·exact ⟨j,by omega,j2,j3,j4,by simp only at j5;omega⟩
   ·by_cases e:j=k
    ·subst e;exact h2
    ·exact h3 j (by omega) j2
  ·rw[if_neg hc] at h1 h2 h3 ⊢
   refine ⟨?_,h2,fun j j1 j2=>?_⟩
   ·rcases h1 with h1 | ⟨j,j1,j2,j3⟩
    ·exact .inl h1
    ·exact .inr ⟨j,by omega,j2,j3⟩
   ·by_cases e:j=k
    ·subst e;omega
    ·exact h3 j (by omega) j2
def Cuts (U:List Int→α→Bool) (n:Nat) (l:List α):Prop:=∀x∈l,∃k:Nat,k < n∧∀pts:List Int,U (pts++[(k:Int)]) x=false
theorem ZOu {p:α→Bool} {l:List α} {x:α} (hx:x∈l) (hp:p x=false):(l.filter p).length < l.length:=by
 induction l with
 | nil=>cases hx
 | cons y r ih=>
  rw[List.filter_cons]
  rcases List.mem_cons.1 hx with rfl | hx
  ·rw[hp,if_neg Bool.false_ne_true]
   have:=List.length_filter_le p r
   show (List.filter p r).length < r.length+1
   omega
  ·have:=ih hx
   split
   ·show (List.filter p r).length+1 < r.length+1
    omega
   ·show (List.filter p r).length < r.length+1
    omega
theorem ZDi {n:Nat} {pts:List Int} {l:List α} (hc:Cuts U n l) (hl:0 < l.length):
  ∃j:Nat,j < n∧(bestG U n pts l).1=(j:Int)∧(bestG U n pts l).2=l.filter (U (pts++[(j:Int)]))∧(bestG U n pts l).2.length < l.length:=by
 obtain ⟨h1,h2,h3⟩:=ZIC (U:=U) (n:=n) (pts:=pts) (l:=l) n 0 (by omega) (0,l)
 have hx:l[0]∈l:=List.getElem_mem hl
 obtain ⟨k,hk,hU⟩:=hc _ hx
 have h4:=h3 k (Nat.zero_le _) hk
 have h5:=ZOu hx (hU pts)
 unfold bestG
 rcases h1 with h1 | ⟨j,_,j2,j3,j4,j5⟩
 ·rw[h1] at h4
  simp only at h4
  omega
 ·exact ⟨j,j2,j3,j4,j5⟩
theorem ZLz {n:Nat} {l m:List α} (h:Cuts U n l) (hs:∀x∈m,x∈l):Cuts U n m:=fun x hx=>h x (hs x hx)
def Mem (U:List Int→α→Bool):Prop:=∀ {p q:List Int},(∀k,k∈p↔k∈q)→∀x,U p x=U q x
theorem Zxb {all:List α} :∀(done rest:List Int),(pruneL U all done rest).length≤done.length+rest.length∧∀x∈pruneL U all done rest,x∈done∨x∈rest
 | done,[]=>by simp[pruneL]
 | done,x :: r=>by
  unfold pruneL
  split
  ·obtain ⟨h1,h2⟩:=Zxb (all:=all) done r
   exact ⟨by simp;omega,fun y hy=>(h2 y hy).imp id fun h=>by simp[h]⟩
  ·obtain ⟨h1,h2⟩:=Zxb (all:=all) (done++[x]) r
   refine ⟨by simp at h1 ⊢;omega,fun y hy=>?_⟩
   rcases h2 y hy with h | h
   ·rcases List.mem_append.1 h with h | h
    ·exact .inl h
    ·rw[List.mem_singleton] at h;simp[h]
   ·simp[h]
end
end Go.Ev
end

section
open Go
namespace Go.Ev
abbrev PairD:=El Zd
theorem ZK2 {a b:Nat} (h:a < b):decide (Int.ofNat a < Int.ofNat b)=true:=decide_eq_true (Int.ofNat_lt.2 h)
theorem ZFh {a b:Nat} (h:¬a < b):decide (Int.ofNat a < Int.ofNat b)=false:=decide_eq_false fun h'=>h (Int.ofNat_lt.1 h')
theorem ZN6 {y:Int} {n:Nat} (h0:0≤y) (h:y < (n:Int)):y.toNat < n:=by omega
noncomputable def uB (t:List (El Za)) (pts:List Int) (x:PairD):Bool:=decide ((0:Int)≤x.2.2∧(show Int from x.2.2) < (t.length:Int))&&endsB t pts x.2.1 (Int.toNat x.2.2)
def uX (t:List (El Za)) (pts:List Int) (x:PairD):Bool:=decide ((0:Int)≤x.2.2∧(show Int from x.2.2) < (t.length:Int))&&endsX t pts x.2.1 (Int.toNat x.2.2)
theorem ZP0 (t:List (El Za)):uB t=uX t:=by
 funext pts x
 unfold uB uX
 rw[ZLA]
theorem ZtQ {p q:List Int} (h:∀k,k∈p↔k∈q) (j:Int):p.contains j=q.contains j:=by
 rw[Bool.eq_iff_iff,List.contains_iff_mem,List.contains_iff_mem,h]
theorem ZQq (t:List (El Za)):Mem (uB t):=fun {p q} h x=>by
 unfold uB endsB
 have e1:stepB t p=stepB t q:=by
  funext k j
  unfold stepB
  rw[ZtQ h]
 have e2:firstB t p x.2.1=firstB t q x.2.1:=by
  funext j
  unfold firstB
  rw[ZtQ h]
 rw[e1,e2]
theorem ZNE {t:List (El Za)} {pts:List Int} {x:PairD} (h:(show Int from x.2.2)∈pts):uB t pts x=false:=by
 unfold uB
 by_cases hr:(0:Int)≤x.2.2∧(show Int from x.2.2) < (t.length:Int)
 ·rw[decide_eq_true hr,Bool.true_and,Bool.eq_false_iff]
  intro he
  unfold endsB at he
  have hc:∀j,pts.contains ((j:Nat):Int)=true→firstB t pts x.2.1 j=false∧∀k,stepB t pts k j=false:=fun j hj=>by
   unfold firstB stepB
   rw[hj]
   simp
  have hj:pts.contains (((Int.toNat x.2.2:Nat)):Int)=true:=by
   rw[List.contains_iff_mem,Int.toNat_of_nonneg hr.1]
   exact h
  cases Zce.1 he with
  | start h=>rw[(hc _ hj).1] at h;cases h
  | step _ h=>rw[(hc _ hj).2] at h;cases h
 ·rw[decide_eq_false hr,Bool.false_and]
theorem ZPZ {t:List (El Za)} {p q:List Int} (h:∀k,k∈p→k∈q) {x:PairD} (hx:uB t q x=true):uB t p x=true:=by
 unfold uB at hx ⊢
 rw[Bool.and_eq_true] at hx ⊢
 refine ⟨hx.1,?_⟩
 have hc:∀j:Int,(! q.contains j)=true→(! p.contains j)=true:=fun j hj=>by
  rw[Bool.not_eq_true',Bool.eq_false_iff] at hj ⊢
  intro hp
  rw[List.contains_iff_mem] at hp
  exact hj (by rw[List.contains_iff_mem];exact h j hp)
 unfold endsB at hx ⊢
 rw[Zce]
 refine ZOq (fun j hj=>?_) (fun k j hj=>?_) (Zce.1 hx.2)
 ·unfold firstB at hj ⊢
  rw[Bool.and_eq_true] at hj ⊢
  exact ⟨hj.1,hc _ hj.2⟩
 ·unfold stepB at hj ⊢
  rw[Bool.and_eq_true,Bool.and_eq_true] at hj ⊢
  exact ⟨hj.1,hj.2.1,hc _ hj.2.2⟩
theorem ZLa (l:List Int):risL l=putsL [] l:=Zn6 Zz6 (ZrA .nil) fun x=>by rw[ZLK,ZkY];simp
def ofB (t:Int) (x:PairD):Bool:=(show Int from x.1)==t
def missL (U:List Int→PairD→Bool) (pts:List Int) (l:List PairD):List PairD:=l.filter (U pts)
def inR (n:Nat) (k:Int):Bool:=decide (0≤k)&&decide (k < (n:Int))
def pruneV (U:List Int→PairD→Bool) (n:Nat) (all:List PairD) (pts:List Int):List Int:=pruneL U all [] (putsL [] (pts.filter (inR n)))
def greedyV (U:List Int→PairD→Bool) (n:Nat) (l:List PairD):List Int:=putsL [] (greedyL U n l.length [] l)
def shorter (a b:List Int):List Int:=if b.length < a.length then b else a
def pointsV (U:List Int→PairD→Bool) (n:Nat) (all op:List PairD):List Int:=
 shorter (shorter (pruneV U n all (greedyV U n op)) (pruneV U n all (op.map fun x=>(show Int from x.2.1)+1))) (pruneV U n all (op.map fun x=>x.2.2))
def cutOK (p:El Zc):Bool:=smallAll p&&(decide ((ofC p).length≤20000)&&decide (p.2.length≤100))
def thrT (p:El Zc) (t:Int):List (El Za):=List.getD p.2 (Int.toNat t) (dflt (.sl Za))
def rightT (p:El Zc) (t:Int):Bool:=decide ((0:Int)≤t)&&(decide (t < (p.2.length:Int))&&decide (checkC p=0))
end Go.Ev
end

section
open Go
namespace Go.Ev
def ZT (l:List (El Zd)) (t:Int):List (El Zd):=l.filter (ofB t)
def Zb2 (l:List (El Zd)) (t:Int):Bool:=decide (l.length < 1000000000000)
theorem ZO6 (l:List (El Zd)) (t:Int) (hk:Zb2 l t=true):Goes (ZvC l t) (ZJo l t) (ZT l t):=by
 have hN:=of_decide_eq_true hk
 have loop:∀k,k≤l.length→∀out:List (El Zd),out.length≤k→Goes (ZvC l t) (.jmp (.l4 (k:Int) out)) (out++(l.drop k).filter (ofB t)):=by
  refine down ?_ fun k hk ih=>?_
  ·intro out ho
   rw[Zi,ZvC,Ze,if_neg (by rw[Zx (Nat.lt_irrefl _)];decide),List.drop_length]
   simp only[List.filter_nil,List.append_nil]
   exact .leaf
  ·intro out ho
   have b1:Nat.ble ((out.length+1)*24) limit=true:=Nat.ble_eq_true_of_le (by unfold limit;omega)
   rw[Zi,ZvC,ZP hk,List.filter_cons]
   simp only[Ze,ZS hk,nng,Bool.and_self,if_true,Int.toNat_natCast,ZG hk,b1,Zt (k:=k) (by omega)]
   by_cases c:ofB t l[k]=true
   ·have c':=c
    unfold ofB at c'
    rw[if_pos c',if_pos c]
    have:=ih (out++[l[k]]) (by simp;omega)
    rw[List.append_assoc] at this
    exact this
   ·have c':=c
    unfold ofB at c'
    rw[if_neg c',if_neg c]
    exact ih out (by omega)
 have:=loop 0 (Nat.zero_le _) [] (Nat.zero_le _)
 rw[List.nil_append,List.drop_zero] at this
 exact this
end Go.Ev
end

section
open Go Go.Ev
namespace Go.Ev
noncomputable section
noncomputable def Zs4:Run:=entG Zof Zzn (fun a=>Zb2 a.1 a.2.1) (fun a=>ZT a.1 a.2.1)
theorem ZrN:EntOK Go.Proofs.Tryz.prog 24 Zs4:=ZJ (tb:=ZAM) (c:=Zzf) ZOm (by kernel_rfl) (by kernel_rfl) (by kernel_rfl) (fun a=>by kernel_rfl) fun ⟨l,t,_⟩ hk=>Zn (c:=Zzf) (K:=fun v=>(Zzn v,tps (toForms Zof (l,t,())))) (S:=ZoT l t) (by kernel_rfl) (ZNa l t) (ZOk l t) (ZO6 l t hk)
end
end Go.Ev
end

section
open Go Go.Ev
namespace Go.Ev
def renClo:Go.Shelf.Ren:=⟨fun n=>if n=15 then 40 else n,
 fun n=>if n=22 then 23 else n,
 fun n=>n⟩
theorem ZuB:Go.Proofs.Lays2.n15 Go.Proofs.Tryz.prog renClo where
 mixed:=by kernel_rfl
 f15:=by kernel_rfl
 t3:=by kernel_rfl
 a3:=fun w=>by kernel_rfl
 z3:=fun w=>by kernel_rfl
 v3:=fun w=>by kernel_rfl
 t4:=by kernel_rfl
 a4:=fun w=>by kernel_rfl
 z4:=fun w=>by kernel_rfl
 v4:=fun w=>by kernel_rfl
 t22:=by kernel_rfl
 a22:=fun w=>by kernel_rfl
 z22:=fun w=>by kernel_rfl
 v22:=fun w=>by kernel_rfl
 i3:=by kernel_rfl
theorem cloOK:CloneOK Go.Proofs.Tryz.prog 40 3:=⟨fun b off n c zs w h1 h2 h3=>Go.Proofs.Any.slices_Clone_int ZuB b off n c zs w h1 h2 h3,fun n c w=>Go.Proofs.Any.slices_Clone_int_nil ZuB n c w,fun a c w=>Go.Proofs.Any.slices_Clone_int_zero ZuB a c w⟩
noncomputable section
def Zl0:Sig:=[(false,.sl (.int .i64))]
def ZL (l:List Int):List Int:=l
def Za4 (l:List Int):Bool:=decide (l.length*8≤140737488355328)
def ZnF:List Int→AV:=fun r=>.rw 3 (.int .i64) r
def ZcY:Run:=entG Zl0 ZnF (fun a=>Za4 a.1) (fun a=>ZL a.1)
theorem Zf4:EntOK Go.Proofs.Tryz.prog 40 ZcY:=ZAC (ZiW (fn:=Go.Proofs.Tryz.f40) (c:=Go.Proofs.Tryz.f40.body.getD .skip) (by kernel_rfl) (by kernel_rfl) (by kernel_rfl)) fun a h=>ZMd cloOK a.1 (of_decide_eq_true h)
end
end Go.Ev
end

section
open Go Go.Ev
namespace Go.Ev
noncomputable section
def Zb9:Sig:=[(false,(.int .i64))]
noncomputable def ZjT:Tbl:=[]
theorem Zw1:∀p∈ZjT,EntOK Go.Proofs.Tryz.prog p.1 p.2:=Zv
noncomputable def Zgp:Code:=Go.Proofs.Tryz.f118.body.getD .skip
def Zix:Tb:=[]
def ZqM (x:Int):Empty→JT Empty (Bool):=fun j=>nomatch j
def Zoq (x:Int):JT Empty (Bool):=.leaf (x !=x)
def ZbX (x:Int):Bool:=(x !=x)
theorem Zza (x:Int):Goes (ZqM x) (Zoq x) (ZbX x):=Goes.leaf
def Zgo:Bool→AV:=fun (r:Bool)=>.d .bool r
def ZbT (x:Int):Empty→Nat×St:=fun j=>nomatch j
theorem ZwZ (x:Int) (L:Lt):entryA Go.Proofs.Tryz.prog (clOf ZjT) Zix Go.Proofs.Tryz.f118 Zgp L (toForms Zb9 (x,()))=(Zoq x).run (fun v=>some (Zgo v,tps (toForms Zb9 (x,())))) fun j=>L (ZbT x j).1 (ZbT x j).2:=by kernel_rfl
theorem Zxq (x:Int):∀(L:Lt) (j:Empty),procOf (procsF Go.Proofs.Tryz.prog (clOf ZjT) Zix Go.Proofs.Tryz.f118 Zgp (toForms Zb9 (x,()))) (ZbT x j).1 L (ZbT x j).2=(ZqM x j).run (fun v=>some (Zgo v,tps (toForms Zb9 (x,())))) fun j=>L (ZbT x j).1 (ZbT x j).2:=fun L j=>nomatch j
noncomputable def ZqU:Run:=entT Zb9 Zgo (fun a=>ZbX a.1)
theorem Zw0:EntOK Go.Proofs.Tryz.prog 118 ZqU:=Zat (tb:=Zix) (c:=Zgp) Zw1 (by kernel_rfl) (by kernel_rfl) (by kernel_rfl) (fun a=>by kernel_rfl) fun ⟨x,_⟩=>Zn (c:=Zgp) (K:=fun v=>(Zgo v,tps (toForms Zb9 (x,())))) (S:=ZbT x) (by kernel_rfl) (ZwZ x) (Zxq x) (Zza x)
end
end Go.Ev
end

section
open Go Go.Ev
namespace Go.Ev
noncomputable section
def Zct:Sig:=[(false,(.int .i64)),(false,(.int .i64))]
noncomputable def Zlt:Tbl:=[(118,ZqU)]
theorem ZyL:∀p∈Zlt,EntOK Go.Proofs.Tryz.prog p.1 p.2:=Zg Zw0 (Zv)
noncomputable def Zh0:Code:=Go.Proofs.Tryz.f82.body.getD .skip
def ZjF:Tb:=[]
def ZsC (x:Int) (y:Int):Empty→JT Empty (Bool):=fun j=>nomatch j
def ZqT (x:Int) (y:Int):JT Empty (Bool):=.br (ZbX x) (.br (! (ZbX y)) (.leaf true) (.leaf (decide (x < y)))) (.leaf (decide (x < y)))
def Zfk (x:Int) (y:Int):Bool:=bif (ZbX x) then bif (! (ZbX y)) then true else (decide (x < y)) else (decide (x < y))
theorem Zz5 (x:Int) (y:Int):Goes (ZsC x y) (ZqT x y) (Zfk x y):=Goes.br (Goes.br (Goes.leaf) (Goes.leaf)) (Goes.leaf)
def Zh7:Bool→AV:=fun (r:Bool)=>.d .bool r
def Zcn (x:Int) (y:Int):Empty→Nat×St:=fun j=>nomatch j
theorem Zzb (x:Int) (y:Int) (L:Lt):entryA Go.Proofs.Tryz.prog (clOf Zlt) ZjF Go.Proofs.Tryz.f82 Zh0 L (toForms Zct (x,y,()))=(ZqT x y).run (fun v=>some (Zh7 v,tps (toForms Zct (x,y,())))) fun j=>L (Zcn x y j).1 (Zcn x y j).2:=by kernel_rfl
theorem ZyK (x:Int) (y:Int):∀(L:Lt) (j:Empty),procOf (procsF Go.Proofs.Tryz.prog (clOf Zlt) ZjF Go.Proofs.Tryz.f82 Zh0 (toForms Zct (x,y,()))) (Zcn x y j).1 L (Zcn x y j).2=(ZsC x y j).run (fun v=>some (Zh7 v,tps (toForms Zct (x,y,())))) fun j=>L (Zcn x y j).1 (Zcn x y j).2:=fun L j=>nomatch j
noncomputable def Zrv:Run:=entT Zct Zh7 (fun a=>Zfk a.1 a.2.1)
theorem ZyP:EntOK Go.Proofs.Tryz.prog 82 Zrv:=Zat (tb:=ZjF) (c:=Zh0) ZyL (by kernel_rfl) (by kernel_rfl) (by kernel_rfl) (fun a=>by kernel_rfl) fun ⟨x,y,_⟩=>Zn (c:=Zh0) (K:=fun v=>(Zh7 v,tps (toForms Zct (x,y,())))) (S:=Zcn x y) (by kernel_rfl) (Zzb x y) (ZyK x y) (Zz5 x y)
end
end Go.Ev
end

section
open Go Go.Ev
namespace Go.Ev
noncomputable section
def Zbr:Sig:=[(false,(.int .i64))]
noncomputable def ZgM:Tbl:=[]
theorem Ztv:∀p∈ZgM,EntOK Go.Proofs.Tryz.prog p.1 p.2:=Zv
noncomputable def ZdT:Code:=Go.Proofs.Tryz.f83.body.getD .skip
def Zf6:Tb:=[]
def Zlq (x:Int):Empty→JT Empty (Bool):=fun j=>nomatch j
def ZjX (x:Int):JT Empty (Bool):=.leaf (x !=x)
def Zbz (x:Int):Bool:=(x !=x)
theorem Zud (x:Int):Goes (Zlq x) (ZjX x) (Zbz x):=Goes.leaf
def Zdt:Bool→AV:=fun (r:Bool)=>.d .bool r
def Zba (x:Int):Empty→Nat×St:=fun j=>nomatch j
theorem Zty (x:Int) (L:Lt):entryA Go.Proofs.Tryz.prog (clOf ZgM) Zf6 Go.Proofs.Tryz.f83 ZdT L (toForms Zbr (x,()))=(ZjX x).run (fun v=>some (Zdt v,tps (toForms Zbr (x,())))) fun j=>L (Zba x j).1 (Zba x j).2:=by kernel_rfl
theorem Ztz (x:Int):∀(L:Lt) (j:Empty),procOf (procsF Go.Proofs.Tryz.prog (clOf ZgM) Zf6 Go.Proofs.Tryz.f83 ZdT (toForms Zbr (x,()))) (Zba x j).1 L (Zba x j).2=(Zlq x j).run (fun v=>some (Zdt v,tps (toForms Zbr (x,())))) fun j=>L (Zba x j).1 (Zba x j).2:=fun L j=>nomatch j
noncomputable def Zk0:Run:=entT Zbr Zdt (fun a=>Zbz a.1)
theorem ZtA:EntOK Go.Proofs.Tryz.prog 83 Zk0:=Zat (tb:=Zf6) (c:=ZdT) Ztv (by kernel_rfl) (by kernel_rfl) (by kernel_rfl) (fun a=>by kernel_rfl) fun ⟨x,_⟩=>Zn (c:=ZdT) (K:=fun v=>(Zdt v,tps (toForms Zbr (x,())))) (S:=Zba x) (by kernel_rfl) (Zty x) (Ztz x) (Zud x)
end
end Go.Ev
end

section
open Go Go.Ev
namespace Go.Ev
noncomputable section
def Z1:Sig:=[(false,(.sl (.int .i64))),(false,(.int .i64))]
noncomputable def Zbt:Tbl:=[(82,Zrv),(83,Zk0)]
theorem ZhC:∀p∈Zbt,EntOK Go.Proofs.Tryz.prog p.1 p.2:=Zg ZyP (Zg ZtA (Zv))
noncomputable def ZaL:Code:=Go.Proofs.Tryz.f57.body.getD .skip
def Zbq:Tb:=[(4,⟨[0,1,6,7,8,42,48,50,51],[]⟩)]
inductive Zaq where | l4 (i:Int) (j_:Int)
def Z7 (x:List Int) (target:Int):Zaq→JT Zaq (Int×Bool) |.l4 i j_=>.br (decide (i < j_)) (.br ((decide ((0:Int)≤(IntKind.i64.wrap (Int.fdiv (IntKind.u64.wrap (IntKind.i64.wrap (i+j_))) (2 ^ (min 1 (IntKind.u64).bits))))))&&(decide ((IntKind.i64.wrap (Int.fdiv (IntKind.u64.wrap (IntKind.i64.wrap (i+j_))) (2 ^ (min 1 (IntKind.u64).bits)))) < (Int.ofNat (List.length x))))) (.br (Zfk (List.getD x (Int.toNat (IntKind.i64.wrap (Int.fdiv (IntKind.u64.wrap (IntKind.i64.wrap (i+j_))) (2 ^ (min 1 (IntKind.u64).bits))))) (dflt (.int .i64))) target) (.jmp (.l4 (IntKind.i64.wrap ((IntKind.i64.wrap (Int.fdiv (IntKind.u64.wrap (IntKind.i64.wrap (i+j_))) (2 ^ (min 1 (IntKind.u64).bits))))+(1:Int))) j_)) (.jmp (.l4 i (IntKind.i64.wrap (Int.fdiv (IntKind.u64.wrap (IntKind.i64.wrap (i+j_))) (2 ^ (min 1 (IntKind.u64).bits))))))) (.no)) (.br (decide (i < (Int.ofNat (List.length x)))) (.br ((decide ((0:Int)≤i))&&(decide (i < (Int.ofNat (List.length x))))) (.br ((List.getD x (Int.toNat i) (dflt (.int .i64)))==target) (.leaf (i,true)) (.br ((decide ((0:Int)≤i))&&(decide (i < (Int.ofNat (List.length x))))) (.br (Zbz (List.getD x (Int.toNat i) (dflt (.int .i64)))) (.leaf (i,(Zbz target))) (.leaf (i,false))) (.no))) (.no)) (.leaf (i,false)))
def ZcD (x:List Int) (target:Int):JT Zaq (Int×Bool):=.jmp (.l4 (0:Int) (Int.ofNat (List.length x)))
def ZaM:Int×Bool→AV:=fun (r:Int×Bool)=>.tu [.d (.int .i64) r.1,.d .bool r.2]
def ZU (x:List Int) (target:Int):Zaq→Nat×St |.l4 i j_=>(4,⟨mkTm 54 [(0,.d (.sl (.int .i64)) x),(1,.d (.int .i64) target),(6,.d (.int .i64) (Int.ofNat (List.length x))),(7,.d (.int .i64) i),(8,.d (.int .i64) j_)],[]⟩)
theorem ZhW (x:List Int) (target:Int) (L:Lt):entryA Go.Proofs.Tryz.prog (clOf Zbt) Zbq Go.Proofs.Tryz.f57 ZaL L (toForms Z1 (x,target,()))=(ZcD x target).run (fun v=>some (ZaM v,tps (toForms Z1 (x,target,())))) fun j=>L (ZU x target j).1 (ZU x target j).2:=by kernel_rfl
theorem Zic (x:List Int) (target:Int):∀(L:Lt) (j:Zaq),procOf (procsF Go.Proofs.Tryz.prog (clOf Zbt) Zbq Go.Proofs.Tryz.f57 ZaL (toForms Z1 (x,target,()))) (ZU x target j).1 L (ZU x target j).2=(Z7 x target j).run (fun v=>some (ZaM v,tps (toForms Z1 (x,target,())))) fun j=>L (ZU x target j).1 (ZU x target j).2 | L,.l4 i j_=>by kernel_rfl
end
end Go.Ev
end

section
open Go
namespace Go.Ev
def ZM (x:List Int) (target:Int):Int×Bool:=(((x.countP fun y=>decide (y < target)):Nat),x.contains target)
def Z6 (x:List Int) (target:Int):Bool:=decide (x.Pairwise (· < ·))&&decide (x.length < 4611686018427387904)
theorem ZQH {a b:Nat} (h:a+b < 9223372036854775807):IntKind.i64.wrap (Int.fdiv (IntKind.u64.wrap (IntKind.i64.wrap ((a:Int)+(b:Int)))) (2 ^ (min 1 (IntKind.u64).bits)))=(((a+b) / 2:Nat):Int):=by
 have e1:IntKind.i64.wrap ((a:Int)+(b:Int))=((a+b:Nat):Int):=by rw[wrap_i64 (by omega) (by omega)];omega
 have e2:IntKind.u64.wrap ((a+b:Nat):Int)=((a+b:Nat):Int):=Zzj (by omega)
 have e3:(2:Int) ^ (min 1 (IntKind.u64).bits)=2:=by decide
 rw[e1,e2,e3,Int.fdiv_eq_ediv_of_nonneg _ (by decide),wrap_i64 (by omega) (by omega)]
 omega
theorem ZHC {x:List Int} {t:Int} {lo:Nat} (hlo:lo≤x.length) (h1:∀j (h:j < x.length),j < lo→x[j] < t) (h2:∀j (h:j < x.length),lo≤j→t≤x[j]):(x.countP fun y=>decide (y < t))=lo:=by
 have e:x=x.take lo++x.drop lo:=(List.take_append_drop lo x).symm
 rw[e,List.countP_append]
 have a:(x.take lo).countP (fun y=>decide (y < t))=lo:=by
  have:(x.take lo).countP (fun y=>decide (y < t))=(x.take lo).length:=List.countP_eq_length.2 fun y hy=>by
   obtain ⟨j,hj,rfl⟩:=List.mem_iff_getElem.1 hy
   rw[List.getElem_take]
   rw[List.length_take] at hj
   exact decide_eq_true (h1 j (by omega) (by omega))
  rw[this,List.length_take];omega
 have b:(x.drop lo).countP (fun y=>decide (y < t))=0:=List.countP_eq_zero.2 fun y hy=>by
  obtain ⟨j,hj,rfl⟩:=List.mem_iff_getElem.1 hy
  rw[List.getElem_drop]
  rw[List.length_drop] at hj
  have:=h2 (lo+j) (by omega) (by omega)
  simpa using this
 rw[a,b,Nat.add_zero]
theorem Zim (x:List Int) (target:Int) (hk:Z6 x target=true):Goes (Z7 x target) (ZcD x target) (ZM x target):=by
 unfold Z6 at hk
 rw[Bool.and_eq_true,decide_eq_true_eq,decide_eq_true_eq] at hk
 obtain ⟨hp,hn⟩:=hk
 have hg:=List.pairwise_iff_getElem.1 hp
 have vless:∀a b:Int,Zfk a b=decide (a < b):=fun a b=>by
  unfold Zfk ZbX
  simp
 have vnan:∀a:Int,Zbz a=false:=fun a=>by unfold Zbz;simp
 have fin:∀lo:Nat,lo≤x.length→(∀j (h:j < x.length),j < lo→x[j] < target)→(∀j (h:j < x.length),lo≤j→target≤x[j])→Goes (Z7 x target) (.jmp (.l4 (lo:Int) (lo:Int))) (ZM x target):=by
  intro lo hlo h1 h2
  have hc:=ZHC hlo h1 h2
  have hv:ZM x target=((lo:Int),x.contains target):=by unfold ZM;rw[hc]
  rw[hv,Zi,Z7,Ze,if_neg (by simp),Ze]
  have hcon:∀h:lo < x.length,x[lo]≠target→x.contains target=false:=fun h hne=>by
   rw[Bool.eq_false_iff]
   intro hm
   rw[List.contains_iff_mem] at hm
   obtain ⟨j,hj,he⟩:=List.mem_iff_getElem.1 hm
   rcases Nat.lt_trichotomy j lo with hjl | rfl | hjl
   ·have:=h1 j hj hjl;omega
   ·exact hne he
   ·have:=hg lo j h hj hjl
    have:=h2 lo h (Nat.le_refl _)
    omega
  by_cases hl:lo < x.length
  ·rw[if_pos (ZS hl)]
   simp only[Ze,nng,ZS hl,Bool.and_self,if_true,Int.toNat_natCast,ZG hl,vnan]
   by_cases he:x[lo]=target
   ·rw[if_pos (by simpa using he),show x.contains target=true from List.contains_iff_mem.2 (he▸List.getElem_mem hl)]
    exact .leaf
   ·rw[if_neg (by simpa using he),if_neg (by decide),hcon hl he]
    exact .leaf
  ·have:lo=x.length:=by omega
   subst this
   rw[if_neg (by rw[Zx (Nat.lt_irrefl _)];decide)]
   have:x.contains target=false:=by
    rw[Bool.eq_false_iff]
    intro hm
    rw[List.contains_iff_mem] at hm
    obtain ⟨j,hj,he⟩:=List.mem_iff_getElem.1 hm
    have:=h1 j hj hj
    omega
   rw[this]
   exact .leaf
 have loop:∀m lo hi:Nat,hi - lo≤m→lo≤hi→hi≤x.length→(∀j (h:j < x.length),j < lo→x[j] < target)→(∀j (h:j < x.length),hi≤j→target≤x[j])→Goes (Z7 x target) (.jmp (.l4 (lo:Int) (hi:Int))) (ZM x target):=by
  intro m
  induction m with
  | zero=>
   intro lo hi hm hlh hhi h1 h2
   have:lo=hi:=by omega
   subst this
   exact fin lo hhi h1 h2
  | succ m ih=>
   intro lo hi hm hlh hhi h1 h2
   by_cases he:lo=hi
   ·subst he
    exact fin lo hhi h1 h2
   have hlt:lo < hi:=by omega
   have hM:(lo+hi) / 2 < x.length:=by omega
   rw[Zi,Z7,ZQH (by omega),Ze,if_pos (decide_eq_true (by omega))]
   simp only[Ze,nng,ZS hM,Bool.and_self,if_true,Int.toNat_natCast,ZG hM,vless]
   by_cases c:x[(lo+hi) / 2] < target
   ·rw[if_pos (decide_eq_true c),Zt (by omega)]
    refine ih _ _ (by omega) (by omega) hhi (fun j h hj=>?_) h2
    by_cases e:j=(lo+hi) / 2
    ·subst e;exact c
    ·have:=hg j ((lo+hi) / 2) h hM (by omega)
     omega
   ·rw[if_neg (by simpa using c)]
    refine ih _ _ (by omega) (by omega) (by omega) h1 (fun j h hj=>?_)
    by_cases e:j=(lo+hi) / 2
    ·subst e;omega
    ·have:=hg ((lo+hi) / 2) j hM h (by omega)
     omega
 exact loop x.length 0 x.length (by omega) (by omega) (Nat.le_refl _) (fun j h hj=>absurd hj (Nat.not_lt_zero _)) (fun j h hj=>absurd h (by omega))
end Go.Ev
end

section
open Go Go.Ev
namespace Go.Ev
noncomputable section
noncomputable def Zc9:Run:=entG Z1 ZaM (fun a=>Z6 a.1 a.2.1) (fun a=>ZM a.1 a.2.1)
theorem Zil:EntOK Go.Proofs.Tryz.prog 57 Zc9:=ZJ (tb:=Zbq) (c:=ZaL) ZhC (by kernel_rfl) (by kernel_rfl) (by kernel_rfl) (fun a=>by kernel_rfl) fun ⟨x,target,_⟩ hk=>Zn (c:=ZaL) (K:=fun v=>(ZaM v,tps (toForms Z1 (x,target,())))) (S:=ZU x target) (by kernel_rfl) (ZhW x target) (Zic x target) (Zim x target hk)
end
end Go.Ev
end

section
open Go Go.Ev
namespace Go.Ev
noncomputable section
abbrev mProg:Program:=Go.Proofs.Tryz.prog
noncomputable def msB:Code:=Go.Proofs.Tryz.f37.body.getD .skip
noncomputable def mlR1 (K:Code):Code:=fstC (innC (innC K))
noncomputable def mlB (K:Code):Code:=innC (fstC (sndC (sndC (innC (innC K)))))
noncomputable def mlR2 (K:Code):Code:=sndC (sndC (sndC (innC (innC K))))
noncomputable def ms0:Code:=fstC msB
noncomputable def ms1:Code:=fstC (sndC msB)
noncomputable def ms2:Code:=fstC (sndC (sndC msB))
noncomputable def ms3:Code:=fstC (fstC (sndC (sndC (sndC msB))))
noncomputable def msK:Code:=sndC (fstC (sndC (sndC (sndC msB))))
noncomputable def msE:Code:=fstC (sndC (sndC (sndC (sndC msB))))
noncomputable def msT:Tbl:=[(56,Zu6),(57,Zc9)]
theorem ZQj:∀p∈msT,EntOK Go.Proofs.Tryz.prog p.1 p.2:=Zg ZyD (Zg Zil Zv)
theorem mcl:Spec mProg (clOf msT)∧DetC (clOf msT):=Zqs ZQj
theorem ZQI:msB=.seq ms0 (.seq ms1 (.seq (.region (ridC ms2) (ropsC ms2) false) (.seq (.seq ms3 msK) (.seq msE .ret)))):=by kernel_rfl
theorem ZQl:msK=.block 0 (.loop (.seq (mlR1 msK) (.seq (.cond (.tmp 19) .skip (.exit 0)) (.seq (.block 1 (mlB msK)) (mlR2 msK))))):=by kernel_rfl
noncomputable def ms4:Code:=fstC (mlB msK)
noncomputable def ms5:Code:=fstC (sndC (mlB msK))
noncomputable def ms6:Code:=fstC (fstC (sndC (sndC (mlB msK))))
noncomputable def msX:Code:=thenC (sndC (fstC (sndC (sndC (mlB msK)))))
noncomputable def ms7:Code:=fstC msX
noncomputable def ms8:Code:=sndC msX
noncomputable def ms9:Code:=sndC (sndC (sndC (mlB msK)))
theorem ZQw:mlB msK=.seq ms4 (.seq (.region (ridC ms5) (ropsC ms5) false) (.seq (.seq ms6 (.cond (.tmp 30) (.seq ms7 (.region (ridC ms8) (ropsC ms8) false)) .skip)) ms9)):=by kernel_rfl
def mOb (t:List (El Za)):Id×Nat×Obj:=(4,0,.box 34 [.d (.sl Za) t] none)
def mOut (out:List (El Zd)):Id×Nat×Obj:=(8,0,.row 67 Zd out false)
def mX (x:El Zd):Id×Nat×Obj:=(11,0,.box 67 [.d (.int .i64) x.1,.d (.int .i64) x.2.1,.d (.int .i64) x.2.2] none)
section
variable (t:List (El Za)) (l:List (El Zd)) (pts:List Int) (out:List (El Zd)) (m:Nat) (k:Int) (x:El Zd) (e:List Int) (b:Bool)
def mS0:St:=⟨.ag [.d (.sl Za) t] :: .d (.sl Zd) l :: .d (.sl (.int .i64)) pts :: tops 51,[]⟩
def mS1:St:=⟨mkTm 54 [(1,.d (.sl Zd) l),(2,.d (.sl (.int .i64)) pts),(3,.pt 4 0 0)],[mOb t]⟩
def mS2:St:=⟨mkTm 54 [(1,.d (.sl Zd) l),(2,.d (.sl (.int .i64)) pts),(3,.pt 4 0 0),(7,.own 8 0 none)],[mOb t,mOut []]⟩
def mS3:St:=((mS2 t l pts).put (some 15) (.cst (.map (some m)))).put (some 8) (.cst (.map (some m)))
def mSA:St:=⟨mkTm 54 [(2,.d (.sl (.int .i64)) pts),(3,.pt 4 0 0),(7,.own 8 0 none),(8,.cst (.map (some m))),(16,.d (.sl Zd) l),(17,.d (.int .i64) (Int.ofNat (List.length l))),(18,.d (.int .i64) k)],[mOb t,mOut out]⟩
def mLA:Lab:=⟨[2,3,7,8,16,17,18],[(8,122)]⟩
def mSB:St:=⟨mkTm 54 [(2,.d (.sl (.int .i64)) pts),(3,.pt 4 0 0),(7,.own 8 0 none),(8,.cst (.map (some m))),(10,.pt 11 0 0),(16,.d (.sl Zd) l),(17,.d (.int .i64) (Int.ofNat (List.length l))),(18,.d (.int .i64) k)],[mOb t,mOut out,mX x]⟩
def mLB:Lab:=⟨[2,3,7,8,10,16,17,18],[(8,122)]⟩
def mSC:St:=⟨mkTm 54 [(2,.d (.sl (.int .i64)) pts),(3,.pt 4 0 0),(7,.own 8 0 none),(8,.cst (.map (some m))),(10,.pt 11 0 0),(11,.d (.sl (.int .i64)) e),(12,.d .bool b),(16,.d (.sl Zd) l),(17,.d (.int .i64) (Int.ofNat (List.length l))),(18,.d (.int .i64) k)],[mOb t,mOut out,mX x]⟩
def mLC:Lab:=⟨[2,3,7,8,10,11,12,16,17,18],[(8,122)]⟩
def mLC30:Lab:=⟨[2,3,7,8,10,11,16,17,18,30],[(8,122)]⟩
def mSD:St:=⟨mkTm 54 [(2,.d (.sl (.int .i64)) pts),(3,.pt 4 0 0),(7,.own 8 0 none),(8,.cst (.map (some m))),(10,.pt 11 0 0),(11,.d (.sl (.int .i64)) e),(16,.d (.sl Zd) l),(17,.d (.int .i64) (Int.ofNat (List.length l))),(18,.d (.int .i64) k)],[mOb t,mOut out,mX x]⟩
def mLD:Lab:=⟨[2,3,7,8,10,11,16,17,18],[(8,122)]⟩
def mSO:St:=⟨mkTm 54 [(2,.d (.sl (.int .i64)) pts),(3,.pt 4 0 0),(7,.own 8 0 none),(8,.cst (.map (some m))),(10,.pt 11 0 0),(11,.own 12 0 none),(16,.d (.sl Zd) l),(17,.d (.int .i64) (Int.ofNat (List.length l))),(18,.d (.int .i64) k)],[mOb t,mOut out,mX x,(12,0,.row 3 (.int .i64) e false)]⟩
@[reducible] def inM (i:Int) (n:Nat):Bool:=decide ((0:Int)≤i)&&decide (i < Int.ofNat n)
abbrev mEv (c:Code) (lab:Lab) (s s':St):Prop:=∀(L:Lt) (k:Kt) (x:Nat→Kt) (r:Kt),evC mProg (clOf msT) [] L c 0 (fun t=>k (norm mProg lab t)) x r s=k s'
abbrev mEvI (c:Code) (s s':St):Prop:=∀(L:Lt) (k:Kt) (x:Nat→Kt) (r:Kt),evC mProg (clOf msT) [] L c 0 (fun t=>k t) x r s=k s'
abbrev mEvG (c:Code) (lab:Lab) (s s':St) (b:Bool):Prop:=∀(L:Lt) (k:Kt) (x:Nat→Kt) (r:Kt),evC mProg (clOf msT) [] L c 0 (fun t=>k (norm mProg lab t)) x r s=bif b then k s' else none
theorem mEvG.ok {c:Code} {lab:Lab} {s s':St} {b:Bool} (h:mEvG c lab s s' b) (hb:b=true):mEv c lab s s':=fun L k x r=>by rw[h,hb];rfl
theorem m_0:mEv ms0 ⟨[1,2,3],[]⟩ (mS0 t l pts) (mS1 t l pts):=fun L k x r=>by kernel_rfl
theorem m_1:mEv ms1 ⟨[1,2,3,7],[(8,122)]⟩ (mS1 t l pts) (mS2 t l pts):=fun L k x r=>by kernel_rfl
theorem m_3:mEv ms3 mLA (mS3 t l pts m) (mSA t l pts [] m 0):=fun L k x r=>by kernel_rfl
theorem m_R1:mEvI (mlR1 msK) (mSA t l pts out m k) ((mSA t l pts out m k).put (some 19) (.d .bool (decide (k < Int.ofNat (List.length l))))):=fun L k x r=>by kernel_rfl
theorem m_4:mEvG ms4 mLB ((mSA t l pts out m k).put (some 19) (.d .bool b)) (mSB t l pts out m k (List.getD l (Int.toNat k) (dflt Zd))) (inM k (List.length l)):=fun L k x r=>by kernel_rfl
theorem m_6:mEv ms6 mLC30 (mSC t l pts out m k x e b) ((mSD t l pts out m k x e).put (some 30) (.d .bool (! b))):=fun L k x r=>by kernel_rfl
theorem m_7:mEvG ms7 mLD ((mSD t l pts out m k x e).put (some 30) (.d .bool b)) (mSO t l pts out m k x (ZN t pts x.2.1)) (ZbY t pts x.2.1):=fun L k x r=>by kernel_rfl
theorem ZQ3:norm mProg mLD ((mSD t l pts out m k x e).put (some 30) (.d .bool b))=mSD t l pts out m k x e:=by kernel_rfl
theorem m_9 (L:Lt) (kk:Kt) (xx:Nat→Kt) (r:Kt):evC mProg (clOf msT) [] L ms9 0 (fun t=>kk (norm mProg mLA t)) xx r (mSD t l pts out m k x e)=
  bif Z6 e x.2.2 then (bif (ZM e x.2.2).2 then (bif Nat.ble ((List.length out+1)*24) limit then kk (mSA t l pts (out++[x]) m k) else none) else kk (mSA t l pts out m k)) else none:=by kernel_rfl
theorem m_R2:mEv (mlR2 msK) mLA (mSA t l pts out m k) (mSA t l pts out m (IntKind.i64.wrap (k+1))):=fun L k x r=>by kernel_rfl
theorem m_E:mEvI msE ((mSA t l pts out m k).put (some 19) (.d .bool b)) ((((mSA t l pts out m k).put (some 19) (.d .bool b)).put (some 53) (.own 8 0 none)).put (some 6) (.own 8 0 none)):=fun L k x r=>by kernel_rfl
def mSB5 (e:List Int) (b:Bool):St:=((((mSB t l pts out m k x).put (some 23) (.cst (.map (some m)))).put (some 24) (.pt 11 0 1)).put (some 25) (.d (.int .i64) x.2.1)).put (some 26) (.tu [.d (.sl (.int .i64)) e,.d .bool b])
def mSB9 (e:List Int) (b:Bool):St:=(((((mSB5 t l pts out m k x e b).put (some 22) (.tu [.d (.sl (.int .i64)) e,.d .bool b])).put (some 27) (.d (.sl (.int .i64)) e)).put (some 28) (.d .bool b)).put (some 11) (.d (.sl (.int .i64)) e)).put (some 12) (.d .bool b)
theorem m_n9:norm mProg mLC (mSB9 t l pts out m k x e b)=mSC t l pts out m k x e b:=by kernel_rfl
def mSO4:St:=((((mSO t l pts out m k x e).put (some 36) (.cst (.map (some m)))).put (some 37) (.pt 11 0 1)).put (some 38) (.d (.int .i64) x.2.1)).put (some 39) (.own 12 0 none)
theorem m_n8 (o:Option Nat) (ho:o=none):norm mProg ⟨[2,3,7,8,10,11,16,17,18],[(8,122),(12+lockK,1)]⟩ (((mSO4 t l pts out m k x e).lock [12]).put o .top)=mSD t l pts out m k x e:=by
 subst ho
 kernel_rfl
end
section
variable [Orgs] {Mod F0:Nat→Prop} {w0:World} {a:Act} {w:World} {Q:Exit→Act→World→Prop}
variable {t:List (El Za)} {l:List (El Zd)} {pts:List Int} {out:List (El Zd)} {m:Nat} {k:Int} {x:El Zd} {ms:MapD}
theorem mw_2 (hr:Rel Mod F0 w0 (mS2 t l pts) a w) (hQ:∀m a' w',RelX (mapHid m []) Mod F0 w0 (mS3 t l pts m) a' w'→Q .normal a' w'):(Code.region (ridC ms2) (ropsC ms2) false).wp mProg Q a w:=by
 refine wp_region ?_
 rw[show List.range (ropsC ms2).size=[0,1] from by kernel_rfl]
 refine handOp (o:=opC ms2 0) (by kernel_rfl) (by kernel_rfl) ?_
 refine makeMapX (TM:=90) (by kernel_rfl) hr fun m a w hr=>?_
 rw[show (opC ms2 0).dst=some 15 from by kernel_rfl] at hr
 refine evOpX mcl.1 (o:=opC ms2 1) (st1:=mS3 t l pts m) (by kernel_rfl) (by kernel_rfl) (fun k=>by kernel_rfl) hr fun a w hr=>?_
 exact hQ m a w hr
theorem mw_5 (hr:RelX (mapHid m ms) Mod F0 w0 (mSB t l pts out m k x) a w) (hQ:∀a' w',RelX (mapHid m ms) Mod F0 w0 (mSC t l pts out m k x ((getM ms x.2.1).getD []) (getM ms x.2.1).isSome) a' w'→Q .normal a' w'):(Code.region (ridC ms5) (ropsC ms5) false).wp mProg Q a w:=by
 refine wp_region ?_
 rw[show List.range (ropsC ms5).size=[0,1,2,3,4,5,6,7,8] from by kernel_rfl]
 refine evOpX mcl.1 (o:=opC ms5 0) (st1:=(mSB t l pts out m k x).put (some 23) (.cst (.map (some m)))) (by kernel_rfl) (by kernel_rfl) (fun k=>by kernel_rfl) hr fun a w hr=>?_
 refine evOpX mcl.1 (o:=opC ms5 1) (st1:=((mSB t l pts out m k x).put (some 23) (.cst (.map (some m)))).put (some 24) (.pt 11 0 1)) (by kernel_rfl) (by kernel_rfl) (fun k=>by kernel_rfl) hr fun a w hr=>?_
 refine evOpX mcl.1 (o:=opC ms5 2) (st1:=(((mSB t l pts out m k x).put (some 23) (.cst (.map (some m)))).put (some 24) (.pt 11 0 1)).put (some 25) (.d (.int .i64) x.2.1)) (by kernel_rfl) (by kernel_rfl) (fun k=>by kernel_rfl) hr fun a w hr=>?_
 refine handOp (o:=opC ms5 3) (by kernel_rfl) (by kernel_rfl) ?_
 refine lookupX (TM:=90) (K:=3) (V:=23) (x:=.tmp 23) (k:=.tmp 25) (key:=x.2.1) (by kernel_rfl) (by kernel_rfl) (by kernel_rfl) (by kernel_rfl) (by kernel_rfl) (by kernel_rfl) hr fun a w hr=>?_
 rw[show (opC ms5 3).dst=some 26 from by kernel_rfl] at hr
 generalize (getM ms x.2.1).getD []=e at hr hQ
 generalize (getM ms x.2.1).isSome=b at hr hQ
 refine evOpX mcl.1 (o:=opC ms5 4) (st1:=(mSB5 t l pts out m k x e b).put (some 22) (.tu [.d (.sl (.int .i64)) e,.d .bool b])) (by kernel_rfl) (by kernel_rfl) (fun k=>by kernel_rfl) hr fun a w hr=>?_
 refine evOpX mcl.1 (o:=opC ms5 5) (st1:=((mSB5 t l pts out m k x e b).put (some 22) (.tu [.d (.sl (.int .i64)) e,.d .bool b])).put (some 27) (.d (.sl (.int .i64)) e)) (by kernel_rfl) (by kernel_rfl) (fun k=>by kernel_rfl) hr fun a w hr=>?_
 refine evOpX mcl.1 (o:=opC ms5 6) (st1:=(((mSB5 t l pts out m k x e b).put (some 22) (.tu [.d (.sl (.int .i64)) e,.d .bool b])).put (some 27) (.d (.sl (.int .i64)) e)).put (some 28) (.d .bool b)) (by kernel_rfl) (by kernel_rfl) (fun k=>by kernel_rfl) hr fun a w hr=>?_
 refine evOpX mcl.1 (o:=opC ms5 7) (st1:=((((mSB5 t l pts out m k x e b).put (some 22) (.tu [.d (.sl (.int .i64)) e,.d .bool b])).put (some 27) (.d (.sl (.int .i64)) e)).put (some 28) (.d .bool b)).put (some 11) (.d (.sl (.int .i64)) e)) (by kernel_rfl) (by kernel_rfl) (fun k=>by kernel_rfl) hr fun a w hr=>?_
 refine evOpX mcl.1 (o:=opC ms5 8) (st1:=mSB9 t l pts out m k x e b) (by kernel_rfl) (by kernel_rfl) (fun k=>by kernel_rfl) hr fun a w hr=>?_
 exact hQ a w (RelX.norm (P:=mProg) (m_n9 t l pts out m k x e b) hr)
theorem mw_8 {e:List Int} (hn:getM ms x.2.1=none) (hr:RelX (mapHid m ms) Mod F0 w0 (mSO t l pts out m k x e) a w) (hQ:∀a' w',RelX (mapHid m (ms++[((show Int from x.2.1),e)])) Mod F0 w0 (mSD t l pts out m k x e) a' w'→Q .normal a' w'):(Code.region (ridC ms8) (ropsC ms8) false).wp mProg Q a w:=by
 refine wp_region ?_
 rw[show List.range (ropsC ms8).size=[0,1,2,3,4] from by kernel_rfl]
 refine evOpX mcl.1 (o:=opC ms8 0) (st1:=(mSO t l pts out m k x e).put (some 36) (.cst (.map (some m)))) (by kernel_rfl) (by kernel_rfl) (fun k=>by kernel_rfl) hr fun a w hr=>?_
 refine evOpX mcl.1 (o:=opC ms8 1) (st1:=((mSO t l pts out m k x e).put (some 36) (.cst (.map (some m)))).put (some 37) (.pt 11 0 1)) (by kernel_rfl) (by kernel_rfl) (fun k=>by kernel_rfl) hr fun a w hr=>?_
 refine evOpX mcl.1 (o:=opC ms8 2) (st1:=(((mSO t l pts out m k x e).put (some 36) (.cst (.map (some m)))).put (some 37) (.pt 11 0 1)).put (some 38) (.d (.int .i64) x.2.1)) (by kernel_rfl) (by kernel_rfl) (fun k=>by kernel_rfl) hr fun a w hr=>?_
 refine evOpX mcl.1 (o:=opC ms8 3) (st1:=mSO4 t l pts out m k x e) (by kernel_rfl) (by kernel_rfl) (fun k=>by kernel_rfl) hr fun a w hr=>?_
 refine handOp (o:=opC ms8 4) (by kernel_rfl) (by kernel_rfl) ?_
 refine updateX (TM:=90) (K:=3) (V:=23) (E:=3) (x:=.tmp 36) (k:=.tmp 38) (v:=.tmp 39) (key:=x.2.1) (id:=12) (ver:=0) (r:=e) (lk:=false) (by kernel_rfl) (by kernel_rfl) (by kernel_rfl) (by kernel_rfl) (by kernel_rfl) (by kernel_rfl) (by kernel_rfl) hn hr fun a w hr=>?_
 exact hQ a w (RelX.norm (P:=mProg) (m_n8 t l pts out m k x e _ (by kernel_rfl)) hr)
def OkM (t:List (El Za)) (pts:List Int) (ms:MapD):Prop:=∀s r,getM ms s=some r→r=ZN t pts s
theorem ZPO {s:Int} (h:OkM t pts ms):OkM t pts (ms++[(s,ZN t pts s)]):=fun s' r hr=>by
 unfold getM at hr
 rw[List.find?_append] at hr
 cases hf:ms.find? (fun e=>e.1==s') with
 | some y=>
  rw[hf] at hr
  exact h s' r (by unfold getM;rw[hf];exact hr)
 | none=>
  rw[hf] at hr
  simp only[Option.none_or,List.find?_cons,List.find?_nil] at hr
  split at hr
  ·rename_i hs
   have hs:s=s':=by simpa using hs
   subst hs
   cases hr
   rfl
  ·cases hr
theorem ZOJ (hf:flowOK t=true) (hp:pts.length < 4611686018427387904) (x:El Zd):Z6 (ZN t pts x.2.1) x.2.2=true∧(ZM (ZN t pts x.2.1) x.2.2).2=uB t pts x:=by
 have hl:=ZbR hf
 have h1:(ZN t pts x.2.1).length≤t.length:=Zz4
 refine ⟨?_,?_⟩
 ·unfold Z6
  rw[Bool.and_eq_true,decide_eq_true_eq,decide_eq_true_eq]
  exact ⟨Zqd,by omega⟩
 ·show (ZN t pts x.2.1).contains x.2.2=_
  unfold ZN uB
  exact ZsG
theorem ZQn {n j:Nat} (h:j < n):inM (j:Int) n=true:=by
 unfold inM
 rw[Bool.and_eq_true,decide_eq_true_eq,decide_eq_true_eq]
 exact ⟨Int.natCast_nonneg j,Int.ofNat_lt.2 h⟩
theorem mw_L (hf:flowOK t=true) (hp:pts.length < 4611686018427387904) {j:Nat} (hj:j < l.length) {b:Bool} (hlim:(out.length+1)*24≤limit) (ho:OkM t pts ms) (hr:RelX (mapHid m ms) Mod F0 w0 ((mSA t l pts out m (j:Int)).put (some 19) (.d .bool b)) a w):
  (mlB msK).wp mProg (fun e a' w'=>(e=.normal∨e=.exit 1)∧∃ms',OkM t pts ms'∧RelX (mapHid m ms') Mod F0 w0 (mSA t l pts (out++if uB t pts l[j]=true then [l[j]] else []) m (j:Int)) a' w') a w:=by
 rw[ZQw]
 refine wp_seq (pieceX mcl.1 mcl.2 (norm mProg mLB) (fun h=>Z2 h) ((m_4 t l pts out m (j:Int) b).ok (ZQn hj)) hr fun a w hr=>?_)
 rw[Int.toNat_natCast,ZG hj] at hr
 generalize l[j]=x at hr
 have kE:ZbY t pts x.2.1=true:=by unfold ZbY;rw[hf,decide_eq_true hp];rfl
 obtain ⟨q1,q2⟩:=ZOJ hf hp x
 have last:∀(ms':MapD),OkM t pts ms'→∀a w,RelX (mapHid m ms') Mod F0 w0 (mSD t l pts out m (j:Int) x (ZN t pts x.2.1)) a w→ms9.wp mProg (fun e a' w'=>(e=.normal∨e=.exit 1)∧∃ms',OkM t pts ms'∧RelX (mapHid m ms') Mod F0 w0 (mSA t l pts (out++if uB t pts x=true then [x] else []) m (j:Int)) a' w') a w:=by
  intro ms' ho' a w hr
  by_cases hu:uB t pts x=true
  ·refine pieceX mcl.1 mcl.2 (norm mProg mLA) (fun h=>Z2 h) (st1:=mSA t l pts (out++[x]) m (j:Int)) (fun L k xx r=>by rw[m_9,q1,q2,hu,Nat.ble_eq_true_of_le hlim];rfl) hr fun a w hr=>?_
   rw[if_pos hu]
   exact ⟨.inl rfl,ms',ho',hr⟩
  ·have hu':uB t pts x=false:=by simpa using hu
   refine pieceX mcl.1 mcl.2 (norm mProg mLA) (fun h=>Z2 h) (st1:=mSA t l pts out m (j:Int)) (fun L k xx r=>by rw[m_9,q1,q2,hu'];rfl) hr fun a w hr=>?_
   rw[if_neg hu,List.append_nil]
   exact ⟨.inl rfl,ms',ho',hr⟩
 refine wp_seq (mw_5 hr fun a w hr=>?_)
 refine wp_seq (wp_seq (pieceX mcl.1 mcl.2 (norm mProg mLC30) (fun h=>Z2 h) (m_6 t l pts out m (j:Int) x _ _) hr fun a w hr=>?_))
 have ht:=hr.evb (x:=.tmp 30) (b:=! (getM ms x.2.1).isSome) (by kernel_rfl)
 cases hg:getM ms x.2.1 with
 | none=>
  rw[hg] at ht hr
  refine wp_cond_true ht ?_
  refine wp_seq (pieceX mcl.1 mcl.2 (norm mProg mLD) (fun h=>Z2 h) ((m_7 t l pts out m (j:Int) x _ _).ok kE) hr fun a w hr=>?_)
  exact mw_8 hg hr fun a w hr=>last _ (ZPO ho) a w hr
 | some e=>
  rw[hg] at ht hr
  refine wp_cond_false ht (wp_skip ?_)
  have:=RelX.norm (P:=mProg) (ZQ3 t l pts out m (j:Int) x _ _) hr
  have he:=ho _ _ hg
  subst he
  exact last _ ho a w this
end
def Zn3:Sig:=[(true,(.sl Za)),(false,(.sl Zd)),(false,(.sl (.int .i64)))]
noncomputable def ZbC (t:List (El Za)) (l:List (El Zd)) (points:List Int):List (El Zd):=missL (uB t) points l
def ZaB (t:List (El Za)) (l:List (El Zd)) (points:List Int):Bool:=flowOK t&&(decide (points.length < 4611686018427387904)&&decide (l.length < 1000000000000))
def Zwr:List (El Zd)→AV:=fun r=>.rw 67 Zd r
theorem ZM3 {U:El Zd→Bool} {l:List (El Zd)} {j:Nat} (hj:j < l.length):(l.take (j+1)).filter U=(l.take j).filter U++if U l[j]=true then [l[j]] else []:=by
 rw[List.take_succ_eq_append_getElem hj,List.filter_append,List.filter_cons,List.filter_nil]
theorem ZwL (t:List (El Za)) (l:List (El Zd)) (pts:List Int) (hk:ZaB t l pts=true):CallOK mProg 37 (toForms Zn3 (t,l,pts,())) (Zwr (ZbC t l pts),tps (toForms Zn3 (t,l,pts,()))):=by
 unfold ZaB at hk
 rw[Bool.and_eq_true,Bool.and_eq_true,decide_eq_true_eq,decide_eq_true_eq] at hk
 obtain ⟨hf,hp,hN⟩:=hk
 refine Zng (tb:=[]) (fn:=Go.Proofs.Tryz.f37) (c:=msB) (vs:=[.ag [.d (.sl Za) t],.d (.sl Zd) l,.d (.sl (.int .i64)) pts]) (st:=⟨[],[]⟩) (by kernel_rfl) (by kernel_rfl) (by kernel_rfl) ?_
 intro _ Mod F0 w0 a w hr
 have hr:Rel Mod F0 w0 (mS0 t l pts) a w:=hr
 rw[ZQI]
 refine wp_seq (piece mcl.1 mcl.2 (norm mProg ⟨[1,2,3],[]⟩) (fun h=>Z2 h) (m_0 t l pts) hr fun a w hr=>?_)
 refine wp_seq (piece mcl.1 mcl.2 (norm mProg ⟨[1,2,3,7],[(8,122)]⟩) (fun h=>Z2 h) (m_1 t l pts) hr fun a w hr=>?_)
 refine wp_seq (mw_2 hr fun m a w hr=>?_)
 refine wp_seq (wp_seq (pieceX mcl.1 mcl.2 (norm mProg mLA) (fun h=>Z2 h) (m_3 t l pts m) hr fun a w hr=>?_))
 rw[ZQl]
 refine forLoop (fun j a w=>∃ms,OkM t pts ms∧RelX (mapHid m ms) Mod F0 w0 (mSA t l pts ((l.take j).filter (uB t pts)) m (j:Int)) a w)
  (fun j a w=>∃ms,OkM t pts ms∧RelX (mapHid m ms) Mod F0 w0 ((mSA t l pts ((l.take j).filter (uB t pts)) m (j:Int)).put (some 19) (.d .bool (decide ((j:Int) < Int.ofNat (List.length l))))) a w)
  (fun j a w=>∃ms,OkM t pts ms∧RelX (mapHid m ms) Mod F0 w0 (mSA t l pts ((l.take (j+1)).filter (uB t pts)) m (j:Int)) a w)
  l.length (toGo 18 l.length) ?_ ?_ ?_ ?_ ?_ ⟨[],fun s r h=>(by cases h),hr⟩ ?_
 ·intro j a w hj ⟨ms,ho,hr⟩
  exact pieceX mcl.1 mcl.2 (fun s=>s) (fun h=>h) (m_R1 _ _ _ _ _ _) hr fun a' w' hr'=>⟨rfl,ms,ho,hr'⟩
 ·intro j a w hj ⟨ms,ho,hr⟩
  rw[hr.evb (x:=.tmp 19) (b:=decide ((j:Int) < Int.ofNat (List.length l))) (by kernel_rfl)]
  exact congrArg Value.bool (by rw[Bool.eq_iff_iff,decide_eq_true_eq,decide_eq_true_eq];exact Int.ofNat_lt)
 ·intro j a w hj ⟨ms,ho,hr⟩
  rw[ZM3 hj]
  refine mw_L hf hp hj ?_ ho hr
  have h1:=List.length_filter_le (uB t pts) (l.take j)
  rw[List.length_take] at h1
  unfold limit
  omega
 ·intro j a w hj ⟨ms,ho,hr⟩
  have e:=m_R2 t l pts ((l.take (j+1)).filter (uB t pts)) m (j:Int)
  rw[Zt (by omega)] at e
  exact pieceX mcl.1 mcl.2 (norm mProg mLA) (fun h=>Z2 h) e hr fun a' w' hr'=>⟨rfl,ms,ho,hr'⟩
 ·intro j a w hj ⟨ms,ho,hr⟩
  unfold toGo
  rw[hr.ev (x:=.tmp 18) (k:=.i64) (n:=(j:Int)) (by kernel_rfl)]
  rfl
 ·intro a w ⟨ms,ho,hr⟩
  rw[List.take_length] at hr
  have hr:=hr.out
  refine wp_seq (piece mcl.1 mcl.2 (fun s=>s) (fun h=>h) (m_E t l pts (l.filter (uB t pts)) m _ _) hr fun a w hr=>?_)
  exact wp_ret ⟨.inr rfl,_,hr,by kernel_rfl⟩
noncomputable def Zku:Run:=entG Zn3 Zwr (fun a=>ZaB a.1 a.2.1 a.2.2.1) (fun a=>ZbC a.1 a.2.1 a.2.2.1)
theorem Zny:EntOK mProg 37 Zku:=ZAC (ZiW (fn:=Go.Proofs.Tryz.f37) (c:=msB) (by kernel_rfl) (by kernel_rfl) (by kernel_rfl)) fun a h=>ZwL a.1 a.2.1 a.2.2.1 h
end
end Go.Ev
end

section
open Go Go.Ev
namespace Go.Ev
def renComp:Go.Shelf.Ren:=⟨fun n=>if n=20 then 55 else n,
 fun n=>if n=22 then 23 else n,
 fun n=>n⟩
theorem Zx9:Go.Proofs.Lays2.n20 Go.Proofs.Tryz.prog renComp where
 mixed:=by kernel_rfl
 f20:=by kernel_rfl
 t0:=by kernel_rfl
 a0:=fun w=>by kernel_rfl
 z0:=fun w=>by kernel_rfl
 v0:=fun w=>by kernel_rfl
 t3:=by kernel_rfl
 a3:=fun w=>by kernel_rfl
 z3:=fun w=>by kernel_rfl
 v3:=fun w=>by kernel_rfl
 t4:=by kernel_rfl
 a4:=fun w=>by kernel_rfl
 z4:=fun w=>by kernel_rfl
 v4:=fun w=>by kernel_rfl
 t22:=by kernel_rfl
 a22:=fun w=>by kernel_rfl
 z22:=fun w=>by kernel_rfl
 v22:=fun w=>by kernel_rfl
 i3:=by kernel_rfl
theorem compOK:CompactOK Go.Proofs.Tryz.prog 55:=⟨fun blk off cap zs w h1 h2 h3=>Go.Proofs.Any.slices_Compact_int Zx9 blk off cap zs w h1 h2 h3,fun a cap w=>Go.Proofs.Any.slices_Compact_int_empty Zx9 a cap w⟩
noncomputable section
noncomputable def ZC6:Run:=rowRun (entO [.row 3 (.int .i64)] (fun (r:List Int)=>(.rw 3 (.int .i64) r,[.top])) (fun _=>true) (fun a=>Go.Lib.compact a.1))
theorem ZKk:EntOK Go.Proofs.Tryz.prog 55 ZC6:=ZAI (ZvI (Zow (ZiW (fn:=Go.Proofs.Tryz.f55) (c:=Go.Proofs.Tryz.f55.body.getD .skip) (by kernel_rfl) (by kernel_rfl) (by kernel_rfl))) fun a _=>ZHJ compOK a.1)
noncomputable def Zvz:PSig:=[.row 3 (.int .i64)]
def Ze4 (l:List Int):List Int:=putsL [] l
noncomputable def ZrJ:List Int→Ans:=fun r=>(.rw 3 (.int .i64) r,[.top])
noncomputable def riB:Code:=Go.Proofs.Tryz.f32.body.getD .skip
noncomputable def ri1:Code:=fstC riB
noncomputable def ri2:Code:=fstC (sndC riB)
noncomputable def ri3:Code:=sndC (sndC riB)
noncomputable def riT:Tbl:=[(55,ZC6)]
theorem ZQu:∀p∈riT,EntOK Go.Proofs.Tryz.prog p.1 p.2:=Zg ZKk Zv
theorem ZQh:riB=.seq ri1 (.seq (.region (ridC ri2) (ropsC ri2) false) ri3):=by kernel_rfl
noncomputable def riS (l:List Int):St:=⟨mkTm 7 [(0,.own 1 0 none)],[(1,0,.row 3 (.int .i64) l false)]⟩
theorem ri_1 (l:List Int) (L:Lt) (k:Kt) (x:Nat→Kt) (r:Kt):evC Go.Proofs.Tryz.prog (clOf riT) [] L ri1 0 (fun t=>k (norm Go.Proofs.Tryz.prog ⟨[0],[]⟩ t)) x r (riS l)=k (riS l):=by kernel_rfl
theorem ri_3 (l:List Int) (L:Lt):evC Go.Proofs.Tryz.prog (clOf riT) [] L ri3 0 (finA Go.Proofs.Tryz.prog [] Go.Proofs.Tryz.f32 [.rw 3 (.int .i64) l]) (fun _ _=>none) (finA Go.Proofs.Tryz.prog [] Go.Proofs.Tryz.f32 [.rw 3 (.int .i64) l]) (riS (sorted l))=some (.rw 3 (.int .i64) (risL l),[.top]):=by kernel_rfl
theorem ZND (l:List Int):risL l=putsL [] l:=Zn6 Zz6 (ZrA .nil) fun x=>by rw[ZLK,ZkY];simp
def Zb4 (l:List Int):Bool:=decide (l.length < 4611686018427387904)
theorem Zxg (l:List Int) (hk:Zb4 l=true):CallOK Go.Proofs.Tryz.prog 32 (toPs Zvz (l,())) (ZrJ (Ze4 l)):=by
 obtain ⟨hcl,hdet⟩:=Zqs ZQu
 refine Zng (tb:=[]) (fn:=Go.Proofs.Tryz.f32) (c:=riB) (vs:=[.own 1 0 none]) (st:=⟨[],[(1,0,.row 3 (.int .i64) l false)]⟩) (by kernel_rfl) (by kernel_rfl) (by kernel_rfl) ?_
 intro _ Mod F0 w0 a w hr
 have hr:Rel Mod F0 w0 (riS l) a w:=hr
 rw[ZQh]
 refine wp_seq (piece hcl hdet (norm Go.Proofs.Tryz.prog ⟨[0],[]⟩) (fun h=>Z2 h) (ri_1 l) hr fun a w hr=>?_)
 refine wp_seq (wp_region ?_)
 rw[show List.range (ropsC ri2).size=[0,1] from by kernel_rfl]
 refine evOp hcl (o:=opC ri2 0) (st1:=(riS l).put (some 3) (.own 1 0 none)) (by kernel_rfl) (by kernel_rfl) (fun k=>by kernel_rfl) hr fun a w hr=>?_
 refine handOp (o:=opC ri2 1) (by kernel_rfl) (by kernel_rfl) ?_
 refine sortStep (ts:=3) (id:=1) (ver:=0) (E:=3) (l:=l) (c:=(match (opC ri2 1).op with |.call c=>c | _=>default)) (fn:=Go.Proofs.Tryz.f54) (body:=Go.Proofs.Tryz.f54.body.getD .skip) (by kernel_rfl) (by kernel_rfl) (by kernel_rfl) (by kernel_rfl) (by kernel_rfl) (by kernel_rfl) (by kernel_rfl) (by kernel_rfl) sortOK (of_decide_eq_true hk) hr fun a w hr=>?_
 have hr:Rel Mod F0 w0 (riS (sorted l)) a w:=Z2 (P:=Go.Proofs.Tryz.prog) (lab:=⟨[0],[]⟩) hr
 unfold ZrJ Ze4
 rw[←ZND]
 exact endStep hcl hdet (ri_3 l) hr
noncomputable def Zjx:Run:=rowRun (entO Zvz ZrJ (fun a=>Zb4 a.1) (fun a=>Ze4 a.1))
theorem ZkF:EntOK Go.Proofs.Tryz.prog 32 Zjx:=ZAI (ZvI (Zow (ZiW (fn:=Go.Proofs.Tryz.f32) (c:=riB) (by kernel_rfl) (by kernel_rfl) (by kernel_rfl))) fun a h=>Zxg a.1 h)
end
end Go.Ev
end

section
open Go Go.Ev
namespace Go.Ev
noncomputable section
def Zf0:Sig:=[(true,(.sl Za)),(false,(.sl Zd))]
noncomputable def ZrK:Tbl:=[(40,ZcY),(37,Zku),(32,Zjx)]
theorem ZEf:∀p∈ZrK,EntOK Go.Proofs.Tryz.prog p.1 p.2:=Zg Zf4 (Zg Zny (Zg ZkF (Zv)))
noncomputable def Zmr:Code:=Go.Proofs.Tryz.f33.body.getD .skip
def ZqC:Tb:=[(3,⟨[1,2,5],[(6,46)]⟩),(9,⟨[1,2,5,6,7,16,17],[(10000000000000000000000000000000000000000000000000000000000008,1)]⟩)]
inductive Zje where | l3 (points:List Int) (open_1:List (El Zd)) | l9 (left:List (El Zd)) (h:Int) (best:Int) (points:List Int) (open_1:List (El Zd))
def ZcI (t:List (El Za)) (open_:List (El Zd)):Zje→JT Zje (List Int) |.l3 points open_1=>.br (decide ((Int.ofNat (List.length open_1)) > (0:Int))) (.jmp (.l9 open_1 (0:Int) (0:Int) points open_1)) (.br (Zb4 points) (.leaf (Ze4 points)) (.no)) |.l9 left h best points open_1=>.br (decide (h < (Int.ofNat (List.length t)))) (.br (Za4 points) (.br (Nat.ble (((List.length (ZL points))+1)*8) limit) (.br (ZaB t open_1 ((ZL points)++[h])) (.br (decide ((Int.ofNat (List.length (ZbC t open_1 ((ZL points)++[h])))) < (Int.ofNat (List.length left)))) (.jmp (.l9 (ZbC t open_1 ((ZL points)++[h])) (IntKind.i64.wrap (h+(1:Int))) h points open_1)) (.jmp (.l9 left (IntKind.i64.wrap (h+(1:Int))) best points open_1))) (.no)) (.no)) (.no)) (.br (Nat.ble (((List.length points)+1)*8) limit) (.jmp (.l3 (points++[best]) left)) (.no))
def Zwx (t:List (El Za)) (open_:List (El Zd)):JT Zje (List Int):=.jmp (.l3 [] open_)
def Znh:List Int→AV:=fun (r:List Int)=>.rw 3 (.int .i64) r
def Ze0 (t:List (El Za)) (open_:List (El Zd)):Zje→Nat×St |.l3 points open_1=>(3,⟨mkTm 43 [(1,.d (.sl Zd) open_1),(2,.pt 3 0 0),(5,.own 6 0 none)],[(3,0,.box 34 [.d (.sl Za) t] none),(6,0,.row 3 (.int .i64) points false)]⟩) |.l9 left h best points open_1=>(9,⟨mkTm 43 [(1,.d (.sl Zd) open_1),(2,.pt 3 0 0),(5,.own 6 0 none),(6,.d (.int .i64) best),(7,.d (.sl Zd) left),(16,.d (.int .i64) (Int.ofNat (List.length t))),(17,.d (.int .i64) h)],[(3,0,.box 34 [.d (.sl Za) t] none),(6,0,.row 3 (.int .i64) points false)]⟩)
theorem ZEx (t:List (El Za)) (open_:List (El Zd)) (L:Lt):entryA Go.Proofs.Tryz.prog (clOf ZrK) ZqC Go.Proofs.Tryz.f33 Zmr L (toForms Zf0 (t,open_,()))=(Zwx t open_).run (fun v=>some (Znh v,tps (toForms Zf0 (t,open_,())))) fun j=>L (Ze0 t open_ j).1 (Ze0 t open_ j).2:=by kernel_rfl
theorem ZEF (t:List (El Za)) (open_:List (El Zd)):∀(L:Lt) (j:Zje),procOf (procsF Go.Proofs.Tryz.prog (clOf ZrK) ZqC Go.Proofs.Tryz.f33 Zmr (toForms Zf0 (t,open_,()))) (Ze0 t open_ j).1 L (Ze0 t open_ j).2=(ZcI t open_ j).run (fun v=>some (Znh v,tps (toForms Zf0 (t,open_,())))) fun j=>L (Ze0 t open_ j).1 (Ze0 t open_ j).2 | L,.l3 points open_1=>by kernel_rfl | L,.l9 left h best points open_1=>by kernel_rfl
end
end Go.Ev
end

section
open Go
namespace Go.Ev
def loadIn (n:Nat) (x:PairD):Bool:=decide ((0:Int)≤x.2.2∧(show Int from x.2.2) < (n:Int))
theorem ZHw {t:List (El Za)} {l:List PairD} (h:l.all (loadIn t.length)=true):Cuts (uB t) t.length l:=fun x hx=>by
 obtain ⟨h1,h2⟩:=of_decide_eq_true (List.all_eq_true.1 h x hx)
 refine ⟨Int.toNat x.2.2,ZN6 h1 h2,fun pts=>ZNE ?_⟩
 rw[List.mem_append,List.mem_singleton,Int.toNat_of_nonneg h1]
 exact .inr rfl
noncomputable def Zb3 (t:List (El Za)) (open_:List (El Zd)):List Int:=greedyV (uB t) t.length open_
def Zbs (t:List (El Za)) (open_:List (El Zd)):Bool:=flowOK t&&(decide (open_.length < 1000000000)&&open_.all (loadIn t.length))
theorem ZG0 (t:List (El Za)) (open_:List (El Zd)) (hk:Zbs t open_=true):Goes (ZcI t open_) (Zwx t open_) (Zb3 t open_):=by
 unfold Zbs at hk
 rw[Bool.and_eq_true,Bool.and_eq_true,decide_eq_true_eq] at hk
 obtain ⟨hf,hN,hall⟩:=hk
 have hlen:=ZbR hf
 have fin:∀(pts:List Int) (l:List PairD),l.length=0→pts.length≤1000000000→Goes (ZcI t open_) (.jmp (.l3 pts l)) (putsL [] pts):=by
  intro pts l h0 hp
  rw[Zi,ZcI,Ze,if_neg (by rw[h0];decide),Ze,if_pos (show Zb4 pts=true from decide_eq_true (by omega))]
  exact .leaf
 have outer:∀f:Nat,∀(pts:List Int) (l:List PairD),l.length≤f→f+pts.length≤1000000000→Cuts (uB t) t.length l→Goes (ZcI t open_) (.jmp (.l3 pts l)) (putsL [] (greedyL (uB t) t.length f pts l)):=by
  intro f
  induction f with
  | zero=>
   intro pts l hl hb hc
   exact fin pts l (by omega) (by omega)
  | succ f ih=>
   intro pts l hl hb hc
   by_cases h0:l.length=0
   ·have:=fin pts l h0 (by omega)
    rw[greedyL,if_pos h0]
    exact this
   ·rw[greedyL,if_neg h0]
    obtain ⟨j,hj,e1,e2,e3⟩:=ZDi (pts:=pts) hc (by omega)
    have inner:∀k,k≤t.length→∀acc:Int×List PairD,bestFrom (uB t) t.length pts l k acc=bestG (uB t) t.length pts l→
      Goes (ZcI t open_) (.jmp (.l9 acc.2 (k:Int) acc.1 pts l)) (putsL [] (greedyL (uB t) t.length f (pts++[(bestG (uB t) t.length pts l).1]) (bestG (uB t) t.length pts l).2)):=by
     refine down ?_ fun k hk ihk=>?_
     ·intro acc ha
      rw[Zyz] at ha
      rw[Zi,ZcI,Ze,if_neg (by rw[Zx (Nat.lt_irrefl _)];decide),Ze,if_pos (Nat.ble_eq_true_of_le (by unfold limit;omega)),ha]
      exact ih _ _ (by omega) (by simp;omega) (ZLz hc fun x hx=>by rw[e2] at hx;exact (List.mem_filter.1 hx).1)
     ·intro acc ha
      rw[Zvs hk] at ha
      have hcl:Za4 pts=true:=decide_eq_true (by omega)
      have hvc:ZL pts=pts:=rfl
      have hkm:ZaB t l (pts++[(k:Int)])=true:=by
       unfold ZaB
       rw[hf,decide_eq_true (show (pts++[(k:Int)]).length < 4611686018427387904 by simp;omega),decide_eq_true (show l.length < 1000000000000 by omega)];rfl
      have hvm:ZbC t l (pts++[(k:Int)])=l.filter (uB t (pts++[(k:Int)])):=rfl
      rw[Zi,ZcI,hvc,hvm,Zt (by omega),Ze,if_pos (ZS hk),Ze,if_pos hcl,Ze,if_pos (Nat.ble_eq_true_of_le (by unfold limit;omega)),Ze,if_pos hkm,Ze]
      unfold stepG at ha
      by_cases hc2:(l.filter (uB t (pts++[(k:Int)]))).length < acc.2.length
      ·rw[if_pos hc2] at ha
       rw[if_pos (ZK2 hc2)]
       exact ihk _ ha
      ·rw[if_neg hc2] at ha
       rw[if_neg (by rw[ZFh hc2];decide)]
       exact ihk _ ha
    rw[Zi,ZcI,Ze,if_pos (decide_eq_true (by simp only[Int.ofNat_eq_natCast];omega))]
    exact inner 0 (Nat.zero_le _) (0,l) rfl
 exact outer open_.length [] open_ (Nat.le_refl _) (by simp;omega) (ZHw hall)
end Go.Ev
end

section
open Go Go.Ev
namespace Go.Ev
noncomputable section
noncomputable def Zq6:Run:=entG Zf0 Znh (fun a=>Zbs a.1 a.2.1) (fun a=>Zb3 a.1 a.2.1)
theorem ZwM:EntOK Go.Proofs.Tryz.prog 33 Zq6:=ZJ (tb:=ZqC) (c:=Zmr) ZEf (by kernel_rfl) (by kernel_rfl) (by kernel_rfl) (fun a=>by kernel_rfl) fun ⟨t,open_,_⟩ hk=>Zn (c:=Zmr) (K:=fun v=>(Znh v,tps (toForms Zf0 (t,open_,())))) (S:=Ze0 t open_) (by kernel_rfl) (ZEx t open_) (ZEF t open_) (ZG0 t open_ hk)
end
end Go.Ev
end

section
open Go Go.Ev
namespace Go.Ev
def renDel:Go.Shelf.Ren:=⟨fun n=>if n=23 then 39 else n,
 fun n=>if n=22 then 23 else n,
 fun n=>n⟩
theorem ZJ3:Go.Proofs.Lays2.n23 Go.Proofs.Tryz.prog renDel where
 mixed:=by kernel_rfl
 f23:=by kernel_rfl
 t0:=by kernel_rfl
 a0:=fun w=>by kernel_rfl
 z0:=fun w=>by kernel_rfl
 v0:=fun w=>by kernel_rfl
 t3:=by kernel_rfl
 a3:=fun w=>by kernel_rfl
 z3:=fun w=>by kernel_rfl
 v3:=fun w=>by kernel_rfl
 t4:=by kernel_rfl
 a4:=fun w=>by kernel_rfl
 z4:=fun w=>by kernel_rfl
 v4:=fun w=>by kernel_rfl
 t22:=by kernel_rfl
 a22:=fun w=>by kernel_rfl
 z22:=fun w=>by kernel_rfl
 v22:=fun w=>by kernel_rfl
 i3:=by kernel_rfl
theorem delOK:DeleteOK Go.Proofs.Tryz.prog 39:=fun blk off cap i j zs w h1 h2 h3 h4 h5=>Go.Proofs.Any.slices_Delete_int ZJ3 blk off cap i j zs w h1 h2 h3 h4 h5
noncomputable section
def Zlz:PSig:=[.row 3 (.int .i64),.dat false (.int .i64),.dat false (.int .i64)]
def Zaz (l:List Int) (i j:Int):List Int:=l.take i.toNat++l.drop j.toNat
def Zcp (l:List Int) (i j:Int):Bool:=decide (0≤i∧i≤j∧j≤(l.length:Int)∧0 < l.length)
def Zl2:List Int→Ans:=fun r=>(.rw 3 (.int .i64) r,[.top,.top,.top])
def Zf3:Run:=rowRun (entO Zlz Zl2 (fun a=>Zcp a.1 a.2.1 a.2.2.1) (fun a=>Zaz a.1 a.2.1 a.2.2.1))
theorem ZlQ:EntOK Go.Proofs.Tryz.prog 39 Zf3:=ZAI (ZvI (Zow (ZiW (fn:=Go.Proofs.Tryz.f39) (c:=Go.Proofs.Tryz.f39.body.getD .skip) (by kernel_rfl) (by kernel_rfl) (by kernel_rfl))) fun a h=>by
 obtain ⟨h1,h2,h3,h4⟩:=of_decide_eq_true h
 exact ZJ9 delOK a.1 h1 h2 h3 (List.length_pos_iff.1 h4))
end
end Go.Ev
end

section
open Go Go.Ev
namespace Go.Ev
noncomputable section
def Zhf:Sig:=[(true,(.sl Za)),(false,(.sl Zd)),(false,(.sl (.int .i64)))]
noncomputable def ZuE:Tbl:=[(32,Zjx),(40,ZcY),(39,Zf3),(37,Zku)]
theorem ZHI:∀p∈ZuE,EntOK Go.Proofs.Tryz.prog p.1 p.2:=Zg ZkF (Zg Zf4 (Zg ZlQ (Zg Zny (Zv))))
noncomputable def Zqe:Code:=Go.Proofs.Tryz.f23.body.getD .skip
def Zso:Tb:=[(4,⟨[1,3,7,12,13,14],[(8,46)]⟩),(13,⟨[1,3,7,10],[]⟩)]
inductive ZlS where | l4 (h:Int) (out:List Int) | l13 (out:List Int) (i:Int)
def Ze7 (t:List (El Za)) (all:List (El Zd)) (points:List Int):ZlS→JT ZlS (List Int) |.l4 h out=>.br (decide (h < (Int.ofNat (List.length points)))) (.br ((decide ((0:Int)≤h))&&(decide (h < (Int.ofNat (List.length points))))) (.br (decide ((List.getD points (Int.toNat h) (dflt (.int .i64)))≥(0:Int))) (.br (decide ((List.getD points (Int.toNat h) (dflt (.int .i64))) < (Int.ofNat (List.length t)))) (.br (Nat.ble (((List.length out)+1)*8) limit) (.jmp (.l4 (IntKind.i64.wrap (h+(1:Int))) (out++[(List.getD points (Int.toNat h) (dflt (.int .i64)))]))) (.no)) (.jmp (.l4 (IntKind.i64.wrap (h+(1:Int))) out))) (.jmp (.l4 (IntKind.i64.wrap (h+(1:Int))) out))) (.no)) (.br (Zb4 out) (.jmp (.l13 (Ze4 out) (0:Int))) (.no)) |.l13 out i=>.br (decide (i < (Int.ofNat (List.length out)))) (.br (Za4 out) (.br (Zcp (ZL out) i (IntKind.i64.wrap (i+(1:Int)))) (.br (ZaB t all (Zaz (ZL out) i (IntKind.i64.wrap (i+(1:Int))))) (.br ((Int.ofNat (List.length (ZbC t all (Zaz (ZL out) i (IntKind.i64.wrap (i+(1:Int)))))))==(0:Int)) (.jmp (.l13 (Zaz (ZL out) i (IntKind.i64.wrap (i+(1:Int)))) i)) (.jmp (.l13 out (IntKind.i64.wrap (i+(1:Int)))))) (.no)) (.no)) (.no)) (.leaf out)
def ZxP (t:List (El Za)) (all:List (El Zd)) (points:List Int):JT ZlS (List Int):=.jmp (.l4 (0:Int) [])
def Zqv:List Int→AV:=fun (r:List Int)=>.rw 3 (.int .i64) r
def Zgu (t:List (El Za)) (all:List (El Zd)) (points:List Int):ZlS→Nat×St |.l4 h out=>(4,⟨mkTm 54 [(1,.d (.sl Zd) all),(3,.pt 4 0 0),(7,.own 8 0 none),(12,.d (.sl (.int .i64)) points),(13,.d (.int .i64) (Int.ofNat (List.length points))),(14,.d (.int .i64) h)],[(4,0,.box 34 [.d (.sl Za) t] none),(8,0,.row 3 (.int .i64) out false)]⟩) |.l13 out i=>(13,⟨mkTm 54 [(1,.d (.sl Zd) all),(3,.pt 4 0 0),(7,.own 8 0 none),(10,.d (.int .i64) i)],[(4,0,.box 34 [.d (.sl Za) t] none),(8,0,.row 3 (.int .i64) out false)]⟩)
theorem ZG2 (t:List (El Za)) (all:List (El Zd)) (points:List Int) (L:Lt):entryA Go.Proofs.Tryz.prog (clOf ZuE) Zso Go.Proofs.Tryz.f23 Zqe L (toForms Zhf (t,all,points,()))=(ZxP t all points).run (fun v=>some (Zqv v,tps (toForms Zhf (t,all,points,())))) fun j=>L (Zgu t all points j).1 (Zgu t all points j).2:=by kernel_rfl
theorem ZHS (t:List (El Za)) (all:List (El Zd)) (points:List Int):∀(L:Lt) (j:ZlS),procOf (procsF Go.Proofs.Tryz.prog (clOf ZuE) Zso Go.Proofs.Tryz.f23 Zqe (toForms Zhf (t,all,points,()))) (Zgu t all points j).1 L (Zgu t all points j).2=(Ze7 t all points j).run (fun v=>some (Zqv v,tps (toForms Zhf (t,all,points,())))) fun j=>L (Zgu t all points j).1 (Zgu t all points j).2 | L,.l4 h out=>by kernel_rfl | L,.l13 out i=>by kernel_rfl
end
end Go.Ev
end

section
open Go
namespace Go.Ev
noncomputable def Zbm (t:List (El Za)) (all:List (El Zd)) (points:List Int):List Int:=pruneV (uB t) t.length all points
def ZdJ (t:List (El Za)) (all:List (El Zd)) (points:List Int):Bool:=flowOK t&&(decide (points.length < 1000000000000)&&decide (all.length < 1000000000000))
theorem ZLW {l:List Int} :(putsL [] l).length≤l.length:=by rw[←ZLa];exact ZGe
theorem ZK7 (t:List (El Za)) (all:List (El Zd)) (points:List Int) (hk:ZdJ t all points=true):Goes (Ze7 t all points) (ZxP t all points) (Zbm t all points):=by
 unfold ZdJ at hk
 rw[Bool.and_eq_true,Bool.and_eq_true,decide_eq_true_eq,decide_eq_true_eq] at hk
 obtain ⟨hf,hp,hN⟩:=hk
 have second:∀rest done:List Int,(done++rest).length < 1000000000000→Goes (Ze7 t all points) (.jmp (.l13 (done++rest) (done.length:Int))) (pruneL (uB t) all done rest):=by
  intro rest
  induction rest with
  | nil=>
   intro done hl
   rw[Zi,Ze7,List.append_nil,Ze,if_neg (by rw[Zx (Nat.lt_irrefl _)];decide)]
   exact .leaf
  | cons x r ih=>
   intro done hl
   have hlt:done.length < (done++x :: r).length:=by simp
   rw[Zi,Ze7,Zt (by omega)]
   have hcl:Za4 (done++x :: r)=true:=decide_eq_true (by omega)
   have hvc:ZL (done++x :: r)=done++x :: r:=rfl
   rw[hvc]
   have hkd:Zcp (done++x :: r) (done.length:Int) ((done.length+1:Nat):Int)=true:=decide_eq_true ⟨by omega,by omega,by omega,by omega⟩
   have hvd:Zaz (done++x :: r) (done.length:Int) ((done.length+1:Nat):Int)=done++r:=by
    unfold Zaz
    rw[Int.toNat_natCast,Int.toNat_natCast,List.take_left' rfl,List.drop_append]
    simp
   rw[hvd]
   have hlr:(done++r).length < 1000000000000:=by simp at hl ⊢;omega
   have hkm:ZaB t all (done++r)=true:=by
    unfold ZaB
    rw[hf,decide_eq_true (show (done++r).length < 4611686018427387904 by omega),decide_eq_true hN];rfl
   have hvm:ZbC t all (done++r)=all.filter (uB t (done++r)):=rfl
   rw[Ze,if_pos (ZS hlt),Ze,if_pos hcl,Ze,if_pos hkd,Ze,if_pos hkm,hvm,Ze,pruneL]
   by_cases hz:(all.filter (uB t (done++r))).length=0
   ·rw[if_pos (by rw[hz];rfl),if_pos hz]
    exact ih done hlr
   ·rw[if_neg (by simp only[beq_iff_eq,Int.ofNat_eq_natCast];omega),if_neg hz]
    have:=ih (done++[x]) (by rw[List.append_assoc];exact hl)
    rw[List.append_assoc,List.length_append] at this
    exact this
 have first:∀k,k≤points.length→∀out:List Int,out.length≤k→Goes (Ze7 t all points) (.jmp (.l4 (k:Int) out)) (pruneL (uB t) all [] (putsL [] (out++(points.drop k).filter (inR t.length)))):=by
  refine down ?_ fun k hk ih=>?_
  ·intro out ho
   rw[Zi,Ze7,Ze,if_neg (by rw[Zx (Nat.lt_irrefl _)];decide),List.drop_length,Ze,if_pos (show Zb4 out=true from decide_eq_true (by omega))]
   simp only[List.filter_nil,List.append_nil]
   have h1:(putsL [] out).length≤out.length:=ZLW
   exact second (putsL [] out) [] (by simp;omega)
  ·intro out ho
   have b1:Nat.ble ((out.length+1)*8) limit=true:=Nat.ble_eq_true_of_le (by unfold limit;omega)
   rw[Zi,Ze7,ZP hk,List.filter_cons]
   simp only[Ze,ZS hk,nng,Bool.and_self,if_true,Int.toNat_natCast,ZG hk,b1,Zt (k:=k) (by omega)]
   have e2:decide (points[k] < Int.ofNat t.length)=decide (points[k] < (t.length:Int)):=rfl
   have e1:inR t.length points[k]=(decide (points[k]≥0)&&decide (points[k] < (t.length:Int))):=rfl
   rw[e1,e2]
   cases c1:decide (points[k]≥0) with
   | true=>
    cases c2:decide (points[k] < (t.length:Int)) with
    | true=>
     have:=ih (out++[points[k]]) (by simp;omega)
     rw[List.append_assoc] at this
     exact this
    | false=>exact ih out (by omega)
   | false=>exact ih out (by omega)
 have:=first 0 (Nat.zero_le _) [] (Nat.zero_le _)
 rw[List.nil_append,List.drop_zero] at this
 exact this
end Go.Ev
end

section
open Go Go.Ev
namespace Go.Ev
noncomputable section
noncomputable def ZzK:Run:=entG Zhf Zqv (fun a=>ZdJ a.1 a.2.1 a.2.2.1) (fun a=>Zbm a.1 a.2.1 a.2.2.1)
theorem ZJC:EntOK Go.Proofs.Tryz.prog 23 ZzK:=ZJ (tb:=Zso) (c:=Zqe) ZHI (by kernel_rfl) (by kernel_rfl) (by kernel_rfl) (fun a=>by kernel_rfl) fun ⟨t,all,points,_⟩ hk=>Zn (c:=Zqe) (K:=fun v=>(Zqv v,tps (toForms Zhf (t,all,points,())))) (S:=Zgu t all points) (by kernel_rfl) (ZG2 t all points) (ZHS t all points) (ZK7 t all points hk)
end
end Go.Ev
end

section
open Go Go.Ev
namespace Go.Ev
noncomputable section
def Zf2:Sig:=[(true,Zc),(false,(.int .i64)),(false,(.sl Zd)),(false,(.sl Zd))]
noncomputable def Zro:Tbl:=[(24,Zs4),(33,Zq6),(23,ZzK)]
theorem ZFW:∀p∈Zro,EntOK Go.Proofs.Tryz.prog p.1 p.2:=Zg ZrN (Zg ZwM (Zg ZJC (Zv)))
noncomputable def Zl8:Code:=Go.Proofs.Tryz.f30.body.getD .skip
def Zpe:Tb:=[(5,⟨[1,3,9,10,11,12,29,30,31],[(12,46),(13,46)]⟩),(13,⟨[9,10,15,57,58,59],[]⟩)]
inductive Zjh where | l5 (x:List (El Za)) (h:Int) (after:List Int) (ahead:List Int) | l13 (x:List (El Za)) (best:List Int) (h:List (List Int)) (h1:Int)
def ZbN (p:El Zc) (t:Int) (pairs:List (El Zd)) (open_:List (El Zd)):Zjh→JT Zjh (List Int) |.l5 x h after ahead=>.br (decide (h < (Int.ofNat (List.length (ZT open_ t))))) (.br ((decide ((0:Int)≤h))&&(decide (h < (Int.ofNat (List.length (ZT open_ t)))))) (.br (Nat.ble (((List.length after)+1)*8) limit) (.br (Nat.ble (((List.length ahead)+1)*8) limit) (.jmp (.l5 x (IntKind.i64.wrap (h+(1:Int))) (after++[(IntKind.i64.wrap ((List.getD (ZT open_ t) (Int.toNat h) (dflt Zd)).2.1+(1:Int)))]) (ahead++[(List.getD (ZT open_ t) (Int.toNat h) (dflt Zd)).2.2]))) (.no)) (.no)) (.no)) (.br (Zb2 open_ t) (.br (Zbs x (ZT open_ t)) (.br (ZdJ x (ZT pairs t) (Zb3 x (ZT open_ t))) (.jmp (.l13 x (Zbm x (ZT pairs t) (Zb3 x (ZT open_ t))) [after,ahead] (0:Int))) (.no)) (.no)) (.no)) |.l13 x best h h1=>.br (decide (h1 < (2:Int))) (.br ((decide ((0:Int)≤h1))&&(decide (h1 < (Int.ofNat (List.length h))))) (.br (ZdJ x (ZT pairs t) (List.getD h (Int.toNat h1) (dflt (.sl (.int .i64))))) (.br (decide ((Int.ofNat (List.length (Zbm x (ZT pairs t) (List.getD h (Int.toNat h1) (dflt (.sl (.int .i64))))))) < (Int.ofNat (List.length best)))) (.jmp (.l13 x (Zbm x (ZT pairs t) (List.getD h (Int.toNat h1) (dflt (.sl (.int .i64))))) h (IntKind.i64.wrap (h1+(1:Int))))) (.jmp (.l13 x best h (IntKind.i64.wrap (h1+(1:Int)))))) (.no)) (.no)) (.leaf best)
def Zo3 (p:El Zc) (t:Int) (pairs:List (El Zd)) (open_:List (El Zd)):JT Zjh (List Int):=.br ((decide ((0:Int)≤t))&&(decide (t < (Int.ofNat (List.length p.2))))) (.br (Zb2 pairs t) (.br (Zb2 open_ t) (.jmp (.l5 (List.getD p.2 (Int.toNat t) (dflt (.sl Za))) (0:Int) [] [])) (.no)) (.no)) (.no)
def Zl6:List Int→AV:=fun (r:List Int)=>.rw 3 (.int .i64) r
def ZeI (p:El Zc) (t:Int) (pairs:List (El Zd)) (open_:List (El Zd)):Zjh→Nat×St |.l5 x h after ahead=>(5,⟨mkTm 75 [(1,.d (.int .i64) t),(3,.d (.sl Zd) open_),(9,.pt 10 0 0),(10,.own 11 0 none),(11,.own 12 0 none),(12,.own 13 0 none),(29,.own 30 0 none),(30,.d (.int .i64) (Int.ofNat (List.length (ZT open_ t)))),(31,.d (.int .i64) h)],[(10,0,.box 34 [.d (.sl Za) x] none),(11,0,.row 67 Zd (ZT pairs t) false),(12,0,.row 3 (.int .i64) after false),(13,0,.row 3 (.int .i64) ahead false),(30,0,.row 67 Zd (ZT open_ t) false)]⟩) |.l13 x best h h1=>(13,⟨mkTm 75 [(9,.pt 10 0 0),(10,.own 11 0 none),(15,.own 16 0 none),(57,.own 58 0 none),(58,.d (.int .i64) (2:Int)),(59,.d (.int .i64) h1)],[(10,0,.box 34 [.d (.sl Za) x] none),(11,0,.row 67 Zd (ZT pairs t) false),(16,0,.row 3 (.int .i64) best false),(58,0,.row 23 (.sl (.int .i64)) h false)]⟩)
theorem ZEk (p:El Zc) (t:Int) (pairs:List (El Zd)) (open_:List (El Zd)) (L:Lt):entryA Go.Proofs.Tryz.prog (clOf Zro) Zpe Go.Proofs.Tryz.f30 Zl8 L (toForms Zf2 (p,t,pairs,open_,()))=(Zo3 p t pairs open_).run (fun v=>some (Zl6 v,tps (toForms Zf2 (p,t,pairs,open_,())))) fun j=>L (ZeI p t pairs open_ j).1 (ZeI p t pairs open_ j).2:=by kernel_rfl
theorem ZDY (p:El Zc) (t:Int) (pairs:List (El Zd)) (open_:List (El Zd)):∀(L:Lt) (j:Zjh),procOf (procsF Go.Proofs.Tryz.prog (clOf Zro) Zpe Go.Proofs.Tryz.f30 Zl8 (toForms Zf2 (p,t,pairs,open_,()))) (ZeI p t pairs open_ j).1 L (ZeI p t pairs open_ j).2=(ZbN p t pairs open_ j).run (fun v=>some (Zl6 v,tps (toForms Zf2 (p,t,pairs,open_,())))) fun j=>L (ZeI p t pairs open_ j).1 (ZeI p t pairs open_ j).2 | L,.l5 x h after ahead=>by kernel_rfl | L,.l13 x best h h1=>by kernel_rfl
end
end Go.Ev
end

section
open Go
namespace Go.Ev
def storeIn (x:PairD):Bool:=decide ((0:Int)≤x.2.1∧(show Int from x.2.1) < 1099511627776)
noncomputable def ZbL (p:El Zc) (t:Int) (pairs:List (El Zd)) (open_:List (El Zd)):List Int:=pointsV (uB (thrT p t)) (thrT p t).length (pairs.filter (ofB t)) (open_.filter (ofB t))
def ZcB (p:El Zc) (t:Int) (pairs:List (El Zd)) (open_:List (El Zd)):Bool:=
 (decide ((0:Int)≤t)&&decide (t < Int.ofNat p.2.length))&&(flowOK (thrT p t)&&(decide (pairs.length < 1000000000)&&(decide (open_.length < 1000000000)&&(open_.filter (ofB t)).all fun x=>loadIn (thrT p t).length x&&storeIn x)))
theorem ZMq {x:PairD} (h:storeIn x=true):IntKind.i64.wrap ((show Int from x.2.1)+1)=(show Int from x.2.1)+1:=by
 obtain ⟨h1,h2⟩:=of_decide_eq_true h
 have h1:(0:Int)≤(show Int from x.2.1):=h1
 generalize (show Int from x.2.1)=y at*
 exact wrap_i64 (by omega) (by omega)
theorem ZHT (p:El Zc) (t:Int) (pairs:List (El Zd)) (open_:List (El Zd)) (hk:ZcB p t pairs open_=true):Goes (ZbN p t pairs open_) (Zo3 p t pairs open_) (ZbL p t pairs open_):=by
 unfold ZcB at hk
 rw[Bool.and_eq_true] at hk
 obtain ⟨hin,hk⟩:=hk
 rw[Bool.and_eq_true,Bool.and_eq_true,Bool.and_eq_true] at hk
 obtain ⟨hf,hP,hO,hall⟩:=hk
 have hP:=of_decide_eq_true hP
 have hO:=of_decide_eq_true hO
 have hall:=List.all_eq_true.1 hall
 have ho1:((open_.filter (ofB t)).all (loadIn (thrT p t).length))=true:=List.all_eq_true.2 fun x hx=>by
  have:=hall x hx
  rw[Bool.and_eq_true] at this
  exact this.1
 have hs:∀x∈open_.filter (ofB t),storeIn x=true:=fun x hx=>by
  have:=hall x hx
  rw[Bool.and_eq_true] at this
  exact this.2
 have hol:(open_.filter (ofB t)).length≤open_.length:=List.length_filter_le _ _
 have hpl:(pairs.filter (ofB t)).length≤pairs.length:=List.length_filter_le _ _
 have kof1:Zb2 pairs t=true:=decide_eq_true (by omega)
 have kof2:Zb2 open_ t=true:=decide_eq_true (by omega)
 have vof1:ZT pairs t=pairs.filter (ofB t):=rfl
 have vof2:ZT open_ t=open_.filter (ofB t):=rfl
 have kg:Zbs (thrT p t) (open_.filter (ofB t))=true:=by
  unfold Zbs
  rw[hf,decide_eq_true (show (open_.filter (ofB t)).length < 1000000000 by omega),ho1];rfl
 have kp:∀pts:List Int,pts.length < 1000000000000→ZdJ (thrT p t) (pairs.filter (ofB t)) pts=true:=fun pts h=>by
  unfold ZdJ
  rw[hf,decide_eq_true h,decide_eq_true (show (pairs.filter (ofB t)).length < 1000000000000 by omega)];rfl
 have hgl:∀(f:Nat) (pts:List Int) (l:List PairD),(greedyL (uB (thrT p t)) (thrT p t).length f pts l).length≤f+pts.length:=by
  intro f
  induction f with
  | zero=>intro pts l;rw[greedyL];omega
  | succ f ih=>
   intro pts l
   rw[greedyL]
   split
   ·omega
   ·have:=ih (pts++[(bestG (uB (thrT p t)) (thrT p t).length pts l).1]) (bestG (uB (thrT p t)) (thrT p t).length pts l).2
    rw[List.length_append,List.length_singleton] at this
    omega
 have hgv:(Zb3 (thrT p t) (open_.filter (ofB t))).length < 1000000000000:=by
  have h1:(Zb3 (thrT p t) (open_.filter (ofB t))).length≤(greedyL (uB (thrT p t)) (thrT p t).length (open_.filter (ofB t)).length [] (open_.filter (ofB t))).length:=ZLW
  have h2:=hgl (open_.filter (ofB t)).length [] (open_.filter (ofB t))
  simp only[List.length_nil,Nat.add_zero] at h2
  omega
 have hx:List.getD p.2 (Int.toNat t) (dflt (.sl Za))=thrT p t:=rfl
 have second:∀after ahead:List Int,after.length < 1000000000000→ahead.length < 1000000000000→∀b0:List Int,
   Goes (ZbN p t pairs open_) (.jmp (.l13 (thrT p t) b0 [after,ahead] (0:Int))) (shorter (shorter b0 (Zbm (thrT p t) (pairs.filter (ofB t)) after)) (Zbm (thrT p t) (pairs.filter (ofB t)) ahead)):=by
  intro after ahead h1 h2 b0
  have last:∀b:List Int,Goes (ZbN p t pairs open_) (.jmp (.l13 (thrT p t) b [after,ahead] (2:Int))) b:=fun b=>by
   rw[Zi,ZbN,Ze,if_neg (by decide)]
   exact .leaf
  have mid:∀b:List Int,Goes (ZbN p t pairs open_) (.jmp (.l13 (thrT p t) b [after,ahead] (1:Int))) (shorter b (Zbm (thrT p t) (pairs.filter (ofB t)) ahead)):=fun b=>by
   rw[Zi,ZbN,vof1,Ze,if_pos (by decide),Ze,if_pos (by rfl),Ze]
   have e:List.getD [after,ahead] (Int.toNat (1:Int)) (dflt (.sl (.int .i64)))=ahead:=rfl
   have w:IntKind.i64.wrap ((1:Int)+1)=2:=by decide
   rw[e,w,if_pos (kp _ h2),Ze]
   unfold shorter
   by_cases c:(Zbm (thrT p t) (pairs.filter (ofB t)) ahead).length < b.length
   ·rw[if_pos (ZK2 c),if_pos c];exact last _
   ·rw[if_neg (by rw[ZFh c];decide),if_neg c];exact last _
  rw[Zi,ZbN,vof1,Ze,if_pos (by decide),Ze,if_pos (by rfl),Ze]
  have e:List.getD [after,ahead] (Int.toNat (0:Int)) (dflt (.sl (.int .i64)))=after:=rfl
  have w:IntKind.i64.wrap ((0:Int)+1)=1:=by decide
  rw[e,w,if_pos (kp _ h1),Ze]
  have s1:shorter b0 (Zbm (thrT p t) (pairs.filter (ofB t)) after)=if (Zbm (thrT p t) (pairs.filter (ofB t)) after).length < b0.length then Zbm (thrT p t) (pairs.filter (ofB t)) after else b0:=rfl
  rw[s1]
  by_cases c:(Zbm (thrT p t) (pairs.filter (ofB t)) after).length < b0.length
  ·rw[if_pos (ZK2 c),if_pos c];exact mid _
  ·rw[if_neg (by rw[ZFh c];decide),if_neg c];exact mid _
 obtain ⟨O,hOe⟩:∃O,open_.filter (ofB t)=O:=⟨_,rfl⟩
 have first:∀k,k≤O.length→Goes (ZbN p t pairs open_) (.jmp (.l5 (thrT p t) (k:Int) ((O.take k).map fun x=>(show Int from x.2.1)+1) ((O.take k).map fun x=>x.2.2))) (ZbL p t pairs open_):=by
  rw[hOe] at hol hs vof2 kg hgv
  refine down ?_ fun k hk ih=>?_
  ·rw[Zi,ZbN,vof1,vof2,Ze,if_neg (by rw[Zx (Nat.lt_irrefl _)];decide),Ze,if_pos kof2,Ze,if_pos kg,Ze,if_pos (kp _ hgv),List.take_length]
   have:=second (O.map fun x=>(show Int from x.2.1)+1) (O.map fun x=>x.2.2) (by rw[List.length_map];omega) (by rw[List.length_map];omega) (Zbm (thrT p t) (pairs.filter (ofB t)) (Zb3 (thrT p t) O))
   unfold ZbL
   rw[hOe]
   exact this
  ·have b1:Nat.ble ((((O.take k).map fun x=>(show Int from x.2.1)+1).length+1)*8) limit=true:=Nat.ble_eq_true_of_le (by rw[List.length_map,List.length_take];unfold limit;omega)
   have b2:Nat.ble ((((O.take k).map fun x=>(show Int from x.2.2)).length+1)*8) limit=true:=Nat.ble_eq_true_of_le (by rw[List.length_map,List.length_take];unfold limit;omega)
   have hw:=ZMq (hs _ (List.getElem_mem hk))
   rw[List.take_succ_eq_append_getElem hk,List.map_append,List.map_append] at ih
   rw[Zi,ZbN,vof2,Ze,if_pos (ZS hk),Ze,if_pos (by rw[nng,ZS hk];rfl),Ze,if_pos b1,Ze,if_pos b2,Int.toNat_natCast,ZG hk,Zt (by omega)]
   have hw':IntKind.i64.wrap (O[k].2.1+(1:Int))=(show Int from O[k].2.1)+1:=hw
   rw[hw']
   exact ih
 unfold Zo3
 rw[Ze,if_pos hin,Ze,if_pos kof1,Ze,if_pos kof2,hx]
 exact first 0 (Nat.zero_le _)
end Go.Ev
end

section
open Go Go.Ev
namespace Go.Ev
noncomputable section
noncomputable def Zsl:Run:=entG Zf2 Zl6 (fun a=>ZcB a.1 a.2.1 a.2.2.1 a.2.2.2.1) (fun a=>ZbL a.1 a.2.1 a.2.2.1 a.2.2.2.1)
theorem Zwd:EntOK Go.Proofs.Tryz.prog 30 Zsl:=ZJ (tb:=Zpe) (c:=Zl8) ZFW (by kernel_rfl) (by kernel_rfl) (by kernel_rfl) (fun a=>by kernel_rfl) fun ⟨p,t,pairs,open_,_⟩ hk=>Zn (c:=Zl8) (K:=fun v=>(Zl6 v,tps (toForms Zf2 (p,t,pairs,open_,())))) (S:=ZeI p t pairs open_) (by kernel_rfl) (ZEk p t pairs open_) (ZDY p t pairs open_) (ZHT p t pairs open_ hk)
end
end Go.Ev
end

section
open Go Go.Ev
namespace Go.Ev
noncomputable section
def ZfL:Sig:=[(true,Zc),(false,(.int .i64))]
noncomputable def ZrL:Tbl:=[(22,ZiJ),(25,ZhY),(31,Zhj),(30,Zsl)]
theorem ZGA:∀p∈ZrL,EntOK Go.Proofs.Tryz.prog p.1 p.2:=Zg Zjj (Zg Zi5 (Zg Zih (Zg Zwd (Zv))))
noncomputable def Zl9:Code:=Go.Proofs.Tryz.f13.body.getD .skip
def ZqI:Tb:=[(hintK,⟨[],[(1,46)]⟩)]
def Zyw (p:El Zc) (t:Int):Empty→JT Empty (List Int):=fun j=>nomatch j
def Zwt (p:El Zc) (t:Int):JT Empty (List Int):=.br (ZaR p t) (.br (! (ZaU p t)) (.leaf []) (.br (Z3 p) (.br (ZaF p) (.br (ZcB p t (Zk p) (Zm p)) (.leaf (ZbL p t (Zk p) (Zm p))) (.no)) (.no)) (.no))) (.no)
def Za1 (p:El Zc) (t:Int):List Int:=bif (ZaR p t) then bif (! (ZaU p t)) then [] else bif (Z3 p) then bif (ZaF p) then bif (ZcB p t (Zk p) (Zm p)) then (ZbL p t (Zk p) (Zm p)) else [] else [] else [] else []
def Zds (p:El Zc) (t:Int):Bool:=bif (ZaR p t) then bif (! (ZaU p t)) then true else bif (Z3 p) then bif (ZaF p) then bif (ZcB p t (Zk p) (Zm p)) then true else false else false else false else false
theorem ZIa (p:El Zc) (t:Int) (hk:Zds p t=true):Goes (Zyw p t) (Zwt p t) (Za1 p t):=Goes.brk hk (fun hk=>Goes.brk hk (fun hk=>Goes.leaf) (fun hk=>Goes.brk hk (fun hk=>Goes.brk hk (fun hk=>Goes.brk hk (fun hk=>Goes.leaf) (fun hk=>Goes.nok hk)) (fun hk=>Goes.nok hk)) (fun hk=>Goes.nok hk))) (fun hk=>Goes.nok hk)
def Zmx:List Int→AV:=fun (r:List Int)=>.rw 3 (.int .i64) r
def Ze2 (p:El Zc) (t:Int):Empty→Nat×St:=fun j=>nomatch j
theorem ZEA (p:El Zc) (t:Int) (L:Lt):entryA Go.Proofs.Tryz.prog (clOf ZrL) ZqI Go.Proofs.Tryz.f13 Zl9 L (toForms ZfL (p,t,()))=(Zwt p t).run (fun v=>some (Zmx v,tps (toForms ZfL (p,t,())))) fun j=>L (Ze2 p t j).1 (Ze2 p t j).2:=by kernel_rfl
theorem ZEE (p:El Zc) (t:Int):∀(L:Lt) (j:Empty),procOf (procsF Go.Proofs.Tryz.prog (clOf ZrL) ZqI Go.Proofs.Tryz.f13 Zl9 (toForms ZfL (p,t,()))) (Ze2 p t j).1 L (Ze2 p t j).2=(Zyw p t j).run (fun v=>some (Zmx v,tps (toForms ZfL (p,t,())))) fun j=>L (Ze2 p t j).1 (Ze2 p t j).2:=fun L j=>nomatch j
noncomputable def ZqX:Run:=entG ZfL Zmx (fun a=>Zds a.1 a.2.1) (fun a=>Za1 a.1 a.2.1)
theorem Zwg:EntOK Go.Proofs.Tryz.prog 13 ZqX:=ZJ (tb:=ZqI) (c:=Zl9) ZGA (by kernel_rfl) (by kernel_rfl) (by kernel_rfl) (fun a=>by kernel_rfl) fun ⟨p,t,_⟩ hk=>Zn (c:=Zl9) (K:=fun v=>(Zmx v,tps (toForms ZfL (p,t,())))) (S:=Ze2 p t) (by kernel_rfl) (ZEA p t) (ZEE p t) (ZIa p t hk)
end
end Go.Ev
end

section
open Go Go.Ev
namespace Go.Ev
noncomputable section
def Zhc:Sig:=[(true,Zc),(false,(.int .i64))]
noncomputable def Zui:Tbl:=[(48,Zsg)]
theorem ZGW:∀p∈Zui,EntOK Go.Proofs.Tryz.prog p.1 p.2:=Zg Zvk (Zv)
noncomputable def ZoG:Code:=Go.Proofs.Tryz.f26.body.getD .skip
def ZsJ:Tb:=[]
def ZAG (p:El Zc) (t:Int):Empty→JT Empty (Bool):=fun j=>nomatch j
def Zyl (p:El Zc) (t:Int):JT Empty (Bool):=.br (Zb5 p) (.br ((ZcE p) !=(0:Int)) (.leaf true) (.br (decide (t < (0:Int))) (.leaf true) (.leaf (decide (t≥(Int.ofNat (List.length p.2))))))) (.no)
def ZgL (p:El Zc) (t:Int):Bool:=bif (Zb5 p) then bif ((ZcE p) !=(0:Int)) then true else bif (decide (t < (0:Int))) then true else (decide (t≥(Int.ofNat (List.length p.2)))) else false
def ZgC (p:El Zc) (t:Int):Bool:=bif (Zb5 p) then bif ((ZcE p) !=(0:Int)) then true else bif (decide (t < (0:Int))) then true else true else false
theorem ZK3 (p:El Zc) (t:Int) (hk:ZgC p t=true):Goes (ZAG p t) (Zyl p t) (ZgL p t):=Goes.brk hk (fun hk=>Goes.brk hk (fun hk=>Goes.leaf) (fun hk=>Goes.brk hk (fun hk=>Goes.leaf) (fun hk=>Goes.leaf))) (fun hk=>Goes.nok hk)
def ZpA:Bool→AV:=fun (r:Bool)=>.d .bool r
def Zgs (p:El Zc) (t:Int):Empty→Nat×St:=fun j=>nomatch j
theorem ZGG (p:El Zc) (t:Int) (L:Lt):entryA Go.Proofs.Tryz.prog (clOf Zui) ZsJ Go.Proofs.Tryz.f26 ZoG L (toForms Zhc (p,t,()))=(Zyl p t).run (fun v=>some (ZpA v,tps (toForms Zhc (p,t,())))) fun j=>L (Zgs p t j).1 (Zgs p t j).2:=by kernel_rfl
theorem ZGZ (p:El Zc) (t:Int):∀(L:Lt) (j:Empty),procOf (procsF Go.Proofs.Tryz.prog (clOf Zui) ZsJ Go.Proofs.Tryz.f26 ZoG (toForms Zhc (p,t,()))) (Zgs p t j).1 L (Zgs p t j).2=(ZAG p t j).run (fun v=>some (ZpA v,tps (toForms Zhc (p,t,())))) fun j=>L (Zgs p t j).1 (Zgs p t j).2:=fun L j=>nomatch j
noncomputable def ZAh:Run:=entG Zhc ZpA (fun a=>ZgC a.1 a.2.1) (fun a=>ZgL a.1 a.2.1)
theorem ZJw:EntOK Go.Proofs.Tryz.prog 26 ZAh:=ZJ (tb:=ZsJ) (c:=ZoG) ZGW (by kernel_rfl) (by kernel_rfl) (by kernel_rfl) (fun a=>by kernel_rfl) fun ⟨p,t,_⟩ hk=>Zn (c:=ZoG) (K:=fun v=>(ZpA v,tps (toForms Zhc (p,t,())))) (S:=Zgs p t) (by kernel_rfl) (ZGG p t) (ZGZ p t) (ZK3 p t hk)
end
end Go.Ev
end

section
open Go Go.Ev
namespace Go.Ev
noncomputable section
def ZkQ:Sig:=[(false,(.sl Zd)),(false,(.int .i64))]
noncomputable def ZAS:Tbl:=[]
theorem ZMv:∀p∈ZAS,EntOK Go.Proofs.Tryz.prog p.1 p.2:=Zv
noncomputable def ZwH:Code:=Go.Proofs.Tryz.f28.body.getD .skip
def Zxl:Tb:=[(4,⟨[0,1,5,6],[(6,122)]⟩)]
inductive Zr9 where | l4 (i:Int) (out:List (El Zd))
def ZrX (l:List (El Zd)) (t:Int):Zr9→JT Zr9 (List (El Zd)) |.l4 i out=>.br (decide (i < (Int.ofNat (List.length l)))) (.br ((decide ((0:Int)≤i))&&(decide (i < (Int.ofNat (List.length l))))) (.br ((List.getD l (Int.toNat i) (dflt Zd)).1==t) (.br ((decide ((0:Int)≤i))&&(decide (i < (Int.ofNat (List.length l))))) (.br (Nat.ble (((List.length out)+1)*24) limit) (.jmp (.l4 (IntKind.i64.wrap (i+(1:Int))) (out++[(List.getD l (Int.toNat i) (dflt Zd))]))) (.no)) (.no)) (.jmp (.l4 (IntKind.i64.wrap (i+(1:Int))) out))) (.no)) (.leaf out)
def ZDD (l:List (El Zd)) (t:Int):JT Zr9 (List (El Zd)):=.jmp (.l4 (0:Int) [])
def ZvY:List (El Zd)→AV:=fun (r:List (El Zd))=>.rw 67 Zd r
def ZlV (l:List (El Zd)) (t:Int):Zr9→Nat×St |.l4 i out=>(4,⟨mkTm 28 [(0,.d (.sl Zd) l),(1,.d (.int .i64) t),(5,.own 6 0 none),(6,.d (.int .i64) i)],[(6,0,.row 67 Zd out false)]⟩)
theorem ZMF (l:List (El Zd)) (t:Int) (L:Lt):entryA Go.Proofs.Tryz.prog (clOf ZAS) Zxl Go.Proofs.Tryz.f28 ZwH L (toForms ZkQ (l,t,()))=(ZDD l t).run (fun v=>some (ZvY v,tps (toForms ZkQ (l,t,())))) fun j=>L (ZlV l t j).1 (ZlV l t j).2:=by kernel_rfl
theorem ZMX (l:List (El Zd)) (t:Int):∀(L:Lt) (j:Zr9),procOf (procsF Go.Proofs.Tryz.prog (clOf ZAS) Zxl Go.Proofs.Tryz.f28 ZwH (toForms ZkQ (l,t,()))) (ZlV l t j).1 L (ZlV l t j).2=(ZrX l t j).run (fun v=>some (ZvY v,tps (toForms ZkQ (l,t,())))) fun j=>L (ZlV l t j).1 (ZlV l t j).2 | L,.l4 i out=>by kernel_rfl
end
end Go.Ev
end

section
open Go
namespace Go.Ev
def ZhU (l:List (El Zd)) (t:Int):List (El Zd):=l.filter (ofB t)
def Zog (l:List (El Zd)) (t:Int):Bool:=decide (l.length < 1000000000000)
theorem ZOA (l:List (El Zd)) (t:Int) (hk:Zog l t=true):Goes (ZrX l t) (ZDD l t) (ZhU l t):=by
 have hN:=of_decide_eq_true hk
 have loop:∀k,k≤l.length→∀out:List (El Zd),out.length≤k→Goes (ZrX l t) (.jmp (.l4 (k:Int) out)) (out++(l.drop k).filter (ofB t)):=by
  refine down ?_ fun k hk ih=>?_
  ·intro out ho
   rw[Zi,ZrX,Ze,if_neg (by rw[Zx (Nat.lt_irrefl _)];decide),List.drop_length]
   simp only[List.filter_nil,List.append_nil]
   exact .leaf
  ·intro out ho
   have b1:Nat.ble ((out.length+1)*24) limit=true:=Nat.ble_eq_true_of_le (by unfold limit;omega)
   rw[Zi,ZrX,ZP hk,List.filter_cons]
   simp only[Ze,ZS hk,nng,Bool.and_self,if_true,Int.toNat_natCast,ZG hk,b1,Zt (k:=k) (by omega)]
   by_cases c:ofB t l[k]=true
   ·have c':=c
    unfold ofB at c'
    rw[if_pos c',if_pos c]
    have:=ih (out++[l[k]]) (by simp;omega)
    rw[List.append_assoc] at this
    exact this
   ·have c':=c
    unfold ofB at c'
    rw[if_neg c',if_neg c]
    exact ih out (by omega)
 have:=loop 0 (Nat.zero_le _) [] (Nat.zero_le _)
 rw[List.nil_append,List.drop_zero] at this
 exact this
end Go.Ev
end

section
open Go Go.Ev
namespace Go.Ev
noncomputable section
noncomputable def ZIh:Run:=entG ZkQ ZvY (fun a=>Zog a.1 a.2.1) (fun a=>ZhU a.1 a.2.1)
theorem ZMZ:EntOK Go.Proofs.Tryz.prog 28 ZIh:=ZJ (tb:=Zxl) (c:=ZwH) ZMv (by kernel_rfl) (by kernel_rfl) (by kernel_rfl) (fun a=>by kernel_rfl) fun ⟨l,t,_⟩ hk=>Zn (c:=ZwH) (K:=fun v=>(ZvY v,tps (toForms ZkQ (l,t,())))) (S:=ZlV l t) (by kernel_rfl) (ZMF l t) (ZMX l t) (ZOA l t hk)
end
end Go.Ev
end

section
open Go Go.Ev
namespace Go.Ev
noncomputable section
def ZfG:Sig:=[(true,(.sl Za)),(false,(.sl Zd)),(false,(.sl (.int .i64)))]
noncomputable def Zr4:Tbl:=[(49,ZzI)]
theorem ZGv:∀p∈Zr4,EntOK Go.Proofs.Tryz.prog p.1 p.2:=Zg ZHm (Zv)
noncomputable def ZmT:Code:=Go.Proofs.Tryz.f27.body.getD .skip
def Zp0:Tb:=[(4,⟨[1,2,3,7,8],[(8,122)]⟩)]
inductive Zjz where | l4 (i:Int) (out:List (El Zd))
def Zjp (t:List (El Za)) (l:List (El Zd)) (points:List Int):Zjz→JT Zjz (List (El Zd)) |.l4 i out=>.br (decide (i < (Int.ofNat (List.length l)))) (.br ((decide ((0:Int)≤i))&&(decide (i < (Int.ofNat (List.length l))))) (.br ((decide ((0:Int)≤i))&&(decide (i < (Int.ofNat (List.length l))))) (.br (Zit t points (List.getD l (Int.toNat i) (dflt Zd)).2.1 (List.getD l (Int.toNat i) (dflt Zd)).2.2) (.br (ZgX t points (List.getD l (Int.toNat i) (dflt Zd)).2.1 (List.getD l (Int.toNat i) (dflt Zd)).2.2) (.br ((decide ((0:Int)≤i))&&(decide (i < (Int.ofNat (List.length l))))) (.br (Nat.ble (((List.length out)+1)*24) limit) (.jmp (.l4 (IntKind.i64.wrap (i+(1:Int))) (out++[(List.getD l (Int.toNat i) (dflt Zd))]))) (.no)) (.no)) (.jmp (.l4 (IntKind.i64.wrap (i+(1:Int))) out))) (.no)) (.no)) (.no)) (.leaf out)
def ZvU (t:List (El Za)) (l:List (El Zd)) (points:List Int):JT Zjz (List (El Zd)):=.jmp (.l4 (0:Int) [])
def Zml:List (El Zd)→AV:=fun (r:List (El Zd))=>.rw 67 Zd r
def Zfo (t:List (El Za)) (l:List (El Zd)) (points:List Int):Zjz→Nat×St |.l4 i out=>(4,⟨mkTm 36 [(1,.d (.sl Zd) l),(2,.d (.sl (.int .i64)) points),(3,.pt 4 0 0),(7,.own 8 0 none),(8,.d (.int .i64) i)],[(4,0,.box 34 [.d (.sl Za) t] none),(8,0,.row 67 Zd out false)]⟩)
theorem ZFu (t:List (El Za)) (l:List (El Zd)) (points:List Int) (L:Lt):entryA Go.Proofs.Tryz.prog (clOf Zr4) Zp0 Go.Proofs.Tryz.f27 ZmT L (toForms ZfG (t,l,points,()))=(ZvU t l points).run (fun v=>some (Zml v,tps (toForms ZfG (t,l,points,())))) fun j=>L (Zfo t l points j).1 (Zfo t l points j).2:=by kernel_rfl
theorem ZFA (t:List (El Za)) (l:List (El Zd)) (points:List Int):∀(L:Lt) (j:Zjz),procOf (procsF Go.Proofs.Tryz.prog (clOf Zr4) Zp0 Go.Proofs.Tryz.f27 ZmT (toForms ZfG (t,l,points,()))) (Zfo t l points j).1 L (Zfo t l points j).2=(Zjp t l points j).run (fun v=>some (Zml v,tps (toForms ZfG (t,l,points,())))) fun j=>L (Zfo t l points j).1 (Zfo t l points j).2 | L,.l4 i out=>by kernel_rfl
end
end Go.Ev
end

section
open Go
namespace Go.Ev
noncomputable def Zjw (t:List (El Za)) (l:List (El Zd)) (points:List Int):List (El Zd):=missL (uB t) points l
def ZcH (t:List (El Za)) (l:List (El Zd)) (points:List Int):Bool:=flowOK t&&(decide (points.length < 4611686018427387904)&&decide (l.length < 1000000000000))
theorem ZIt (t:List (El Za)) (l:List (El Zd)) (points:List Int) (hk:ZcH t l points=true):Goes (Zjp t l points) (ZvU t l points) (Zjw t l points):=by
 unfold ZcH at hk
 rw[Bool.and_eq_true,Bool.and_eq_true,decide_eq_true_eq,decide_eq_true_eq] at hk
 obtain ⟨hf,hp,hN⟩:=hk
 have loop:∀k,k≤l.length→∀out:List (El Zd),out.length≤k→Goes (Zjp t l points) (.jmp (.l4 (k:Int) out)) (out++(l.drop k).filter (uB t points)):=by
  refine down ?_ fun k hk ih=>?_
  ·intro out ho
   rw[Zi,Zjp,Ze,if_neg (by rw[Zx (Nat.lt_irrefl _)];decide),List.drop_length]
   simp only[List.filter_nil,List.append_nil]
   exact .leaf
  ·intro out ho
   have b1:Nat.ble ((out.length+1)*24) limit=true:=Nat.ble_eq_true_of_le (by unfold limit;omega)
   obtain ⟨_,f1,f2,f3⟩:=ZDG hf hp l[k].2.1 l[k].2.2
   have fv:ZgX t points l[k].2.1 l[k].2.2=uB t points l[k]:=by rw[f2,f3];rfl
   rw[Zi,Zjp,ZP hk,List.filter_cons]
   simp only[Ze,ZS hk,nng,Bool.and_self,if_true,Int.toNat_natCast,ZG hk,b1,Zt (k:=k) (by omega)]
   rw[if_pos f1,fv]
   by_cases c:uB t points l[k]=true
   ·rw[if_pos c,if_pos c]
    have:=ih (out++[l[k]]) (by simp;omega)
    rw[List.append_assoc] at this
    exact this
   ·rw[if_neg c,if_neg c]
    exact ih out (by omega)
 have:=loop 0 (Nat.zero_le _) [] (Nat.zero_le _)
 rw[List.nil_append,List.drop_zero] at this
 exact this
end Go.Ev
end

section
open Go Go.Ev
namespace Go.Ev
noncomputable section
noncomputable def Zx3:Run:=entG ZfG Zml (fun a=>ZcH a.1 a.2.1 a.2.2.1) (fun a=>Zjw a.1 a.2.1 a.2.2.1)
theorem ZD7:EntOK Go.Proofs.Tryz.prog 27 Zx3:=ZJ (tb:=Zp0) (c:=ZmT) ZGv (by kernel_rfl) (by kernel_rfl) (by kernel_rfl) (fun a=>by kernel_rfl) fun ⟨t,l,points,_⟩ hk=>Zn (c:=ZmT) (K:=fun v=>(Zml v,tps (toForms ZfG (t,l,points,())))) (S:=Zfo t l points) (by kernel_rfl) (ZFu t l points) (ZFA t l points) (ZIt t l points hk)
end
end Go.Ev
end

section
open Go Go.Ev
namespace Go.Ev
noncomputable section
def Zd3:Sig:=[(true,Zc),(false,(.int .i64)),(false,(.sl (.int .i64)))]
noncomputable def ZoO:Tbl:=[(26,ZAh),(29,Zwb),(28,ZIh),(27,Zx3)]
theorem ZCB:∀p∈ZoO,EntOK Go.Proofs.Tryz.prog p.1 p.2:=Zg ZJw (Zg ZBH (Zg ZMZ (Zg ZD7 (Zv))))
noncomputable def ZkD:Code:=Go.Proofs.Tryz.f10.body.getD .skip
def ZnL:Tb:=[]
def Zwi (p:El Zc) (t:Int) (points:List Int):Empty→JT Empty (Bool):=fun j=>nomatch j
def ZtI (p:El Zc) (t:Int) (points:List Int):JT Empty (Bool):=.br (ZgC p t) (.br (! (ZgL p t)) (.br ((decide ((0:Int)≤t))&&(decide (t < (Int.ofNat (List.length p.2))))) (.br (Zbp p) (.br (Zog (ZH p) t) (.br (ZcH (List.getD p.2 (Int.toNat t) (dflt (.sl Za))) (ZhU (ZH p) t) points) (.leaf ((Int.ofNat (List.length (Zjw (List.getD p.2 (Int.toNat t) (dflt (.sl Za))) (ZhU (ZH p) t) points)))==(0:Int))) (.no)) (.no)) (.no)) (.no)) (.leaf false)) (.no)
def ZbF (p:El Zc) (t:Int) (points:List Int):Bool:=bif (ZgC p t) then bif (! (ZgL p t)) then bif ((decide ((0:Int)≤t))&&(decide (t < (Int.ofNat (List.length p.2))))) then bif (Zbp p) then bif (Zog (ZH p) t) then bif (ZcH (List.getD p.2 (Int.toNat t) (dflt (.sl Za))) (ZhU (ZH p) t) points) then ((Int.ofNat (List.length (Zjw (List.getD p.2 (Int.toNat t) (dflt (.sl Za))) (ZhU (ZH p) t) points)))==(0:Int)) else false else false else false else false else false else false
def ZbB (p:El Zc) (t:Int) (points:List Int):Bool:=bif (ZgC p t) then bif (! (ZgL p t)) then bif ((decide ((0:Int)≤t))&&(decide (t < (Int.ofNat (List.length p.2))))) then bif (Zbp p) then bif (Zog (ZH p) t) then bif (ZcH (List.getD p.2 (Int.toNat t) (dflt (.sl Za))) (ZhU (ZH p) t) points) then true else false else false else false else false else true else false
theorem ZFN (p:El Zc) (t:Int) (points:List Int) (hk:ZbB p t points=true):Goes (Zwi p t points) (ZtI p t points) (ZbF p t points):=Goes.brk hk (fun hk=>Goes.brk hk (fun hk=>Goes.brk hk (fun hk=>Goes.brk hk (fun hk=>Goes.brk hk (fun hk=>Goes.brk hk (fun hk=>Goes.leaf) (fun hk=>Goes.nok hk)) (fun hk=>Goes.nok hk)) (fun hk=>Goes.nok hk)) (fun hk=>Goes.nok hk)) (fun hk=>Goes.leaf)) (fun hk=>Goes.nok hk)
def Zkm:Bool→AV:=fun (r:Bool)=>.d .bool r
def ZdK (p:El Zc) (t:Int) (points:List Int):Empty→Nat×St:=fun j=>nomatch j
theorem ZCF (p:El Zc) (t:Int) (points:List Int) (L:Lt):entryA Go.Proofs.Tryz.prog (clOf ZoO) ZnL Go.Proofs.Tryz.f10 ZkD L (toForms Zd3 (p,t,points,()))=(ZtI p t points).run (fun v=>some (Zkm v,tps (toForms Zd3 (p,t,points,())))) fun j=>L (ZdK p t points j).1 (ZdK p t points j).2:=by kernel_rfl
theorem ZBE (p:El Zc) (t:Int) (points:List Int):∀(L:Lt) (j:Empty),procOf (procsF Go.Proofs.Tryz.prog (clOf ZoO) ZnL Go.Proofs.Tryz.f10 ZkD (toForms Zd3 (p,t,points,()))) (ZdK p t points j).1 L (ZdK p t points j).2=(Zwi p t points j).run (fun v=>some (Zkm v,tps (toForms Zd3 (p,t,points,())))) fun j=>L (ZdK p t points j).1 (ZdK p t points j).2:=fun L j=>nomatch j
noncomputable def Zww:Run:=entG Zd3 Zkm (fun a=>ZbB a.1 a.2.1 a.2.2.1) (fun a=>ZbF a.1 a.2.1 a.2.2.1)
theorem ZBW:EntOK Go.Proofs.Tryz.prog 10 Zww:=ZJ (tb:=ZnL) (c:=ZkD) ZCB (by kernel_rfl) (by kernel_rfl) (by kernel_rfl) (fun a=>by kernel_rfl) fun ⟨p,t,points,_⟩ hk=>Zn (c:=ZkD) (K:=fun v=>(Zkm v,tps (toForms Zd3 (p,t,points,())))) (S:=ZdK p t points) (by kernel_rfl) (ZCF p t points) (ZBE p t points) (ZFN p t points hk)
end
end Go.Ev
end

section
open Go Go.Ev
namespace Go.Ev
noncomputable section
def Zhz:Sig:=[(true,Zc),(false,(.int .i64))]
noncomputable def ZuH:Tbl:=[(22,ZiJ),(31,Zhj),(24,Zs4),(32,Zjx)]
theorem ZHe:∀p∈ZuH,EntOK Go.Proofs.Tryz.prog p.1 p.2:=Zg Zjj (Zg Zih (Zg ZrN (Zg ZkF (Zv))))
noncomputable def Zp8:Code:=Go.Proofs.Tryz.f14.body.getD .skip
def ZrH:Tb:=[(7,⟨[5,15,16,17],[(6,46)]⟩),(hintK,⟨[],[(1,46)]⟩)]
inductive ZlP where | l7 (h:Int) (out:List Int)
def Zle (p:El Zc) (t:Int):ZlP→JT ZlP (List Int) |.l7 h out=>.br (decide (h < (Int.ofNat (List.length (ZT (Zm p) t))))) (.br ((decide ((0:Int)≤h))&&(decide (h < (Int.ofNat (List.length (ZT (Zm p) t)))))) (.br (Nat.ble (((List.length out)+1)*8) limit) (.jmp (.l7 (IntKind.i64.wrap (h+(1:Int))) (out++[(IntKind.i64.wrap ((List.getD (ZT (Zm p) t) (Int.toNat h) (dflt Zd)).2.1+(1:Int)))]))) (.no)) (.no)) (.br (Zb4 out) (.leaf (Ze4 out)) (.no))
def ZrM (p:El Zc) (t:Int):JT ZlP (List Int):=.br (ZaR p t) (.br (! (ZaU p t)) (.leaf []) (.br (ZaF p) (.br (Zb2 (Zm p) t) (.jmp (.l7 (0:Int) [])) (.no)) (.no))) (.no)
def ZpZ:List Int→AV:=fun (r:List Int)=>.rw 3 (.int .i64) r
def Zg1 (p:El Zc) (t:Int):ZlP→Nat×St |.l7 h out=>(7,⟨mkTm 30 [(5,.own 6 0 none),(15,.own 16 0 none),(16,.d (.int .i64) (Int.ofNat (List.length (ZT (Zm p) t)))),(17,.d (.int .i64) h)],[(6,0,.row 3 (.int .i64) out false),(16,0,.row 67 Zd (ZT (Zm p) t) false)]⟩)
theorem ZGH (p:El Zc) (t:Int) (L:Lt):entryA Go.Proofs.Tryz.prog (clOf ZuH) ZrH Go.Proofs.Tryz.f14 Zp8 L (toForms Zhz (p,t,()))=(ZrM p t).run (fun v=>some (ZpZ v,tps (toForms Zhz (p,t,())))) fun j=>L (Zg1 p t j).1 (Zg1 p t j).2:=by kernel_rfl
theorem ZH5 (p:El Zc) (t:Int):∀(L:Lt) (j:ZlP),procOf (procsF Go.Proofs.Tryz.prog (clOf ZuH) ZrH Go.Proofs.Tryz.f14 Zp8 (toForms Zhz (p,t,()))) (Zg1 p t j).1 L (Zg1 p t j).2=(Zle p t j).run (fun v=>some (ZpZ v,tps (toForms Zhz (p,t,())))) fun j=>L (Zg1 p t j).1 (Zg1 p t j).2 | L,.l7 h out=>by kernel_rfl
end
end Go.Ev
end

section
open Go
namespace Go.Ev
noncomputable def allT (p:El Zc) (t:Int):List PairD:=(Zk p).filter (ofB t)
noncomputable def opT (p:El Zc) (t:Int):List PairD:=(Zm p).filter (ofB t)
structure PairIn (p:El Zc) (x:PairD):Prop where
 th0:0≤(show Int from x.1)
 th1:(show Int from x.1) < (p.2.length:Int)
 flow:flowOK (thrT p x.1)=true
 st0:0≤(show Int from x.2.1)
 st1:(show Int from x.2.1) < ((thrT p x.1).length:Int)
 ld0:0≤(show Int from x.2.2)
 ld1:(show Int from x.2.2) < ((thrT p x.1).length:Int)
structure CutF (p:El Zc):Prop where
 small:smallAll p=true
 kp:Z3 p=true
 ko:ZaF p=true
 eq:ZH p=Zk p
 opq:Zpn p=Zm p
 kd:Zbp p=true
 kro:ZpQ p=true
 lp:(Zk p).length≤400000000
 lo:(Zm p).length≤400000000
 pin:∀x∈Zk p,PairIn p x
 osub:∀x∈Zm p,x∈Zk p∧openB p x=true
 oin:∀x∈Zk p,openB p x=true→x∈Zm p
 right:∀t,ZaR p t=true∧ZaU p t=rightT p t
 flow:∀t,rightT p t=true→flowOK (thrT p t)=true∧(decide ((0:Int)≤t)&&decide (t < Int.ofNat p.2.length))=true∧checkC p=0
 thr:p.2.length≤100
theorem ZNb {p:El Zc} (h:smallProg p=true) (t:Int):ZaR p t=true∧ZaU p t=rightT p t:=by
 have hk:Za9 p=true:=h
 have hv:ZbH p=checkC p:=rfl
 unfold ZaR ZaU rightT
 rw[hk,hv]
 by_cases h0:(0:Int)≤t
 ·rw[decide_eq_true (show t≥0 from h0)]
  by_cases h1:t < (p.2.length:Int)
  ·rw[decide_eq_true (show t < Int.ofNat p.2.length from h1),decide_eq_true h1]
   refine ⟨rfl,?_⟩
   show (checkC p==0)=(true&&(true&&decide (checkC p=0)))
   rw[Bool.true_and,Bool.true_and,Bool.eq_iff_iff,beq_iff_eq,decide_eq_true_eq]
  ·rw[decide_eq_false (show ¬t < Int.ofNat p.2.length from h1),decide_eq_false h1]
   exact ⟨rfl,rfl⟩
 ·rw[decide_eq_false (show ¬t≥0 from h0)]
  exact ⟨rfl,rfl⟩
theorem Zq7 {p:El Zc} (h:cutOK p=true):CutF p:=by
 unfold cutOK at h
 rw[Bool.and_eq_true,Bool.and_eq_true,decide_eq_true_eq,decide_eq_true_eq] at h
 obtain ⟨hs,hN,hT⟩:=h
 obtain ⟨a1,a2,a3,_,a5,a6,a7,_⟩:=ZMV hs hN hT
 have hA:=smallA hs
 have hl:=ZLT p
 have hNN:(ofC p).length*(ofC p).length≤20000*20000:=Nat.mul_le_mul hN hN
 have hlp:(Zk p).length≤400000000:=by rw[←a3];omega
 have hlo:(Zm p).length≤(Zk p).length:=by unfold Zm;exact List.length_filter_le _ _
 refine ⟨hs,a1,a5,a3,a7,a2,a6,hlp,by omega,fun x hx=>?_,fun x hx=>?_,fun x hx ho=>?_,fun t=>ZNb hA.prog t,fun t ht=>?_,hT⟩
 ·rw[←a3] at hx
  obtain ⟨s,r,s1,r1,_,hd,rfl⟩:=Zzd hx
  obtain ⟨t0,t1,f1,i0,i1⟩:=Zgl hs s1
  obtain ⟨_,_,f2,j0,j1⟩:=Zgl hs r1
  unfold delB at hd
  simp only[Bool.and_eq_true,beq_iff_eq] at hd
  have hth:=hd.1.1
  have e:thrOf p (ofC p) r=thrOf p (ofC p) s:=by unfold thrOf;rw[hth]
  rw[e] at j1
  exact ⟨t0,t1,f1,i0,i1,j0,j1⟩
 ·unfold Zm at hx
  exact List.mem_filter.1 hx
 ·unfold Zm
  exact List.mem_filter.2 ⟨hx,ho⟩
 ·unfold rightT at ht
  rw[Bool.and_eq_true,Bool.and_eq_true,decide_eq_true_eq,decide_eq_true_eq,decide_eq_true_eq] at ht
  obtain ⟨h0,h1,h2⟩:=ht
  refine ⟨?_,?_,h2⟩
  ·obtain ⟨n,rfl⟩:=Int.eq_ofNat_of_zero_le h0
   have hn:n < p.2.length:=by omega
   unfold thrT
   rw[Int.toNat_natCast,ZG hn]
   exact Zoh (hA.thr _ (List.getElem_mem hn))
  ·rw[decide_eq_true h0,decide_eq_true (show t < Int.ofNat p.2.length from h1)];rfl
theorem ZLX {p:El Zc} (hF:CutF p) {t:Int} {x:PairD} (hx:x∈opT p t):PairIn p x∧(show Int from x.1)=t:=by
 obtain ⟨h1,h2⟩:=List.mem_filter.1 hx
 exact ⟨hF.pin x (hF.osub x h1).1,by unfold ofB at h2;simpa using h2⟩
theorem ZzJ {p:El Zc} {x:PairD} (h:PairIn p x):0≤(show Int from x.2.1)∧(show Int from x.2.1) < 1099511627776:=by
 have h1:=h.st1
 have h2:=ZbR h.flow
 refine ⟨h.st0,?_⟩
 generalize (show Int from x.2.1)=y at*
 omega
theorem ZE2 {p:El Zc} (hF:CutF p) (t:Int):(opT p t).length≤400000000:=Nat.le_trans (List.length_filter_le _ _) hF.lo
theorem ZL2 {p:El Zc} (hF:CutF p) (t:Int):(allT p t).length≤400000000:=Nat.le_trans (List.length_filter_le _ _) hF.lp
end Go.Ev
end

section
open Go
namespace Go.Ev
noncomputable def ZaV (p:El Zc) (t:Int):List Int:=if rightT p t=true then putsL [] ((opT p t).map fun x=>(show Int from x.2.1)+1) else []
def ZeL (p:El Zc) (t:Int):Bool:=cutOK p
theorem ZLr (p:El Zc) (t:Int) (hk:ZeL p t=true):Goes (Zle p t) (ZrM p t) (ZaV p t):=by
 have hF:=Zq7 hk
 obtain ⟨r1,r2⟩:=hF.right t
 unfold ZrM ZaV
 rw[Ze,if_pos r1,r2,Ze]
 by_cases hr:¬rightT p t=true
 ·rw[if_pos (by simpa using hr),if_neg hr]
  exact .leaf
 have hr:=Decidable.not_not.1 hr
 rw[if_neg (by rw[hr];decide),if_pos hr,Ze,if_pos hF.ko,Ze,if_pos (show Zb2 (Zm p) t=true from decide_eq_true (by have:=hF.lo;omega))]
 have hv:ZT (Zm p) t=opT p t:=rfl
 have hN:=ZE2 hF t
 have hs:∀x∈opT p t,0≤(show Int from x.2.1)∧(show Int from x.2.1) < 1099511627776:=fun x hx=>ZzJ (ZLX hF hx).1
 obtain ⟨O,hO⟩:∃O,opT p t=O:=⟨_,rfl⟩
 rw[hO] at hN hs hv ⊢
 have loop:∀k,k≤O.length→Goes (Zle p t) (.jmp (.l7 (k:Int) ((O.take k).map fun x=>(show Int from x.2.1)+1))) (putsL [] (O.map fun x=>(show Int from x.2.1)+1)):=by
  refine down ?_ fun k hk ih=>?_
  ·rw[Zi,Zle,hv,Ze,if_neg (by rw[Zx (Nat.lt_irrefl _)];decide),List.take_length,Ze,if_pos (show Zb4 _=true from decide_eq_true (by rw[List.length_map];omega))]
   exact .leaf
  ·have b1:Nat.ble ((((O.take k).map fun x=>(show Int from x.2.1)+1).length+1)*8) limit=true:=Nat.ble_eq_true_of_le (by rw[List.length_map,List.length_take];unfold limit;omega)
   obtain ⟨s0,s1⟩:=hs _ (List.getElem_mem hk)
   have hw:IntKind.i64.wrap (O[k].2.1+(1:Int))=(show Int from O[k].2.1)+1:=by
    show IntKind.i64.wrap ((show Int from O[k].2.1)+(1:Int))=_
    generalize (show Int from O[k].2.1)=y at*
    exact wrap_i64 (by omega) (by omega)
   rw[List.take_succ_eq_append_getElem hk,List.map_append] at ih
   rw[Zi,Zle,hv,Ze,if_pos (ZS hk),Ze,if_pos (by rw[nng,ZS hk];rfl),Ze,if_pos b1,Int.toNat_natCast,ZG hk,Zt (by omega),hw]
   exact ih
 exact loop 0 (Nat.zero_le _)
end Go.Ev
end

section
open Go Go.Ev
namespace Go.Ev
noncomputable section
noncomputable def Zu5:Run:=entG Zhz ZpZ (fun a=>ZeL a.1 a.2.1) (fun a=>ZaV a.1 a.2.1)
theorem ZxD:EntOK Go.Proofs.Tryz.prog 14 Zu5:=ZJ (tb:=ZrH) (c:=Zp8) ZHe (by kernel_rfl) (by kernel_rfl) (by kernel_rfl) (fun a=>by kernel_rfl) fun ⟨p,t,_⟩ hk=>Zn (c:=Zp8) (K:=fun v=>(ZpZ v,tps (toForms Zhz (p,t,())))) (S:=Zg1 p t) (by kernel_rfl) (ZGH p t) (ZH5 p t) (ZLr p t hk)
end
end Go.Ev
end

section
open Go Go.Ev
namespace Go.Ev
noncomputable section
def Zhr:Sig:=[(true,Zc),(false,(.int .i64))]
noncomputable def ZuV:Tbl:=[(22,ZiJ),(31,Zhj),(24,Zs4),(32,Zjx)]
theorem ZIV:∀p∈ZuV,EntOK Go.Proofs.Tryz.prog p.1 p.2:=Zg Zjj (Zg Zih (Zg ZrN (Zg ZkF (Zv))))
noncomputable def Zo2:Code:=Go.Proofs.Tryz.f15.body.getD .skip
def ZsX:Tb:=[(7,⟨[5,15,16,17],[(6,46)]⟩),(hintK,⟨[],[(1,46)]⟩)]
inductive Zlg where | l7 (h:Int) (out:List Int)
def ZkU (p:El Zc) (t:Int):Zlg→JT Zlg (List Int) |.l7 h out=>.br (decide (h < (Int.ofNat (List.length (ZT (Zm p) t))))) (.br ((decide ((0:Int)≤h))&&(decide (h < (Int.ofNat (List.length (ZT (Zm p) t)))))) (.br (Nat.ble (((List.length out)+1)*8) limit) (.jmp (.l7 (IntKind.i64.wrap (h+(1:Int))) (out++[(List.getD (ZT (Zm p) t) (Int.toNat h) (dflt Zd)).2.2]))) (.no)) (.no)) (.br (Zb4 out) (.leaf (Ze4 out)) (.no))
def Zrt (p:El Zc) (t:Int):JT Zlg (List Int):=.br (ZaR p t) (.br (! (ZaU p t)) (.leaf []) (.br (ZaF p) (.br (Zb2 (Zm p) t) (.jmp (.l7 (0:Int) [])) (.no)) (.no))) (.no)
def Zpl:List Int→AV:=fun (r:List Int)=>.rw 3 (.int .i64) r
def ZgW (p:El Zc) (t:Int):Zlg→Nat×St |.l7 h out=>(7,⟨mkTm 29 [(5,.own 6 0 none),(15,.own 16 0 none),(16,.d (.int .i64) (Int.ofNat (List.length (ZT (Zm p) t)))),(17,.d (.int .i64) h)],[(6,0,.row 3 (.int .i64) out false),(16,0,.row 67 Zd (ZT (Zm p) t) false)]⟩)
theorem ZH0 (p:El Zc) (t:Int) (L:Lt):entryA Go.Proofs.Tryz.prog (clOf ZuV) ZsX Go.Proofs.Tryz.f15 Zo2 L (toForms Zhr (p,t,()))=(Zrt p t).run (fun v=>some (Zpl v,tps (toForms Zhr (p,t,())))) fun j=>L (ZgW p t j).1 (ZgW p t j).2:=by kernel_rfl
theorem ZJn (p:El Zc) (t:Int):∀(L:Lt) (j:Zlg),procOf (procsF Go.Proofs.Tryz.prog (clOf ZuV) ZsX Go.Proofs.Tryz.f15 Zo2 (toForms Zhr (p,t,()))) (ZgW p t j).1 L (ZgW p t j).2=(ZkU p t j).run (fun v=>some (Zpl v,tps (toForms Zhr (p,t,())))) fun j=>L (ZgW p t j).1 (ZgW p t j).2 | L,.l7 h out=>by kernel_rfl
end
end Go.Ev
end

section
open Go
namespace Go.Ev
noncomputable def Zey (p:El Zc) (t:Int):List Int:=if rightT p t=true then putsL [] ((opT p t).map fun x=>x.2.2) else []
def Zqq (p:El Zc) (t:Int):Bool:=cutOK p
theorem ZJ1 (p:El Zc) (t:Int) (hk:Zqq p t=true):Goes (ZkU p t) (Zrt p t) (Zey p t):=by
 have hF:=Zq7 hk
 obtain ⟨r1,r2⟩:=hF.right t
 unfold Zrt Zey
 rw[Ze,if_pos r1,r2,Ze]
 by_cases hr:¬rightT p t=true
 ·rw[if_pos (by simpa using hr),if_neg hr]
  exact .leaf
 have hr:=Decidable.not_not.1 hr
 rw[if_neg (by rw[hr];decide),if_pos hr,Ze,if_pos hF.ko,Ze,if_pos (show Zb2 (Zm p) t=true from decide_eq_true (by have:=hF.lo;omega))]
 have hv:ZT (Zm p) t=opT p t:=rfl
 have hN:=ZE2 hF t
 obtain ⟨O,hO⟩:∃O,opT p t=O:=⟨_,rfl⟩
 rw[hO] at hN hv ⊢
 have loop:∀k,k≤O.length→Goes (ZkU p t) (.jmp (.l7 (k:Int) ((O.take k).map fun x=>x.2.2))) (putsL [] (O.map fun x=>x.2.2)):=by
  refine down ?_ fun k hk ih=>?_
  ·rw[Zi,ZkU,hv,Ze,if_neg (by rw[Zx (Nat.lt_irrefl _)];decide),List.take_length,Ze,if_pos (show Zb4 _=true from decide_eq_true (by rw[List.length_map];omega))]
   exact .leaf
  ·have b1:Nat.ble ((((O.take k).map fun x=>x.2.2).length+1)*8) limit=true:=Nat.ble_eq_true_of_le (by rw[List.length_map,List.length_take];unfold limit;omega)
   rw[List.take_succ_eq_append_getElem hk,List.map_append] at ih
   rw[Zi,ZkU,hv,Ze,if_pos (ZS hk),Ze,if_pos (by rw[nng,ZS hk];rfl),Ze,if_pos b1,Int.toNat_natCast,ZG hk,Zt (by omega)]
   exact ih
 exact loop 0 (Nat.zero_le _)
end Go.Ev
end

section
open Go Go.Ev
namespace Go.Ev
noncomputable section
noncomputable def ZBh:Run:=entG Zhr Zpl (fun a=>Zqq a.1 a.2.1) (fun a=>Zey a.1 a.2.1)
theorem ZIA:EntOK Go.Proofs.Tryz.prog 15 ZBh:=ZJ (tb:=ZsX) (c:=Zo2) ZIV (by kernel_rfl) (by kernel_rfl) (by kernel_rfl) (fun a=>by kernel_rfl) fun ⟨p,t,_⟩ hk=>Zn (c:=Zo2) (K:=fun v=>(Zpl v,tps (toForms Zhr (p,t,())))) (S:=ZgW p t) (by kernel_rfl) (ZH0 p t) (ZJn p t) (ZJ1 p t hk)
end
end Go.Ev
end

section
open Go Go.Ev
namespace Go.Ev
noncomputable section
def ZfN:Sig:=[(true,Zc),(false,(.int .i64))]
noncomputable def Zr7:Tbl:=[(22,ZiJ),(31,Zhj),(24,Zs4),(33,Zq6)]
theorem ZFp:∀p∈Zr7,EntOK Go.Proofs.Tryz.prog p.1 p.2:=Zg Zjj (Zg Zih (Zg ZrN (Zg ZwM (Zv))))
noncomputable def ZmD:Code:=Go.Proofs.Tryz.f16.body.getD .skip
def Zo8:Tb:=[(hintK,⟨[],[(1,46)]⟩)]
def Zyg (p:El Zc) (t:Int):Empty→JT Empty (List Int):=fun j=>nomatch j
def Zvv (p:El Zc) (t:Int):JT Empty (List Int):=.br (ZaR p t) (.br (! (ZaU p t)) (.leaf []) (.br ((decide ((0:Int)≤t))&&(decide (t < (Int.ofNat (List.length p.2))))) (.br (ZaF p) (.br (Zb2 (Zm p) t) (.br (Zbs (List.getD p.2 (Int.toNat t) (dflt (.sl Za))) (ZT (Zm p) t)) (.leaf (Zb3 (List.getD p.2 (Int.toNat t) (dflt (.sl Za))) (ZT (Zm p) t))) (.no)) (.no)) (.no)) (.no))) (.no)
def ZeX (p:El Zc) (t:Int):List Int:=bif (ZaR p t) then bif (! (ZaU p t)) then [] else bif ((decide ((0:Int)≤t))&&(decide (t < (Int.ofNat (List.length p.2))))) then bif (ZaF p) then bif (Zb2 (Zm p) t) then bif (Zbs (List.getD p.2 (Int.toNat t) (dflt (.sl Za))) (ZT (Zm p) t)) then (Zb3 (List.getD p.2 (Int.toNat t) (dflt (.sl Za))) (ZT (Zm p) t)) else [] else [] else [] else [] else []
def ZjA (p:El Zc) (t:Int):Bool:=bif (ZaR p t) then bif (! (ZaU p t)) then true else bif ((decide ((0:Int)≤t))&&(decide (t < (Int.ofNat (List.length p.2))))) then bif (ZaF p) then bif (Zb2 (Zm p) t) then bif (Zbs (List.getD p.2 (Int.toNat t) (dflt (.sl Za))) (ZT (Zm p) t)) then true else false else false else false else false else false
theorem ZHD (p:El Zc) (t:Int) (hk:ZjA p t=true):Goes (Zyg p t) (Zvv p t) (ZeX p t):=Goes.brk hk (fun hk=>Goes.brk hk (fun hk=>Goes.leaf) (fun hk=>Goes.brk hk (fun hk=>Goes.brk hk (fun hk=>Goes.brk hk (fun hk=>Goes.brk hk (fun hk=>Goes.leaf) (fun hk=>Goes.nok hk)) (fun hk=>Goes.nok hk)) (fun hk=>Goes.nok hk)) (fun hk=>Goes.nok hk))) (fun hk=>Goes.nok hk)
def Zm7:List Int→AV:=fun (r:List Int)=>.rw 3 (.int .i64) r
def ZeP (p:El Zc) (t:Int):Empty→Nat×St:=fun j=>nomatch j
theorem ZET (p:El Zc) (t:Int) (L:Lt):entryA Go.Proofs.Tryz.prog (clOf Zr7) Zo8 Go.Proofs.Tryz.f16 ZmD L (toForms ZfN (p,t,()))=(Zvv p t).run (fun v=>some (Zm7 v,tps (toForms ZfN (p,t,())))) fun j=>L (ZeP p t j).1 (ZeP p t j).2:=by kernel_rfl
theorem ZFL (p:El Zc) (t:Int):∀(L:Lt) (j:Empty),procOf (procsF Go.Proofs.Tryz.prog (clOf Zr7) Zo8 Go.Proofs.Tryz.f16 ZmD (toForms ZfN (p,t,()))) (ZeP p t j).1 L (ZeP p t j).2=(Zyg p t j).run (fun v=>some (Zm7 v,tps (toForms ZfN (p,t,())))) fun j=>L (ZeP p t j).1 (ZeP p t j).2:=fun L j=>nomatch j
noncomputable def Zyn:Run:=entG ZfN Zm7 (fun a=>ZjA a.1 a.2.1) (fun a=>ZeX a.1 a.2.1)
theorem ZFl:EntOK Go.Proofs.Tryz.prog 16 Zyn:=ZJ (tb:=Zo8) (c:=ZmD) ZFp (by kernel_rfl) (by kernel_rfl) (by kernel_rfl) (fun a=>by kernel_rfl) fun ⟨p,t,_⟩ hk=>Zn (c:=ZmD) (K:=fun v=>(Zm7 v,tps (toForms ZfN (p,t,())))) (S:=ZeP p t) (by kernel_rfl) (ZET p t) (ZFL p t) (ZHD p t hk)
end
end Go.Ev
end

section
open Go Go.Ev
namespace Go.Ev
noncomputable section
def ZfT:Sig:=[]
noncomputable def ZrC:Tbl:=[]
theorem ZEj:∀p∈ZrC,EntOK Go.Proofs.Tryz.prog p.1 p.2:=Zv
noncomputable def ZmY:Code:=Go.Proofs.Tryz.f19.body.getD .skip
def Zox:Tb:=[]
def Zx2:Empty→JT Empty (El Zc):=fun j=>nomatch j
def Zwj:JT Empty (El Zc):=.leaf ([((bs [120]),((1:Int),[])),((bs [121]),((1:Int),[]))],[[((1:Int),(false,((0:Int),(((3:Int),((0:Int),((0:Int),(0:Int)))),(((2:Int),((0:Int),((0:Int),(1:Int)))),((bs []),[])))))),((1:Int),(false,((0:Int),(((1:Int),((0:Int),((0:Int),(0:Int)))),(((3:Int),((0:Int),((1:Int),(0:Int)))),((bs []),[])))))),((14:Int),(false,((0:Int),(((0:Int),((0:Int),((0:Int),(0:Int)))),(((0:Int),((0:Int),((0:Int),(0:Int)))),((bs []),[]))))))],[((1:Int),(false,((0:Int),(((3:Int),((0:Int),((1:Int),(0:Int)))),(((2:Int),((0:Int),((0:Int),(1:Int)))),((bs []),[])))))),((1:Int),(false,((0:Int),(((1:Int),((0:Int),((0:Int),(0:Int)))),(((3:Int),((0:Int),((0:Int),(0:Int)))),((bs []),[])))))),((14:Int),(false,((0:Int),(((0:Int),((0:Int),((0:Int),(0:Int)))),(((0:Int),((0:Int),((0:Int),(0:Int)))),((bs []),[]))))))]])
def Zl:El Zc:=([((bs [120]),((1:Int),[])),((bs [121]),((1:Int),[]))],[[((1:Int),(false,((0:Int),(((3:Int),((0:Int),((0:Int),(0:Int)))),(((2:Int),((0:Int),((0:Int),(1:Int)))),((bs []),[])))))),((1:Int),(false,((0:Int),(((1:Int),((0:Int),((0:Int),(0:Int)))),(((3:Int),((0:Int),((1:Int),(0:Int)))),((bs []),[])))))),((14:Int),(false,((0:Int),(((0:Int),((0:Int),((0:Int),(0:Int)))),(((0:Int),((0:Int),((0:Int),(0:Int)))),((bs []),[]))))))],[((1:Int),(false,((0:Int),(((3:Int),((0:Int),((1:Int),(0:Int)))),(((2:Int),((0:Int),((0:Int),(1:Int)))),((bs []),[])))))),((1:Int),(false,((0:Int),(((1:Int),((0:Int),((0:Int),(0:Int)))),(((3:Int),((0:Int),((0:Int),(0:Int)))),((bs []),[])))))),((14:Int),(false,((0:Int),(((0:Int),((0:Int),((0:Int),(0:Int)))),(((0:Int),((0:Int),((0:Int),(0:Int)))),((bs []),[]))))))]])
theorem ZIo:Goes (Zx2) (Zwj) (Zl):=Goes.leaf
def ZmU:El Zc→AV:=fun (r:El Zc)=>.ag [.rw 45 Zz r.1,.rw 34 (.sl Za) r.2]
def Zfd:Empty→Nat×St:=fun j=>nomatch j
theorem ZDP (L:Lt):entryA Go.Proofs.Tryz.prog (clOf ZrC) Zox Go.Proofs.Tryz.f19 ZmY L (toForms ZfT (()))=(Zwj).run (fun v=>some (ZmU v,tps (toForms ZfT (())))) fun j=>L (Zfd j).1 (Zfd j).2:=by kernel_rfl
theorem ZFy:∀(L:Lt) (j:Empty),procOf (procsF Go.Proofs.Tryz.prog (clOf ZrC) Zox Go.Proofs.Tryz.f19 ZmY (toForms ZfT (()))) (Zfd j).1 L (Zfd j).2=(Zx2 j).run (fun v=>some (ZmU v,tps (toForms ZfT (())))) fun j=>L (Zfd j).1 (Zfd j).2:=fun L j=>nomatch j
noncomputable def Zx8:Run:=entT ZfT ZmU (fun a=>Zl)
theorem ZFT:EntOK Go.Proofs.Tryz.prog 19 Zx8:=Zat (tb:=Zox) (c:=ZmY) ZEj (by kernel_rfl) (by kernel_rfl) (by kernel_rfl) (fun a=>by kernel_rfl) fun _=>Zn (c:=ZmY) (K:=fun v=>(ZmU v,tps (toForms ZfT (())))) (S:=Zfd) (by kernel_rfl) (ZDP) (ZFy) (ZIo)
end
end Go.Ev
end

section
open Go Go.Ev
namespace Go.Ev
noncomputable section
noncomputable def Zq3:Run:=entG ZcA Zh3 (fun a=>ZaO a.1 a.2.1) (fun a=>ZaC a.1 a.2.1)
theorem ZyO:EntOK Go.Proofs.Tryz.prog 11 Zq3:=ZJ (tb:=ZjH) (c:=Zie) ZyM (by kernel_rfl) (by kernel_rfl) (by kernel_rfl) (fun a=>by kernel_rfl) fun ⟨a,b,_⟩ hk=>Zn (c:=Zie) (K:=fun v=>(Zh3 v,tps (toForms ZcA (a,b,())))) (S:=Zcj a b) (by kernel_rfl) (ZyX a b) (ZyZ a b) (ZBb a b hk)
end
end Go.Ev
end

section
open Go Go.Ev
namespace Go.Ev
noncomputable section
def ZfJ:Sig:=[(true,Zc),(false,(.int .i64)),(false,(.sl (.int .i64)))]
noncomputable def ZsP:Tbl:=[(22,ZiJ),(25,ZhY),(24,Zs4),(37,Zku)]
theorem ZEK:∀p∈ZsP,EntOK Go.Proofs.Tryz.prog p.1 p.2:=Zg Zjj (Zg Zi5 (Zg ZrN (Zg Zny (Zv))))
noncomputable def ZmK:Code:=Go.Proofs.Tryz.f20.body.getD .skip
def Zo0:Tb:=[]
def ZxW (p:El Zc) (t:Int) (points:List Int):Empty→JT Empty (Bool):=fun j=>nomatch j
def ZvM (p:El Zc) (t:Int) (points:List Int):JT Empty (Bool):=.br (ZaR p t) (.br (ZaU p t) (.br ((decide ((0:Int)≤t))&&(decide (t < (Int.ofNat (List.length p.2))))) (.br (Z3 p) (.br (Zb2 (Zk p) t) (.br (ZaB (List.getD p.2 (Int.toNat t) (dflt (.sl Za))) (ZT (Zk p) t) points) (.leaf ((Int.ofNat (List.length (ZbC (List.getD p.2 (Int.toNat t) (dflt (.sl Za))) (ZT (Zk p) t) points)))==(0:Int))) (.no)) (.no)) (.no)) (.no)) (.leaf false)) (.no)
def ZaY (p:El Zc) (t:Int) (points:List Int):Bool:=bif (ZaR p t) then bif (ZaU p t) then bif ((decide ((0:Int)≤t))&&(decide (t < (Int.ofNat (List.length p.2))))) then bif (Z3 p) then bif (Zb2 (Zk p) t) then bif (ZaB (List.getD p.2 (Int.toNat t) (dflt (.sl Za))) (ZT (Zk p) t) points) then ((Int.ofNat (List.length (ZbC (List.getD p.2 (Int.toNat t) (dflt (.sl Za))) (ZT (Zk p) t) points)))==(0:Int)) else false else false else false else false else false else false
def Zbc (p:El Zc) (t:Int) (points:List Int):Bool:=bif (ZaR p t) then bif (ZaU p t) then bif ((decide ((0:Int)≤t))&&(decide (t < (Int.ofNat (List.length p.2))))) then bif (Z3 p) then bif (Zb2 (Zk p) t) then bif (ZaB (List.getD p.2 (Int.toNat t) (dflt (.sl Za))) (ZT (Zk p) t) points) then true else false else false else false else false else true else false
theorem ZG9 (p:El Zc) (t:Int) (points:List Int) (hk:Zbc p t points=true):Goes (ZxW p t points) (ZvM p t points) (ZaY p t points):=Goes.brk hk (fun hk=>Goes.brk hk (fun hk=>Goes.brk hk (fun hk=>Goes.brk hk (fun hk=>Goes.brk hk (fun hk=>Goes.brk hk (fun hk=>Goes.leaf) (fun hk=>Goes.nok hk)) (fun hk=>Goes.nok hk)) (fun hk=>Goes.nok hk)) (fun hk=>Goes.nok hk)) (fun hk=>Goes.leaf)) (fun hk=>Goes.nok hk)
def ZmH:Bool→AV:=fun (r:Bool)=>.d .bool r
def ZeW (p:El Zc) (t:Int) (points:List Int):Empty→Nat×St:=fun j=>nomatch j
theorem ZF3 (p:El Zc) (t:Int) (points:List Int) (L:Lt):entryA Go.Proofs.Tryz.prog (clOf ZsP) Zo0 Go.Proofs.Tryz.f20 ZmK L (toForms ZfJ (p,t,points,()))=(ZvM p t points).run (fun v=>some (ZmH v,tps (toForms ZfJ (p,t,points,())))) fun j=>L (ZeW p t points j).1 (ZeW p t points j).2:=by kernel_rfl
theorem ZFf (p:El Zc) (t:Int) (points:List Int):∀(L:Lt) (j:Empty),procOf (procsF Go.Proofs.Tryz.prog (clOf ZsP) Zo0 Go.Proofs.Tryz.f20 ZmK (toForms ZfJ (p,t,points,()))) (ZeW p t points j).1 L (ZeW p t points j).2=(ZxW p t points j).run (fun v=>some (ZmH v,tps (toForms ZfJ (p,t,points,())))) fun j=>L (ZeW p t points j).1 (ZeW p t points j).2:=fun L j=>nomatch j
noncomputable def Zyd:Run:=entG ZfJ ZmH (fun a=>Zbc a.1 a.2.1 a.2.2.1) (fun a=>ZaY a.1 a.2.1 a.2.2.1)
theorem ZEQ:EntOK Go.Proofs.Tryz.prog 20 Zyd:=ZJ (tb:=Zo0) (c:=ZmK) ZEK (by kernel_rfl) (by kernel_rfl) (by kernel_rfl) (fun a=>by kernel_rfl) fun ⟨p,t,points,_⟩ hk=>Zn (c:=ZmK) (K:=fun v=>(ZmH v,tps (toForms ZfJ (p,t,points,())))) (S:=ZeW p t points) (by kernel_rfl) (ZF3 p t points) (ZFf p t points) (ZG9 p t points hk)
end
end Go.Ev
end

section
open Go Go.Ev
namespace Go.Ev
noncomputable section
def ZkP:Sig:=[(true,Zc)]
noncomputable def ZAZ:Tbl:=[(38,Zki),(25,ZhY),(31,Zhj),(30,Zsl)]
theorem ZM0:∀p∈ZAZ,EntOK Go.Proofs.Tryz.prog p.1 p.2:=Zg Znw (Zg Zi5 (Zg Zih (Zg Zwd (Zv))))
noncomputable def ZvQ:Code:=Go.Proofs.Tryz.f21.body.getD .skip
def Zxp:Tb:=[(8,⟨[1,3,4,5,20,21],[]⟩),(hintK,⟨[],[(1,114)]⟩)]
inductive Zq2 where | l8 (h:Int) (out:List (List Int))
def Zse (p:El Zc):Zq2→JT Zq2 (List (List Int)) |.l8 h out=>.br (decide (h < (Int.ofNat (List.length p.2)))) (.br (ZcB p h (Zk p) (Zm p)) (.br ((decide ((0:Int)≤h))&&(decide (h < (Int.ofNat (List.length out))))) (.jmp (.l8 (IntKind.i64.wrap (h+(1:Int))) (List.set out (Int.toNat h) (ZbL p h (Zk p) (Zm p))))) (.no)) (.no)) (.leaf out)
def Zxu (p:El Zc):JT Zq2 (List (List Int)):=.br (Za9 p) (.br ((ZbH p) !=(0:Int)) (.leaf []) (.br (Z3 p) (.br (ZaF p) (.br ((((Int.ofNat (List.length p.2))==(Int.ofNat (List.length p.2)))&&(decide ((0:Int)≤(Int.ofNat (List.length p.2)))))&&(decide (((Int.ofNat (List.length p.2))*(24:Int))≤(limit:Int)))) (.jmp (.l8 (0:Int) (List.replicate (List.length p.2) []))) (.no)) (.no)) (.no))) (.no)
def ZvH:List (List Int)→AV:=fun (r:List (List Int))=>.rw 23 (.sl (.int .i64)) r
def Zln (p:El Zc):Zq2→Nat×St |.l8 h out=>(8,⟨mkTm 34 [(1,.pt 2 0 0),(3,.own 4 0 none),(4,.own 5 0 none),(5,.own 6 0 none),(20,.d (.int .i64) (Int.ofNat (List.length p.2))),(21,.d (.int .i64) h)],[(2,0,.box 27 [.d (.sl Zz) p.1,.d (.sl (.sl Za)) p.2] none),(4,0,.row 67 Zd (Zk p) false),(5,0,.row 67 Zd (Zm p) false),(6,0,.row 23 (.sl (.int .i64)) out false)]⟩)
theorem ZM1 (p:El Zc) (L:Lt):entryA Go.Proofs.Tryz.prog (clOf ZAZ) Zxp Go.Proofs.Tryz.f21 ZvQ L (toForms ZkP (p,()))=(Zxu p).run (fun v=>some (ZvH v,tps (toForms ZkP (p,())))) fun j=>L (Zln p j).1 (Zln p j).2:=by kernel_rfl
theorem ZMW (p:El Zc):∀(L:Lt) (j:Zq2),procOf (procsF Go.Proofs.Tryz.prog (clOf ZAZ) Zxp Go.Proofs.Tryz.f21 ZvQ (toForms ZkP (p,()))) (Zln p j).1 L (Zln p j).2=(Zse p j).run (fun v=>some (ZvH v,tps (toForms ZkP (p,())))) fun j=>L (Zln p j).1 (Zln p j).2 | L,.l8 h out=>by kernel_rfl
end
end Go.Ev
end

section
open Go
namespace Go.Ev
noncomputable def Zjk (p:El Zc):List (List Int):=if checkC p=0 then (List.range p.2.length).map fun t:Nat=>ZbL p (t:Int) (Zk p) (Zm p) else []
def Zoj (p:El Zc):Bool:=cutOK p
theorem ZyC {p:El Zc} (hF:CutF p) {t:Int} (hr:rightT p t=true):ZcB p t (Zk p) (Zm p)=true:=by
 obtain ⟨f1,f2,_⟩:=hF.flow t hr
 have h1:=hF.lp
 have h2:=hF.lo
 unfold ZcB
 rw[f2,f1,decide_eq_true (show (Zk p).length < 1000000000 by omega),decide_eq_true (show (Zm p).length < 1000000000 by omega),Bool.true_and,Bool.true_and,Bool.true_and,Bool.true_and]
 refine List.all_eq_true.2 fun x hx=>?_
 obtain ⟨hp,ht⟩:=ZLX hF hx
 have s:=ZzJ hp
 have l0:=hp.ld0
 have l1:=hp.ld1
 have e:thrT p (show Int from x.1)=thrT p t:=by rw[ht]
 rw[show thrT p x.1=thrT p t from e] at l1
 unfold loadIn storeIn
 rw[Bool.and_eq_true,decide_eq_true_eq,decide_eq_true_eq]
 exact ⟨⟨l0,l1⟩,s⟩
theorem ZNr (p:El Zc) (hk:Zoj p=true):Goes (Zse p) (Zxu p) (Zjk p):=by
 have hF:=Zq7 hk
 have hA:=smallA hF.small
 have hT:=hF.thr
 have hkc:Za9 p=true:=hA.prog
 have hvc:ZbH p=checkC p:=rfl
 have hmk:((((Int.ofNat (List.length p.2))==(Int.ofNat (List.length p.2)))&&(decide ((0:Int)≤(Int.ofNat (List.length p.2)))))&&(decide (((Int.ofNat (List.length p.2))*(24:Int))≤(limit:Int))))=true:=by
  rw[beq_self_eq_true,decide_eq_true (show (0:Int)≤Int.ofNat (List.length p.2) from Int.natCast_nonneg _),Bool.true_and,Bool.true_and]
  refine decide_eq_true ?_
  show ((List.length p.2:Nat):Int)*24≤((35184372088832:Nat):Int)
  omega
 unfold Zxu Zjk
 rw[Ze,if_pos hkc,hvc,Ze]
 by_cases hc:checkC p=0
 ·rw[if_neg (by rw[hc];decide),if_pos hc,Ze,if_pos hF.kp,Ze,if_pos hF.ko,Ze,if_pos hmk]
  have hr:∀k,k < p.2.length→rightT p (k:Int)=true:=fun k hk=>by
   unfold rightT
   rw[decide_eq_true (Int.natCast_nonneg k),decide_eq_true (show (k:Int) < (p.2.length:Int) by omega),decide_eq_true hc];rfl
  obtain ⟨V,hV⟩:∃V:Nat→List Int,V=fun t:Nat=>ZbL p (t:Int) (Zk p) (Zm p):=⟨_,rfl⟩
  have loop:∀k,k≤p.2.length→Goes (Zse p) (.jmp (.l8 (k:Int) ((List.range p.2.length).map fun t=>if t < k then V t else []))) ((List.range p.2.length).map V):=by
   refine down ?_ fun k hk ih=>?_
   ·rw[Zi,Zse,Ze,if_neg (by rw[Zx (Nat.lt_irrefl _)];decide)]
    have:((List.range p.2.length).map fun t=>if t < p.2.length then V t else [])=(List.range p.2.length).map V:=List.map_congr_left fun t ht=>by rw[if_pos (List.mem_range.1 ht)]
    rw[this]
    exact .leaf
   ·have hlen:((List.range p.2.length).map fun t=>if t < k then V t else []).length=p.2.length:=by simp
    rw[Zi,Zse,Ze,if_pos (ZS hk),Ze,if_pos (ZyC hF (hr k hk)),Ze,if_pos (by rw[nng,hlen,ZS hk];rfl),Int.toNat_natCast,Zt (by omega)]
    have e:((List.range p.2.length).map fun t=>if t < k then V t else []).set k (ZbL p (k:Int) (Zk p) (Zm p))=(List.range p.2.length).map fun t=>if t < k+1 then V t else []:=by
     apply List.ext_getElem
     ·simp
     ·intro i h1 h2
      rw[List.getElem_set]
      simp only[List.getElem_map,List.getElem_range]
      by_cases e:k=i
      ·subst e
       rw[if_pos rfl,if_pos (by omega),hV]
      ·rw[if_neg e]
       by_cases e2:i < k
       ·rw[if_pos e2,if_pos (by omega)]
       ·rw[if_neg e2,if_neg (by omega)]
    rw[e]
    exact ih
  have:=loop 0 (Nat.zero_le _)
  have e0:((List.range p.2.length).map fun t=>if t < 0 then V t else ([]:List Int))=List.replicate p.2.length []:=by
   rw[show (fun t=>if t < 0 then V t else ([]:List Int))=fun _=>[] from funext fun t=>if_neg (Nat.not_lt_zero t),List.map_const',List.length_range]
  rw[e0] at this
  rw[hV] at this
  exact this
 ·rw[if_pos (by simpa using hc),if_neg hc]
  exact .leaf
end Go.Ev
end

section
open Go Go.Ev
namespace Go.Ev
noncomputable section
noncomputable def ZI5:Run:=entG ZkP ZvH (fun a=>Zoj a.1) (fun a=>Zjk a.1)
theorem ZMi:EntOK Go.Proofs.Tryz.prog 21 ZI5:=ZJ (tb:=Zxp) (c:=ZvQ) ZM0 (by kernel_rfl) (by kernel_rfl) (by kernel_rfl) (fun a=>by kernel_rfl) fun ⟨p,_⟩ hk=>Zn (c:=ZvQ) (K:=fun v=>(ZvH v,tps (toForms ZkP (p,())))) (S:=Zln p) (by kernel_rfl) (ZM1 p) (ZMW p) (ZNr p hk)
end
end Go.Ev
end

section
open Go Go.Ev
namespace Go.Ev
noncomputable section
def Zd5:Sig:=[]
noncomputable def Zqr:Tbl:=[(19,Zx8),(13,ZqX),(11,Zq3),(20,Zyd),(14,Zu5),(21,ZI5)]
theorem ZCs:∀p∈Zqr,EntOK Go.Proofs.Tryz.prog p.1 p.2:=Zg ZFT (Zg Zwg (Zg ZyO (Zg ZEQ (Zg ZxD (Zg ZMi (Zv))))))
noncomputable def Zkw:Code:=Go.Proofs.Tryz.f6.body.getD .skip
def Zn5:Tb:=[]
def Zwe:Empty→JT Empty (Bool):=fun j=>nomatch j
def Zua:JT Empty (Bool):=.br (Zds Zl (0:Int)) (.br (ZaO (Za1 Zl (0:Int)) [(1:Int)]) (.br (ZaC (Za1 Zl (0:Int)) [(1:Int)]) (.br (Zbc Zl (0:Int) [(1:Int)]) (.br (ZaY Zl (0:Int) [(1:Int)]) (.br (Zbc Zl (0:Int) []) (.br (! (ZaY Zl (0:Int) [])) (.br (ZeL Zl (1:Int)) (.br (ZaO (ZaV Zl (1:Int)) [(1:Int)]) (.br (ZaC (ZaV Zl (1:Int)) [(1:Int)]) (.br (Zoj Zl) (.br ((Int.ofNat (List.length (Zjk Zl)))==(2:Int)) (.br (Zbc Zl (2:Int) []) (.leaf (! (ZaY Zl (2:Int) []))) (.no)) (.leaf false)) (.no)) (.leaf false)) (.no)) (.no)) (.leaf false)) (.no)) (.leaf false)) (.no)) (.leaf false)) (.no)) (.no)
def Zh6:Bool:=bif (Zds Zl (0:Int)) then bif (ZaO (Za1 Zl (0:Int)) [(1:Int)]) then bif (ZaC (Za1 Zl (0:Int)) [(1:Int)]) then bif (Zbc Zl (0:Int) [(1:Int)]) then bif (ZaY Zl (0:Int) [(1:Int)]) then bif (Zbc Zl (0:Int) []) then bif (! (ZaY Zl (0:Int) [])) then bif (ZeL Zl (1:Int)) then bif (ZaO (ZaV Zl (1:Int)) [(1:Int)]) then bif (ZaC (ZaV Zl (1:Int)) [(1:Int)]) then bif (Zoj Zl) then bif ((Int.ofNat (List.length (Zjk Zl)))==(2:Int)) then bif (Zbc Zl (2:Int) []) then (! (ZaY Zl (2:Int) [])) else false else false else false else false else false else false else false else false else false else false else false else false else false
def ZhF:Bool:=bif (Zds Zl (0:Int)) then bif (ZaO (Za1 Zl (0:Int)) [(1:Int)]) then bif (ZaC (Za1 Zl (0:Int)) [(1:Int)]) then bif (Zbc Zl (0:Int) [(1:Int)]) then bif (ZaY Zl (0:Int) [(1:Int)]) then bif (Zbc Zl (0:Int) []) then bif (! (ZaY Zl (0:Int) [])) then bif (ZeL Zl (1:Int)) then bif (ZaO (ZaV Zl (1:Int)) [(1:Int)]) then bif (ZaC (ZaV Zl (1:Int)) [(1:Int)]) then bif (Zoj Zl) then bif ((Int.ofNat (List.length (Zjk Zl)))==(2:Int)) then bif (Zbc Zl (2:Int) []) then true else false else true else false else true else false else false else true else false else true else false else true else false else false
theorem ZE3 (hk:ZhF=true):Goes (Zwe) (Zua) (Zh6):=Goes.brk hk (fun hk=>Goes.brk hk (fun hk=>Goes.brk hk (fun hk=>Goes.brk hk (fun hk=>Goes.brk hk (fun hk=>Goes.brk hk (fun hk=>Goes.brk hk (fun hk=>Goes.brk hk (fun hk=>Goes.brk hk (fun hk=>Goes.brk hk (fun hk=>Goes.brk hk (fun hk=>Goes.brk hk (fun hk=>Goes.brk hk (fun hk=>Goes.leaf) (fun hk=>Goes.nok hk)) (fun hk=>Goes.leaf)) (fun hk=>Goes.nok hk)) (fun hk=>Goes.leaf)) (fun hk=>Goes.nok hk)) (fun hk=>Goes.nok hk)) (fun hk=>Goes.leaf)) (fun hk=>Goes.nok hk)) (fun hk=>Goes.leaf)) (fun hk=>Goes.nok hk)) (fun hk=>Goes.leaf)) (fun hk=>Goes.nok hk)) (fun hk=>Goes.nok hk)
def ZkI:Bool→AV:=fun (r:Bool)=>.d .bool r
def ZdL:Empty→Nat×St:=fun j=>nomatch j
theorem ZCb (L:Lt):entryA Go.Proofs.Tryz.prog (clOf Zqr) Zn5 Go.Proofs.Tryz.f6 Zkw L (toForms Zd5 (()))=(Zua).run (fun v=>some (ZkI v,tps (toForms Zd5 (())))) fun j=>L (ZdL j).1 (ZdL j).2:=by kernel_rfl
theorem ZB1:∀(L:Lt) (j:Empty),procOf (procsF Go.Proofs.Tryz.prog (clOf Zqr) Zn5 Go.Proofs.Tryz.f6 Zkw (toForms Zd5 (()))) (ZdL j).1 L (ZdL j).2=(Zwe j).run (fun v=>some (ZkI v,tps (toForms Zd5 (())))) fun j=>L (ZdL j).1 (ZdL j).2:=fun L j=>nomatch j
noncomputable def Zwz:Run:=entG Zd5 ZkI (fun a=>ZhF) (fun a=>Zh6)
theorem ZCJ:EntOK Go.Proofs.Tryz.prog 6 Zwz:=ZJ (tb:=Zn5) (c:=Zkw) ZCs (by kernel_rfl) (by kernel_rfl) (by kernel_rfl) (fun a=>by kernel_rfl) fun _ hk=>Zn (c:=Zkw) (K:=fun v=>(ZkI v,tps (toForms Zd5 (())))) (S:=ZdL) (by kernel_rfl) (ZCb) (ZB1) (ZE3 hk)
end
end Go.Ev
end

section
open Go Go.Ev
namespace Go.Ev
noncomputable section
def Zab:Sig:=[(false,(.sl (.sl Zs)))]
noncomputable def Zir:Tbl:=[(5,ZAX),(13,ZqX),(10,Zww),(14,Zu5),(15,ZBh),(16,Zyn),(6,Zwz)]
theorem Zvc:∀p∈Zir,EntOK Go.Proofs.Tryz.prog p.1 p.2:=Zg ZGY (Zg Zwg (Zg ZBW (Zg ZxD (Zg ZIA (Zg ZFl (Zg ZCJ (Zv)))))))
noncomputable def ZfR:Code:=Go.Proofs.Tryz.f4.body.getD .skip
def Zm2:Tb:=[(4,⟨[3,4],[]⟩)]
inductive Zdh where | l4 (t:Int)
def Zdl (l:List (List (El Zs))):Zdh→JT Zdh (Bool) |.l4 t=>.br (decide (t < (Int.ofNat (List.length (Zp l (3:Int) (7:Int)).2)))) (.br (Zds (Zp l (3:Int) (7:Int)) t) (.br (ZbB (Zp l (3:Int) (7:Int)) t (Za1 (Zp l (3:Int) (7:Int)) t)) (.br (! (ZbF (Zp l (3:Int) (7:Int)) t (Za1 (Zp l (3:Int) (7:Int)) t))) (.leaf false) (.br (ZeL (Zp l (3:Int) (7:Int)) t) (.br (ZbB (Zp l (3:Int) (7:Int)) t (ZaV (Zp l (3:Int) (7:Int)) t)) (.br (! (ZbF (Zp l (3:Int) (7:Int)) t (ZaV (Zp l (3:Int) (7:Int)) t))) (.leaf false) (.br (Zqq (Zp l (3:Int) (7:Int)) t) (.br (ZbB (Zp l (3:Int) (7:Int)) t (Zey (Zp l (3:Int) (7:Int)) t)) (.br (! (ZbF (Zp l (3:Int) (7:Int)) t (Zey (Zp l (3:Int) (7:Int)) t))) (.leaf false) (.br (ZjA (Zp l (3:Int) (7:Int)) t) (.br (ZbB (Zp l (3:Int) (7:Int)) t (ZeX (Zp l (3:Int) (7:Int)) t)) (.br (! (ZbF (Zp l (3:Int) (7:Int)) t (ZeX (Zp l (3:Int) (7:Int)) t))) (.leaf false) (.jmp (.l4 (IntKind.i64.wrap (t+(1:Int)))))) (.no)) (.no))) (.no)) (.no))) (.no)) (.no))) (.no)) (.no)) (.br ZhF (.leaf Zh6) (.no))
def Zh5 (l:List (List (El Zs))):JT Zdh (Bool):=.br (Zfc l (3:Int) (7:Int)) (.jmp (.l4 (0:Int))) (.no)
def ZfP:Bool→AV:=fun (r:Bool)=>.d .bool r
def Zbw (l:List (List (El Zs))):Zdh→Nat×St |.l4 t=>(4,⟨mkTm 49 [(3,.pt 4 0 0),(4,.d (.int .i64) t)],[(4,0,.box 27 [.own 4097 0 none,.own 4098 0 none] none),(4097,0,.row 45 Zz (Zp l (3:Int) (7:Int)).1 false),(4098,0,.row 34 (.sl Za) (Zp l (3:Int) (7:Int)).2 false)]⟩)
theorem Zwh (l:List (List (El Zs))) (L:Lt):entryA Go.Proofs.Tryz.prog (clOf Zir) Zm2 Go.Proofs.Tryz.f4 ZfR L (toForms Zab (l,()))=(Zh5 l).run (fun v=>some (ZfP v,tps (toForms Zab (l,())))) fun j=>L (Zbw l j).1 (Zbw l j).2:=by kernel_rfl
theorem Zvo (l:List (List (El Zs))):∀(L:Lt) (j:Zdh),procOf (procsF Go.Proofs.Tryz.prog (clOf Zir) Zm2 Go.Proofs.Tryz.f4 ZfR (toForms Zab (l,()))) (Zbw l j).1 L (Zbw l j).2=(Zdl l j).run (fun v=>some (ZfP v,tps (toForms Zab (l,())))) fun j=>L (Zbw l j).1 (Zbw l j).2 | L,.l4 t=>by kernel_rfl
end
end Go.Ev
end

section
open Go Go.Ev
namespace Go.Ev
noncomputable section
end
end Go.Ev
end

section
open Go
namespace Go.Ev
theorem len0 {α:Type} (l:List α):((Int.ofNat l.length)==(0:Int))=decide (l.length=0):=by
 rw[Bool.eq_iff_iff,beq_iff_eq,decide_eq_true_eq]
 simp
section
variable {p:El Zc} (hF:CutF p) (t:Int)
include hF
theorem ZLH:Zb2 (Zk p) t=true∧Zb2 (Zm p) t=true:=⟨decide_eq_true (by have:=hF.lp;omega),decide_eq_true (by have:=hF.lo;omega)⟩
theorem ZQi {pts:List Int} (hp:pts.length < 1000000000) (hr:rightT p t=true):ZaB (thrT p t) (allT p t) pts=true∧ZdJ (thrT p t) (allT p t) pts=true:=by
 obtain ⟨f1,f2,_⟩:=hF.flow t hr
 have hl:=ZL2 hF t
 unfold ZaB ZdJ
 rw[f1,decide_eq_true (show pts.length < 4611686018427387904 by omega),decide_eq_true (show pts.length < 1000000000000 by omega),decide_eq_true (show (allT p t).length < 1000000000000 by omega)]
 exact ⟨rfl,rfl⟩
theorem Zxj {pts:List Int} (hp:pts.length < 1000000000):Zbc p t pts=true∧ZaY p t pts=(rightT p t&&decide (((allT p t).filter (uB (thrT p t) pts)).length=0)):=by
 obtain ⟨r1,r2⟩:=hF.right t
 unfold Zbc ZaY
 rw[r1,r2]
 cases hr:rightT p t with
 | false=>exact ⟨rfl,rfl⟩
 | true=>
  obtain ⟨f1,f2,_⟩:=hF.flow t hr
  have h1:=(ZQi hF t hp hr).1
  have h2:ZaB (List.getD p.2 (Int.toNat t) (dflt (.sl Za))) (ZT (Zk p) t) pts=true:=h1
  have hv:ZbC (List.getD p.2 (Int.toNat t) (dflt (.sl Za))) (ZT (Zk p) t) pts=(allT p t).filter (uB (thrT p t) pts):=rfl
  rw[f2,hF.kp,(ZLH hF t).1,h2,hv,len0]
  exact ⟨rfl,rfl⟩
theorem ZC0:Zds p t=true∧Za1 p t=if rightT p t=true then pointsV (uB (thrT p t)) (thrT p t).length (allT p t) (opT p t) else []:=by
 obtain ⟨r1,r2⟩:=hF.right t
 unfold Zds Za1
 rw[r1,r2]
 cases hr:rightT p t with
 | false=>exact ⟨rfl,rfl⟩
 | true=>
  have hv:ZbL p t (Zk p) (Zm p)=pointsV (uB (thrT p t)) (thrT p t).length (allT p t) (opT p t):=rfl
  rw[hF.kp,hF.ko,ZyC hF hr,hv]
  generalize pointsV (uB (thrT p t)) (thrT p t).length (allT p t) (opT p t)=X
  exact ⟨rfl,rfl⟩
theorem ZMD:ZjA p t=true∧ZeX p t=if rightT p t=true then greedyV (uB (thrT p t)) (thrT p t).length (opT p t) else []:=by
 obtain ⟨r1,r2⟩:=hF.right t
 unfold ZjA ZeX
 rw[r1,r2]
 cases hr:rightT p t with
 | false=>exact ⟨rfl,rfl⟩
 | true=>
  obtain ⟨f1,f2,_⟩:=hF.flow t hr
  have hl:=ZE2 hF t
  have ha:(opT p t).all (loadIn (thrT p t).length)=true:=List.all_eq_true.2 fun x hx=>by
   obtain ⟨hp,ht⟩:=ZLX hF hx
   have l0:=hp.ld0
   have l1:=hp.ld1
   have e:thrT p (show Int from x.1)=thrT p t:=by rw[ht]
   rw[show thrT p x.1=thrT p t from e] at l1
   exact decide_eq_true ⟨l0,l1⟩
  have h2:Zbs (List.getD p.2 (Int.toNat t) (dflt (.sl Za))) (ZT (Zm p) t)=true:=by
   show Zbs (thrT p t) (opT p t)=true
   unfold Zbs
   rw[f1,ha,decide_eq_true (show (opT p t).length < 1000000000 by omega)];rfl
  have hv:Zb3 (List.getD p.2 (Int.toNat t) (dflt (.sl Za))) (ZT (Zm p) t)=greedyV (uB (thrT p t)) (thrT p t).length (opT p t):=rfl
  rw[f2,hF.ko,(ZLH hF t).2,h2,hv]
  generalize greedyV (uB (thrT p t)) (thrT p t).length (opT p t)=X
  exact ⟨rfl,rfl⟩
end
end Go.Ev
end

section
open Go
namespace Go.Ev
section
variable {α:Type} {U:List Int→α→Bool}
def Anti (U:List Int→α→Bool):Prop:=∀ {p q:List Int},(∀k,k∈p→k∈q)→∀ {x:α},U q x=true→U p x=true
def CovL (U:List Int→α→Bool) (all:List α) (pts:List Int):Prop:=∀x∈all,U pts x=false
theorem ZNo {all:List α} {pts:List Int} :(all.filter (U pts)).length=0↔CovL U all pts:=by
 rw[List.length_eq_zero_iff,List.filter_eq_nil_iff]
 exact ⟨fun h x hx=>by rw[Bool.eq_false_iff];exact h x hx,fun h x hx=>by rw[h x hx];decide⟩
theorem ZPo (hA:Anti U) {all:List α} {p q:List Int} (h:∀k,k∈p→k∈q) (hc:CovL U all p):CovL U all q:=fun x hx=>by
 rw[Bool.eq_false_iff]
 intro hq
 have:=hA h hq
 rw[hc x hx] at this
 cases this
theorem Zxh {all:List α} :∀(done rest:List Int),CovL U all (done++rest)→CovL U all (pruneL U all done rest)
 | done,[],h=>by rw[List.append_nil] at h;unfold pruneL;exact h
 | done,x :: r,h=>by
  unfold pruneL
  split
  ·exact Zxh done r (ZNo.1 (by assumption))
  ·refine Zxh (done++[x]) r ?_
   rw[List.append_assoc]
   exact h
theorem Zzv (hA:Anti U) {n:Nat} {all:List α} :∀ {f:Nat} {pts:List Int} {l:List α},Cuts U n l→l.length≤f→(∀x∈all,U pts x=true→x∈l)→CovL U all (greedyL U n f pts l)
 | 0,pts,l,_,hf,h=>by
  unfold greedyL
  intro x hx
  rw[Bool.eq_false_iff]
  intro hu
  have:=h x hx hu
  have e:l=[]:=List.length_eq_zero_iff.1 (by omega)
  rw[e] at this
  cases this
 | f+1,pts,l,hc,hf,h=>by
  unfold greedyL
  by_cases h0:l.length=0
  ·rw[if_pos h0]
   intro x hx
   rw[Bool.eq_false_iff]
   intro hu
   have:=h x hx hu
   rw[List.length_eq_zero_iff.1 h0] at this
   cases this
  ·rw[if_neg h0]
   obtain ⟨j,_,e1,e2,e3⟩:=ZDi (pts:=pts) hc (by omega)
   rw[e1,e2]
   rw[e2] at e3
   refine Zzv hA (ZLz hc fun x hx=>(List.mem_filter.1 hx).1) (by omega) fun x hx hu=>?_
   exact List.mem_filter.2 ⟨h x hx (hA (fun k hk=>List.mem_append_left _ hk) hu),hu⟩
end
end Go.Ev
end

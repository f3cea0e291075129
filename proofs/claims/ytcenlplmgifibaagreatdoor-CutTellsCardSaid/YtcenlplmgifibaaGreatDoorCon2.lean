/- Part of the proof of: Which points are chosen, each way, is what the document says, of each thread: for every input the law answers true. -/
import Derived.Test.YtcenlplmgifibaaGreatDoorCon1
set_option maxRecDepth 100000
set_option linter.unusedSectionVars false
set_option linter.unusedVariables false
set_option linter.unusedSimpArgs false
section
open Go Go.Ev
namespace Go.Ev
noncomputable section
def ZeA:Sig:=[(true,Za)]
noncomputable def ZrC:Tbl:=[(95,Zcp),(132,ZiD)]
theorem ZEM:∀p∈ZrC,EntOK Go.Proofs.Tryz.prog p.1 p.2:=Zg ZcI (Zg Zj3 (Zt))
noncomputable def ZlJ:Code:=Go.Proofs.Tryz.f113.body.getD .skip
def Zo0:Tb:=[]
def ZxI (i:El Za):Empty→JT Empty ((El Zi)×Bool):=fun j=>nomatch j
def Zv1 (i:El Za):JT Empty ((El Zi)×Bool):=.br (ZC i) (.br ((ZB i) !=(0:Int)) (.leaf (((0:Int),((0:Int),((0:Int),(0:Int)))),false)) (.br (decide (i.1 > (9:Int))) (.leaf (((0:Int),((0:Int),((0:Int),(0:Int)))),false)) (.br (i.1==(7:Int)) (.leaf (((0:Int),((0:Int),((0:Int),(0:Int)))),false)) (.br (! (ZF i.2.2.2.1)) (.leaf (((0:Int),((0:Int),((0:Int),(0:Int)))),false)) (.leaf (i.2.2.2.1,true)))))) (.no)
def ZcQ (i:El Za):(El Zi)×Bool:=bif (ZC i) then bif ((ZB i) !=(0:Int)) then (((0:Int),((0:Int),((0:Int),(0:Int)))),false) else bif (decide (i.1 > (9:Int))) then (((0:Int),((0:Int),((0:Int),(0:Int)))),false) else bif (i.1==(7:Int)) then (((0:Int),((0:Int),((0:Int),(0:Int)))),false) else bif (! (ZF i.2.2.2.1)) then (((0:Int),((0:Int),((0:Int),(0:Int)))),false) else (i.2.2.2.1,true) else (((0:Int),((0:Int),((0:Int),(0:Int)))),false)
def Ziw (i:El Za):Bool:=bif (ZC i) then bif ((ZB i) !=(0:Int)) then true else bif (decide (i.1 > (9:Int))) then true else bif (i.1==(7:Int)) then true else bif (! (ZF i.2.2.2.1)) then true else true else false
theorem ZG7 (i:El Za) (hk:Ziw i=true):Goes (ZxI i) (Zv1 i) (ZcQ i):=Goes.brk hk (fun hk=>Goes.brk hk (fun hk=>Goes.leaf) (fun hk=>Goes.brk hk (fun hk=>Goes.leaf) (fun hk=>Goes.brk hk (fun hk=>Goes.leaf) (fun hk=>Goes.brk hk (fun hk=>Goes.leaf) (fun hk=>Goes.leaf))))) (fun hk=>Goes.nok hk)
def Zlo:(El Zi)×Bool→AV:=fun (r:(El Zi)×Bool)=>.tu [.ag [.d (.int .i64) r.1.1,.d (.int .i64) r.1.2.1,.d (.int .i64) r.1.2.2.1,.d (.int .i64) r.1.2.2.2],.d .bool r.2]
def Zd2 (i:El Za):Empty→Nat×St:=fun j=>nomatch j
theorem ZEL (i:El Za) (L:Lt):entryA Go.Proofs.Tryz.prog (clOf ZrC) Zo0 Go.Proofs.Tryz.f113 ZlJ L (toForms ZeA (i,()))=(Zv1 i).run (fun v=>some (Zlo v,tps (toForms ZeA (i,())))) fun j=>L (Zd2 i j).1 (Zd2 i j).2:=by kernel_rfl
theorem ZEt (i:El Za):∀(L:Lt) (j:Empty),procOf (procsF Go.Proofs.Tryz.prog (clOf ZrC) Zo0 Go.Proofs.Tryz.f113 ZlJ (toForms ZeA (i,()))) (Zd2 i j).1 L (Zd2 i j).2=(ZxI i j).run (fun v=>some (Zlo v,tps (toForms ZeA (i,())))) fun j=>L (Zd2 i j).1 (Zd2 i j).2:=fun L j=>nomatch j
noncomputable def ZxB:Run:=entG ZeA Zlo (fun a=>Ziw a.1) (fun a=>ZcQ a.1)
theorem ZEw:EntOK Go.Proofs.Tryz.prog 113 ZxB:=ZH (tb:=Zo0) (c:=ZlJ) ZEM (by kernel_rfl) (by kernel_rfl) (by kernel_rfl) (fun a=>by kernel_rfl) fun ⟨i,_⟩ hk=>Zm (c:=ZlJ) (K:=fun v=>(Zlo v,tps (toForms ZeA (i,())))) (S:=Zd2 i) (by kernel_rfl) (ZEL i) (ZEt i) (ZG7 i hk)
end
end Go.Ev
end

section
open Go Go.Ev
namespace Go.Ev
noncomputable section
def ZeB:Sig:=[(true,Za)]
noncomputable def ZrK:Tbl:=[(95,Zcp)]
theorem ZDW:∀p∈ZrK,EntOK Go.Proofs.Tryz.prog p.1 p.2:=Zg ZcI (Zt)
noncomputable def Zlt:Code:=Go.Proofs.Tryz.f114.body.getD .skip
def ZoT:Tb:=[]
def ZyN (i:El Za):Empty→JT Empty (Bool):=fun j=>nomatch j
def ZvE (i:El Za):JT Empty (Bool):=.br (ZC i) (.br ((ZB i)==(0:Int)) (.br (i.1==(8:Int)) (.leaf true) (.leaf i.2.1)) (.leaf false)) (.no)
def ZaB (i:El Za):Bool:=bif (ZC i) then bif ((ZB i)==(0:Int)) then bif (i.1==(8:Int)) then true else i.2.1 else false else false
def Zal (i:El Za):Bool:=bif (ZC i) then bif ((ZB i)==(0:Int)) then bif (i.1==(8:Int)) then true else true else true else false
theorem ZH3 (i:El Za) (hk:Zal i=true):Goes (ZyN i) (ZvE i) (ZaB i):=Goes.brk hk (fun hk=>Goes.brk hk (fun hk=>Goes.brk hk (fun hk=>Goes.leaf) (fun hk=>Goes.leaf)) (fun hk=>Goes.leaf)) (fun hk=>Goes.nok hk)
def Zk9:Bool→AV:=fun (r:Bool)=>.d .bool r
def ZdM (i:El Za):Empty→Nat×St:=fun j=>nomatch j
theorem ZEG (i:El Za) (L:Lt):entryA Go.Proofs.Tryz.prog (clOf ZrK) ZoT Go.Proofs.Tryz.f114 Zlt L (toForms ZeB (i,()))=(ZvE i).run (fun v=>some (Zk9 v,tps (toForms ZeB (i,())))) fun j=>L (ZdM i j).1 (ZdM i j).2:=by kernel_rfl
theorem ZFe (i:El Za):∀(L:Lt) (j:Empty),procOf (procsF Go.Proofs.Tryz.prog (clOf ZrK) ZoT Go.Proofs.Tryz.f114 Zlt (toForms ZeB (i,()))) (ZdM i j).1 L (ZdM i j).2=(ZyN i j).run (fun v=>some (Zk9 v,tps (toForms ZeB (i,())))) fun j=>L (ZdM i j).1 (ZdM i j).2:=fun L j=>nomatch j
noncomputable def Zsg:Run:=entG ZeB Zk9 (fun a=>Zal a.1) (fun a=>ZaB a.1)
theorem ZvQ:EntOK Go.Proofs.Tryz.prog 114 Zsg:=ZH (tb:=ZoT) (c:=Zlt) ZDW (by kernel_rfl) (by kernel_rfl) (by kernel_rfl) (fun a=>by kernel_rfl) fun ⟨i,_⟩ hk=>Zm (c:=Zlt) (K:=fun v=>(Zk9 v,tps (toForms ZeB (i,())))) (S:=ZdM i) (by kernel_rfl) (ZEG i) (ZFe i) (ZH3 i hk)
end
end Go.Ev
end

section
open Go Go.Ev
namespace Go.Ev
noncomputable section
def ZcM:Sig:=[(true,Zc)]
noncomputable def Zmh:Tbl:=[(34,ZnL),(112,ZAF),(113,ZxB),(114,Zsg)]
theorem ZBm:∀p∈Zmh,EntOK Go.Proofs.Tryz.prog p.1 p.2:=Zg Zq7 (Zg ZHr (Zg ZEw (Zg ZvQ (Zt))))
noncomputable def ZiW:Code:=Go.Proofs.Tryz.f66.body.getD .skip
def ZkV:Tb:=[(7,⟨[1,3,4],[(4,150)]⟩),(12,⟨[1,3,4,5],[(4,150)]⟩),(hintK,⟨[],[(1,150)]⟩)]
inductive Zfd where | l7 (t:Int) (out:List (El Zb)) | l12 (i:Int) (out:List (El Zb)) (t:Int)
def Zbs (p:El Zc):Zfd→JT Zfd (List (El Zb)) |.l7 t out=>.br (decide (t < (Int.ofNat (List.length p.2)))) (.jmp (.l12 (0:Int) out t)) (.leaf out) |.l12 i out t=>.br ((decide ((0:Int)≤t))&&(decide (t < (Int.ofNat (List.length p.2))))) (.br (decide (i < (Int.ofNat (List.length (List.getD p.2 (Int.toNat t) (dflt (.sl Za))))))) (.br ((decide ((0:Int)≤t))&&(decide (t < (Int.ofNat (List.length p.2))))) (.br ((decide ((0:Int)≤i))&&(decide (i < (Int.ofNat (List.length (List.getD p.2 (Int.toNat t) (dflt (.sl Za)))))))) (.br (Zkt (List.getD (List.getD p.2 (Int.toNat t) (dflt (.sl Za))) (Int.toNat i) (dflt Za))) (.br (Ziw (List.getD (List.getD p.2 (Int.toNat t) (dflt (.sl Za))) (Int.toNat i) (dflt Za))) (.br (ZdH (List.getD (List.getD p.2 (Int.toNat t) (dflt (.sl Za))) (Int.toNat i) (dflt Za))).2 (.br (Zal (List.getD (List.getD p.2 (Int.toNat t) (dflt (.sl Za))) (Int.toNat i) (dflt Za))) (.br (Nat.ble (((List.length out)+1)*40) limit) (.br (ZcQ (List.getD (List.getD p.2 (Int.toNat t) (dflt (.sl Za))) (Int.toNat i) (dflt Za))).2 (.br (Zal (List.getD (List.getD p.2 (Int.toNat t) (dflt (.sl Za))) (Int.toNat i) (dflt Za))) (.br (Nat.ble (((List.length (out++[(t,(i,((0:Int),((ZdH (List.getD (List.getD p.2 (Int.toNat t) (dflt (.sl Za))) (Int.toNat i) (dflt Za))).1.2.2.1,(false,(ZaB (List.getD (List.getD p.2 (Int.toNat t) (dflt (.sl Za))) (Int.toNat i) (dflt Za))))))))]))+1)*40) limit) (.jmp (.l12 (IntKind.i64.wrap (i+(1:Int))) ((out++[(t,(i,((0:Int),((ZdH (List.getD (List.getD p.2 (Int.toNat t) (dflt (.sl Za))) (Int.toNat i) (dflt Za))).1.2.2.1,(false,(ZaB (List.getD (List.getD p.2 (Int.toNat t) (dflt (.sl Za))) (Int.toNat i) (dflt Za))))))))])++[(t,(i,((1:Int),((ZcQ (List.getD (List.getD p.2 (Int.toNat t) (dflt (.sl Za))) (Int.toNat i) (dflt Za))).1.2.2.1,(true,(ZaB (List.getD (List.getD p.2 (Int.toNat t) (dflt (.sl Za))) (Int.toNat i) (dflt Za))))))))]) t)) (.no)) (.no)) (.jmp (.l12 (IntKind.i64.wrap (i+(1:Int))) (out++[(t,(i,((0:Int),((ZdH (List.getD (List.getD p.2 (Int.toNat t) (dflt (.sl Za))) (Int.toNat i) (dflt Za))).1.2.2.1,(false,(ZaB (List.getD (List.getD p.2 (Int.toNat t) (dflt (.sl Za))) (Int.toNat i) (dflt Za))))))))]) t))) (.no)) (.no)) (.br (ZcQ (List.getD (List.getD p.2 (Int.toNat t) (dflt (.sl Za))) (Int.toNat i) (dflt Za))).2 (.br (Zal (List.getD (List.getD p.2 (Int.toNat t) (dflt (.sl Za))) (Int.toNat i) (dflt Za))) (.br (Nat.ble (((List.length out)+1)*40) limit) (.jmp (.l12 (IntKind.i64.wrap (i+(1:Int))) (out++[(t,(i,((0:Int),((ZcQ (List.getD (List.getD p.2 (Int.toNat t) (dflt (.sl Za))) (Int.toNat i) (dflt Za))).1.2.2.1,(true,(ZaB (List.getD (List.getD p.2 (Int.toNat t) (dflt (.sl Za))) (Int.toNat i) (dflt Za))))))))]) t)) (.no)) (.no)) (.jmp (.l12 (IntKind.i64.wrap (i+(1:Int))) out t)))) (.no)) (.no)) (.no)) (.no)) (.jmp (.l7 (IntKind.i64.wrap (t+(1:Int))) out))) (.no)
def ZkN (p:El Zc):JT Zfd (List (El Zb)):=.br (Zbz p) (.br ((ZbS p) !=(0:Int)) (.leaf []) (.jmp (.l7 (0:Int) []))) (.no)
def Zi4:List (El Zb)→AV:=fun (r:List (El Zb))=>.rw 83 Zb r
def Zcx (p:El Zc):Zfd→Nat×St |.l7 t out=>(7,⟨mkTm 76 [(1,.pt 2 0 0),(3,.own 4 0 none),(4,.d (.int .i64) t)],[(2,0,.box 26 [.d (.sl Zy) p.1,.d (.sl (.sl Za)) p.2] none),(4,0,.row 83 Zb out false)]⟩) |.l12 i out t=>(12,⟨mkTm 76 [(1,.pt 2 0 0),(3,.own 4 0 none),(4,.d (.int .i64) t),(5,.d (.int .i64) i)],[(2,0,.box 26 [.d (.sl Zy) p.1,.d (.sl (.sl Za)) p.2] none),(4,0,.row 83 Zb out false)]⟩)
theorem ZA6 (p:El Zc) (L:Lt):entryA Go.Proofs.Tryz.prog (clOf Zmh) ZkV Go.Proofs.Tryz.f66 ZiW L (toForms ZcM (p,()))=(ZkN p).run (fun v=>some (Zi4 v,tps (toForms ZcM (p,())))) fun j=>L (Zcx p j).1 (Zcx p j).2:=by kernel_rfl
theorem ZA5 (p:El Zc):∀(L:Lt) (j:Zfd),procOf (procsF Go.Proofs.Tryz.prog (clOf Zmh) ZkV Go.Proofs.Tryz.f66 ZiW (toForms ZcM (p,()))) (Zcx p j).1 L (Zcx p j).2=(Zbs p j).run (fun v=>some (Zi4 v,tps (toForms ZcM (p,())))) fun j=>L (Zcx p j).1 (Zcx p j).2 | L,.l7 t out=>by kernel_rfl | L,.l12 i out t=>by kernel_rfl
end
end Go.Ev
end

section
namespace Go.Ev
open Go
theorem ZS2 {i:El Za} (h:smallText i.2.2.2.2.2.1=true):Zkt i=true∧Ziw i=true∧Zal i=true:=by
 have h0:ZC i=true:=h
 unfold Zkt Ziw Zal
 simp only[h0,cond_true,Bool.cond_self,and_self]
theorem ZRj {i:El Za} (h:smallText i.2.2.2.2.2.1=true):ZdH i=ZaK i:=by
 have h0:ZS i=true:=h
 have h1:ZC i=true:=h
 unfold ZdH ZaK ZB
 simp only[h0,h1,cond_true]
 by_cases hr:ZA i=0
 ·simp only[hr,bne_self_eq_false,cond_false]
  rcases nine i.1 with ⟨h9,e⟩ | ⟨h9,e⟩
  ·obtain ⟨a,b⟩:=ZPW hr h9
   rw[a,b,e,cond_false]
  ·obtain ⟨a,b⟩:=ZOo hr h9
   rw[a,b,e]
   simp only[cond_true,cond_false]
 ·have e:(ZA i !=0)=true:=by simp[hr]
  simp only[e,cond_true]
theorem ZQt {i:El Za} (h:smallText i.2.2.2.2.2.1=true):ZcQ i=ZaG i:=by
 have h0:ZS i=true:=h
 have h1:ZC i=true:=h
 unfold ZcQ ZaG ZB
 simp only[h0,h1,cond_true]
 by_cases hr:ZA i=0
 ·simp only[hr,bne_self_eq_false,cond_false]
  rcases nine i.1 with ⟨h9,e⟩ | ⟨h9,e⟩
  ·obtain ⟨a,b⟩:=ZPW hr h9
   rw[a,e,cond_false]
   cases ZF i.2.2.2.1 <;> simp only[Bool.not_true,Bool.not_false,cond_true,cond_false,Bool.cond_self]
  ·obtain ⟨a,b⟩:=ZOo hr h9
   rw[a,e]
   simp only[cond_true,Bool.not_false]
 ·have e:(ZA i !=0)=true:=by simp[hr]
  simp only[e,cond_true]
theorem ZPG {i:El Za} (h:smallText i.2.2.2.2.2.1=true):ZaB i=Zan i:=by
 have h0:ZS i=true:=h
 have h1:ZC i=true:=h
 unfold ZaB Zan ZB
 simp only[h0,h1]
end Go.Ev
end

section
open Go
namespace Go.Ev
def Zu (p:El Zc):List (El Zb):=ofC p
def Zix (p:El Zc):Bool:=smallAll p
theorem ZCb (p:El Zc) (hk:Zix p=true):Goes (Zbs p) (ZkN p) (Zu p):=by
 have hA:=smallA hk
 obtain ⟨sy,th⟩:=p
 have hkc:Zbz (sy,th)=true:=hA.prog
 have hlen:th.length < 1073741824:=hA.len
 have htot:total th < 1073741824:=hA.tot
 have main:∀k,k≤th.length→∀out:List (El Zb),out.length+2*total (th.drop k) < 4294967296→Goes (Zbs (sy,th)) (.jmp (.l7 (k:Int) out)) (out++accP k (th.drop k)):=by
  refine down ?_ fun k hk ih=>?_
  ·intro out ho
   rw[Zh]
   simp only[Zbs,Ze,Zw (Nat.lt_irrefl _),ZR,List.drop_length]
   simp[accP]
  ·intro out ho
   rw[ZFm hk] at ho
   have hS:=smallT (hA.thr _ (List.getElem_mem hk))
   rw[Zh]
   simp only[Zbs,Ze,ZK hk,if_true]
   rw[ZM hk]
   unfold accP
   obtain ⟨x,hx0⟩:∃x,th[k]=x:=⟨_,rfl⟩
   rw[hx0] at ho hS ⊢
   have inner:∀j,j≤List.length x→∀out:List (El Zb),out.length+2*(List.length x - j)+2*total (th.drop (k+1)) < 4294967296→Goes (Zbs (sy,th)) (.jmp (.l12 (j:Int) out (k:Int))) (out++(accT k j (List.drop j x)++accP (k+1) (th.drop (k+1)))):=by
    refine down ?_ fun j hj ihj=>?_
    ·intro out ho
     rw[Zh]
     simp only[Zbs,Ze,ZK hk,nng,Bool.and_self,if_true,Int.toNat_natCast,ZG hk,hx0,Zw (Nat.lt_irrefl _),Zo (k:=k) (by omega),List.drop_length]
     have:=ih out (by omega)
     simpa[accT] using this
    ·intro out ho
     have hto:=hS.to _ (List.getElem_mem hj)
     obtain ⟨a1,a2,a4⟩:=ZS2 hto
     have hx:List.length x < 1099511627776:=hS.len
     rw[Zh]
     have b1:Nat.ble ((out.length+1)*40) limit=true:=ble40 (by omega)
     have b2:∀y:El Zb,Nat.ble (((out++[y]).length+1)*40) limit=true:=fun y=>ble40 (by rw[List.length_append];simp;omega)
     simp only[Zbs,Ze,ZK hk,ZG hk,hx0,ZK hj,nng,Bool.and_self,if_true,Int.toNat_natCast,ZG hj,Zo (k:=j) (by omega),a1,a2,a4,b1,b2,ZRj hto,ZQt hto,ZPG hto]
     rw[ZM hj]
     unfold accT accI
     have hs:∀y:List (El Zb),y.length≤2→Goes (Zbs (sy,th)) (.jmp (.l12 ((j+1:Nat):Int) (out++y) (k:Int))) (out++((y++accT k (j+1) (List.drop (j+1) x))++accP (k+1) (th.drop (k+1)))):=fun y hy=>by
      have:=ihj (out++y) (by rw[List.length_append];omega)
      rw[List.append_assoc] at this
      rw[List.append_assoc]
      exact this
     by_cases hr:(ZaK x[j]).2=true <;> by_cases hw:(ZaG x[j]).2=true
     ·simp only[hr,hw,if_true]
      rw[List.append_assoc out]
      exact hs _ (by simp)
     ·simp only[hr,hw,if_true,if_false]
      exact hs _ (by simp)
     ·simp only[hr,hw,if_true,if_false]
      exact hs _ (by simp)
     ·simp only[hr,hw,if_false]
      have:=hs [] (by simp)
      rw[List.append_nil] at this
      exact this
   exact inner 0 (Nat.zero_le _) out (by omega)
 unfold ZkN Zu ofC
 simp only[Ze,hkc,if_true,ZbS]
 by_cases h:checkC (sy,th)=0
 ·rw[if_neg (by simp[h]),if_pos h]
  have:=main 0 (Nat.zero_le _) [] (by simp;omega)
  simpa using this
 ·rw[if_pos (by simp[h]),if_neg h]
  exact .leaf
end Go.Ev
end

section
open Go Go.Ev
namespace Go.Ev
noncomputable section
noncomputable def Zs9:Run:=entG ZcM Zi4 (fun a=>Zix a.1) (fun a=>Zu a.1)
theorem ZBh:EntOK Go.Proofs.Tryz.prog 66 Zs9:=ZH (tb:=ZkV) (c:=ZiW) ZBm (by kernel_rfl) (by kernel_rfl) (by kernel_rfl) (fun a=>by kernel_rfl) fun ⟨p,_⟩ hk=>Zm (c:=ZiW) (K:=fun v=>(Zi4 v,tps (toForms ZcM (p,())))) (S:=Zcx p) (by kernel_rfl) (ZA6 p) (ZA5 p) (ZCb p hk)
end
end Go.Ev
end

section
open Go Go.Ev
namespace Go.Ev
noncomputable section
def Zgu:Sig:=[(true,Za)]
noncomputable def Zus:Tbl:=[(95,Zcp),(97,Znr)]
theorem ZHQ:∀p∈Zus,EntOK Go.Proofs.Tryz.prog p.1 p.2:=Zg ZcI (Zg ZqE (Zt))
noncomputable def ZnT:Code:=Go.Proofs.Tryz.f139.body.getD .skip
def Zp5:Tb:=[]
def ZAh (i:El Za):Empty→JT Empty (Bool×Bool):=fun j=>nomatch j
def ZyE (i:El Za):JT Empty (Bool×Bool):=.br (ZC i) (.br ((ZB i) !=(0:Int)) (.leaf (false,false)) (.br (i.1 !=(10:Int)) (.leaf ((i.1 !=(14:Int)),(ZaF i.1))) (.leaf (false,(ZaF i.1))))) (.no)
def ZdF (i:El Za):Bool×Bool:=bif (ZC i) then bif ((ZB i) !=(0:Int)) then (false,false) else bif (i.1 !=(10:Int)) then ((i.1 !=(14:Int)),(ZaF i.1)) else (false,(ZaF i.1)) else (false,false)
def Zj9 (i:El Za):Bool:=bif (ZC i) then bif ((ZB i) !=(0:Int)) then true else bif (i.1 !=(10:Int)) then true else true else false
theorem ZLB (i:El Za) (hk:Zj9 i=true):Goes (ZAh i) (ZyE i) (ZdF i):=Goes.brk hk (fun hk=>Goes.brk hk (fun hk=>Goes.leaf) (fun hk=>Goes.brk hk (fun hk=>Goes.leaf) (fun hk=>Goes.leaf))) (fun hk=>Goes.nok hk)
def ZnK:Bool×Bool→AV:=fun (r:Bool×Bool)=>.tu [.d .bool r.1,.d .bool r.2]
def ZfS (i:El Za):Empty→Nat×St:=fun j=>nomatch j
theorem ZH9 (i:El Za) (L:Lt):entryA Go.Proofs.Tryz.prog (clOf Zus) Zp5 Go.Proofs.Tryz.f139 ZnT L (toForms Zgu (i,()))=(ZyE i).run (fun v=>some (ZnK v,tps (toForms Zgu (i,())))) fun j=>L (ZfS i j).1 (ZfS i j).2:=by kernel_rfl
theorem ZF8 (i:El Za):∀(L:Lt) (j:Empty),procOf (procsF Go.Proofs.Tryz.prog (clOf Zus) Zp5 Go.Proofs.Tryz.f139 ZnT (toForms Zgu (i,()))) (ZfS i j).1 L (ZfS i j).2=(ZAh i j).run (fun v=>some (ZnK v,tps (toForms Zgu (i,())))) fun j=>L (ZfS i j).1 (ZfS i j).2:=fun L j=>nomatch j
noncomputable def Zz5:Run:=entG Zgu ZnK (fun a=>Zj9 a.1) (fun a=>ZdF a.1)
theorem ZI0:EntOK Go.Proofs.Tryz.prog 139 Zz5:=ZH (tb:=Zp5) (c:=ZnT) ZHQ (by kernel_rfl) (by kernel_rfl) (by kernel_rfl) (fun a=>by kernel_rfl) fun ⟨i,_⟩ hk=>Zm (c:=ZnT) (K:=fun v=>(ZnK v,tps (toForms Zgu (i,())))) (S:=ZfS i) (by kernel_rfl) (ZH9 i) (ZF8 i) (ZLB i hk)
end
end Go.Ev
end

section
open Go Go.Ev
namespace Go.Ev
noncomputable section
def ZhT:Sig:=[(true,(.sl Za)),(false,(.int .i64))]
noncomputable def ZwC:Tbl:=[(139,Zz5),(98,Zwu)]
theorem ZKC:∀p∈ZwC,EntOK Go.Proofs.Tryz.prog p.1 p.2:=Zg ZI0 (Zg Zz4 (Zt))
noncomputable def Zqn:Code:=Go.Proofs.Tryz.f115.body.getD .skip
def Zth:Tb:=[(6,⟨[1,2,5,7],[]⟩)]
inductive Zms where | l6 (jumps:Bool) (is:List Bool)
def Zrh (t:List (El Za)) (i:Int):Zms→JT Zms (List Bool) |.l6 jumps is=>.br jumps (.br ((decide ((0:Int)≤i))&&(decide (i < (Int.ofNat (List.length t))))) (.br (Ze2 t (List.getD t (Int.toNat i) (dflt Za)).2.2.2.2.2.1) (.br (decide ((Zdk t (List.getD t (Int.toNat i) (dflt Za)).2.2.2.2.2.1)≥(0:Int))) (.br ((decide ((0:Int)≤(Zdk t (List.getD t (Int.toNat i) (dflt Za)).2.2.2.2.2.1)))&&(decide ((Zdk t (List.getD t (Int.toNat i) (dflt Za)).2.2.2.2.2.1) < (Int.ofNat (List.length is))))) (.leaf (List.set is (Int.toNat (Zdk t (List.getD t (Int.toNat i) (dflt Za)).2.2.2.2.2.1)) true)) (.no)) (.leaf is)) (.no)) (.no)) (.leaf is)
def Zs6 (t:List (El Za)) (i:Int):JT Zms (List Bool):=.br ((((Int.ofNat (List.length t))==(Int.ofNat (List.length t)))&&(decide ((0:Int)≤(Int.ofNat (List.length t)))))&&(decide (((Int.ofNat (List.length t))*(1:Int))≤(limit:Int)))) (.br (decide (i < (0:Int))) (.leaf (List.replicate (List.length t) false)) (.br (decide (i≥(Int.ofNat (List.length t)))) (.leaf (List.replicate (List.length t) false)) (.br ((decide ((0:Int)≤i))&&(decide (i < (Int.ofNat (List.length t))))) (.br (Zj9 (List.getD t (Int.toNat i) (dflt Za))) (.br (ZdF (List.getD t (Int.toNat i) (dflt Za))).1 (.br (decide ((IntKind.i64.wrap (i+(1:Int))) < (Int.ofNat (List.length t)))) (.br ((decide ((0:Int)≤(IntKind.i64.wrap (i+(1:Int)))))&&(decide ((IntKind.i64.wrap (i+(1:Int))) < (Int.ofNat (List.length (List.replicate (List.length t) false)))))) (.jmp (.l6 (ZdF (List.getD t (Int.toNat i) (dflt Za))).2 (List.set (List.replicate (List.length t) false) (Int.toNat (IntKind.i64.wrap (i+(1:Int)))) true))) (.no)) (.jmp (.l6 (ZdF (List.getD t (Int.toNat i) (dflt Za))).2 (List.replicate (List.length t) false)))) (.jmp (.l6 (ZdF (List.getD t (Int.toNat i) (dflt Za))).2 (List.replicate (List.length t) false)))) (.no)) (.no)))) (.no)
def Zqh:List Bool→AV:=fun (r:List Bool)=>.rw 4 .bool r
def Zhr (t:List (El Za)) (i:Int):Zms→Nat×St |.l6 jumps is=>(6,⟨mkTm 60 [(1,.d (.int .i64) i),(2,.pt 3 0 0),(5,.own 6 0 none),(7,.d .bool jumps)],[(3,0,.box 42 [.d (.sl Za) t] none),(6,0,.row 4 .bool is false)]⟩)
theorem ZJE (t:List (El Za)) (i:Int) (L:Lt):entryA Go.Proofs.Tryz.prog (clOf ZwC) Zth Go.Proofs.Tryz.f115 Zqn L (toForms ZhT (t,i,()))=(Zs6 t i).run (fun v=>some (Zqh v,tps (toForms ZhT (t,i,())))) fun j=>L (Zhr t i j).1 (Zhr t i j).2:=by kernel_rfl
theorem ZKd (t:List (El Za)) (i:Int):∀(L:Lt) (j:Zms),procOf (procsF Go.Proofs.Tryz.prog (clOf ZwC) Zth Go.Proofs.Tryz.f115 Zqn (toForms ZhT (t,i,()))) (Zhr t i j).1 L (Zhr t i j).2=(Zrh t i j).run (fun v=>some (Zqh v,tps (toForms ZhT (t,i,())))) fun j=>L (Zhr t i j).1 (Zhr t i j).2 | L,.l6 jumps is=>by kernel_rfl
end
end Go.Ev
end

section
open Go
namespace Go.Ev
theorem ZNk {i:El Za} (h:smallText i.2.2.2.2.2.1=true):Zj9 i=true:=by
 have h1:ZC i=true:=h
 unfold Zj9
 simp only[h1,cond_true,Bool.cond_self]
theorem ZP1 {i:El Za} (h:smallText i.2.2.2.2.2.1=true):ZdF i=ZaJ i:=by
 have h0:ZS i=true:=h
 have h1:ZC i=true:=h
 unfold ZdF ZaJ ZB ZaF
 simp only[h0,h1,cond_true]
 cases h10:((show Int from i.1)==10) with
 | true=>simp only[cond_true,bne,h10,Bool.not_true,cond_false]
 | false=>simp only[cond_true,bne,h10,Bool.not_false,cond_false]
end Go.Ev
end

section
open Go
namespace Go.Ev
def rowOf (n:Nat) (M:Nat→Bool):List Bool:=(List.range n).map M
theorem ZL {n:Nat} {M:Nat→Bool} :(rowOf n M).length=n:=by simp[rowOf]
theorem ZpK {n:Nat} {M:Nat→Bool} {i:Nat} (h:i < n):(rowOf n M)[i]? =some (M i):=by simp[rowOf,h]
theorem ZtX {n:Nat} {M:Nat→Bool} {i:Nat} :(rowOf n M).set i true=rowOf n fun j=>M j || (j==i):=by
 apply List.ext_getElem?
 intro j
 rw[List.getElem?_set,ZL]
 by_cases hj:j < n
 ·rw[ZpK hj,ZpK hj]
  by_cases hi:i=j
  ·subst hi;rw[if_pos rfl,if_pos hj];simp
  ·rw[if_neg hi]
   have:(j==i)=false:=by simp;omega
   rw[this,Bool.or_false]
 ·rw[List.getElem?_eq_none (by rw[ZL];omega),List.getElem?_eq_none (by rw[ZL];omega)]
  by_cases hi:i=j
  ·rw[if_pos hi,if_neg (by omega)]
  ·rw[if_neg hi]
theorem Z7 {n:Nat} {M M':Nat→Bool} (h:∀i,i < n→M i=M' i):rowOf n M=rowOf n M':=List.map_congr_left fun i hi=>h i (List.mem_range.1 hi)
theorem Zpy {n:Nat} :List.replicate n false=rowOf n fun _=>false:=by
 apply List.ext_getElem?
 intro j
 by_cases hj:j < n
 ·rw[ZpK hj];simp[hj]
 ·rw[List.getElem?_eq_none (by simp;omega),List.getElem?_eq_none (by rw[ZL];omega)]
def Zbg (t:List (El Za)) (i:Int):List Bool:=rowOf t.length (nextB t i)
def Zda (t:List (El Za)) (i:Int):Bool:=flowOK t
theorem ZMx (t:List (El Za)) (i:Int) (hk:Zda t i=true):Goes (Zrh t i) (Zs6 t i) (Zbg t i):=by
 have hlen:=Zbx hk
 have hout:∀i,¬(0≤i∧i < (t.length:Int))→List.replicate t.length false=rowOf t.length (nextB t i):=fun i h=>by
  rw[Zpy]
  refine Z7 fun j hj=>?_
  unfold nextB
  rw[decide_eq_false (fun hh=>h ⟨hh.1,hh.2.1⟩),Bool.false_and]
 unfold Zs6 Zbg
 rw[Ze,if_pos (by unfold limit;simp;omega),Ze]
 by_cases h0:i < 0
 ·rw[if_pos (decide_eq_true h0),←hout i (fun h=>by omega)];exact .leaf
 rw[if_neg (by simpa using h0),Ze]
 obtain ⟨j,rfl⟩:=Int.eq_ofNat_of_zero_le (show 0≤i by omega)
 by_cases h1:(t.length:Int)≤(j:Int)
 ·rw[if_pos (decide_eq_true (show (j:Int)≥Int.ofNat t.length from h1)),←hout _ (fun h=>by omega)];exact .leaf
 have hj:j < t.length:=by omega
 rw[if_neg (by simp;omega),Ze,if_pos (Zas hj),Ze,Int.toNat_natCast]
 have hmem:t.getD j (dflt Za)∈t:=by rw[ZG hj];exact List.getElem_mem hj
 have hsm:=ZrN hk hmem
 rw[if_pos (ZNk hsm),ZP1 hsm]
 have kf:Ze2 t (t.getD j (dflt Za)).2.2.2.2.2.1=true:=ZDu hk
 have vf:Zdk t (t.getD j (dflt Za)).2.2.2.2.2.1=findI (t.getD j (dflt Za)).2.2.2.2.2.1 t 0:=rfl
 have hw:IntKind.i64.wrap ((j:Int)+1)=((j+1:Nat):Int):=Zo (by omega)
 have hr:= @ZNc t j
 have l6:∀(M:Nat→Bool),Goes (Zrh t (j:Int)) (.jmp (.l6 (ZaJ (t.getD j (dflt Za))).2 (rowOf t.length M))) (rowOf t.length fun k=>M k || decide (toOf t j=(k:Int))):=by
  intro M
  rw[Zh,Zrh,Ze]
  by_cases hjmp:(ZaJ (t.getD j (dflt Za))).2=true
  ·have hto:toOf t j=findI (t.getD j (dflt Za)).2.2.2.2.2.1 t 0:=by unfold toOf;rw[if_pos hjmp]
   rw[hto] at hr
   rw[if_pos hjmp,Ze,if_pos (Zas hj),Ze,Int.toNat_natCast,if_pos kf,Ze,vf,hto]
   generalize findI (t.getD j (dflt Za)).2.2.2.2.2.1 t 0=to at hr
   by_cases h2:to≥0
   ·obtain ⟨k,rfl⟩:=Int.eq_ofNat_of_zero_le h2
    rw[if_pos (decide_eq_true h2),Ze,if_pos (by rw[ZL];exact Zas (by omega)),Int.toNat_natCast,ZtX]
    rw[show (rowOf t.length fun l=>M l || decide ((k:Int)=(l:Int)))=rowOf t.length fun l=>M l || (l==k) from Z7 fun l _=>by
     congr 1
     rw[Bool.eq_iff_iff];simp;omega]
    exact .leaf
   ·rw[if_neg (by simpa using h2)]
    rw[show (rowOf t.length fun l=>M l || decide (to=(l:Int)))=rowOf t.length M from Z7 fun l _=>by
     rw[decide_eq_false (by omega),Bool.or_false]]
    exact .leaf
  ·have hto:toOf t j= -1:=by unfold toOf;rw[if_neg hjmp]
   rw[if_neg hjmp,hto]
   rw[show (rowOf t.length fun l=>M l || decide ((-1:Int)=(l:Int)))=rowOf t.length M from Z7 fun l _=>by
     rw[decide_eq_false (by omega),Bool.or_false]]
   exact .leaf
 have hB:∀k,k < t.length→nextB t (j:Int) k=((onOf t j&&decide ((k:Int)=(j:Int)+1)) || decide (toOf t j=(k:Int))):=fun k hk=>by
  unfold nextB
  rw[decide_eq_true (by omega),Bool.true_and,Int.toNat_natCast]
 rw[Zpy,Ze]
 by_cases hon:(ZaJ (t.getD j (dflt Za))).1=true
 ·have hon':onOf t j=true:=hon
  rw[if_pos hon,Ze,hw]
  by_cases hin:j+1 < t.length
  ·rw[if_pos (ZK hin),Ze,ZL,if_pos (Zas hin),Int.toNat_natCast,ZtX]
   have:=l6 fun k=>false || (k==j+1)
   rw[show rowOf t.length (nextB t (j:Int))=rowOf t.length fun k=>(false || (k==j+1)) || decide (toOf t j=(k:Int)) from Z7 fun k hk=>by
    rw[hB k hk,hon',Bool.true_and,Bool.false_or]
    congr 1
    rw[Bool.eq_iff_iff];simp;omega]
   exact this
  ·rw[if_neg (by rw[Zw hin];decide)]
   have:=l6 fun _=>false
   rw[show rowOf t.length (nextB t (j:Int))=rowOf t.length fun k=>false || decide (toOf t j=(k:Int)) from Z7 fun k hk=>by
    rw[hB k hk,hon',Bool.true_and,decide_eq_false (show ¬(k:Int)=(j:Int)+1 by omega)]]
   exact this
 ·have hon':onOf t j=false:=Bool.eq_false_iff.2 hon
  rw[if_neg hon]
  have:=l6 fun _=>false
  rw[show rowOf t.length (nextB t (j:Int))=rowOf t.length fun k=>false || decide (toOf t j=(k:Int)) from Z7 fun k hk=>by
   rw[hB k hk,hon',Bool.false_and]]
  exact this
end Go.Ev
end

section
open Go Go.Ev
namespace Go.Ev
noncomputable section
noncomputable def Zw0:Run:=entG ZhT Zqh (fun a=>Zda a.1 a.2.1) (fun a=>Zbg a.1 a.2.1)
theorem ZzS:EntOK Go.Proofs.Tryz.prog 115 Zw0:=ZH (tb:=Zth) (c:=Zqn) ZKC (by kernel_rfl) (by kernel_rfl) (by kernel_rfl) (fun a=>by kernel_rfl) fun ⟨t,i,_⟩ hk=>Zm (c:=Zqn) (K:=fun v=>(Zqh v,tps (toForms ZhT (t,i,())))) (S:=Zhr t i) (by kernel_rfl) (ZJE t i) (ZKd t i) (ZMx t i hk)
end
end Go.Ev
end

section
open Go Go.Ev
namespace Go.Ev
noncomputable section
def Zh9:Sig:=[(true,(.sl Za)),(false,(.int .i64))]
noncomputable def Zwi:Tbl:=[(115,Zw0)]
theorem ZLs:∀p∈Zwi,EntOK Go.Proofs.Tryz.prog p.1 p.2:=Zg ZzS (Zt)
noncomputable def Zqz:Code:=Go.Proofs.Tryz.f67.body.getD .skip
def Ztt:Tb:=[(4,⟨[2,5,6],[]⟩),(9,⟨[2,5,6,7],[]⟩),(17,⟨[2,5,6,7,8,9],[]⟩)]
inductive ZmR where | l4 (moved:Bool) (is:List Bool) | l9 (k:Int) (moved:Bool) (is:List Bool) | l17 (k:Int) (more:List Bool) (moved:Bool) (j_:Int) (is:List Bool)
def Zb7 (t:List (El Za)) (i:Int):ZmR→JT ZmR (List Bool) |.l4 moved is=>.br moved (.jmp (.l9 (0:Int) false is)) (.leaf is) |.l9 k moved is=>.br (decide (k < (Int.ofNat (List.length is)))) (.br ((decide ((0:Int)≤k))&&(decide (k < (Int.ofNat (List.length is))))) (.br (! (List.getD is (Int.toNat k) (dflt .bool))) (.jmp (.l9 (IntKind.i64.wrap (k+(1:Int))) moved is)) (.br (Zda t k) (.jmp (.l17 k (Zbg t k) moved (0:Int) is)) (.no))) (.no)) (.jmp (.l4 moved is)) |.l17 k more moved j_ is=>.br (decide (j_ < (Int.ofNat (List.length is)))) (.br ((decide ((0:Int)≤j_))&&(decide (j_ < (Int.ofNat (List.length more))))) (.br (List.getD more (Int.toNat j_) (dflt .bool)) (.br ((decide ((0:Int)≤j_))&&(decide (j_ < (Int.ofNat (List.length is))))) (.br (! (List.getD is (Int.toNat j_) (dflt .bool))) (.br ((decide ((0:Int)≤j_))&&(decide (j_ < (Int.ofNat (List.length is))))) (.jmp (.l17 k more true (IntKind.i64.wrap (j_+(1:Int))) (List.set is (Int.toNat j_) true))) (.no)) (.jmp (.l17 k more moved (IntKind.i64.wrap (j_+(1:Int))) is))) (.no)) (.jmp (.l17 k more moved (IntKind.i64.wrap (j_+(1:Int))) is))) (.no)) (.jmp (.l9 (IntKind.i64.wrap (k+(1:Int))) moved is))
def ZtV (t:List (El Za)) (i:Int):JT ZmR (List Bool):=.br (Zda t i) (.jmp (.l4 true (Zbg t i))) (.no)
def Zqi:List Bool→AV:=fun (r:List Bool)=>.rw 4 .bool r
def Zhk (t:List (El Za)) (i:Int):ZmR→Nat×St |.l4 moved is=>(4,⟨mkTm 49 [(2,.pt 3 0 0),(5,.own 6 0 none),(6,.d .bool moved)],[(3,0,.box 42 [.d (.sl Za) t] none),(6,0,.row 4 .bool is false)]⟩) |.l9 k moved is=>(9,⟨mkTm 49 [(2,.pt 3 0 0),(5,.own 6 0 none),(6,.d .bool moved),(7,.d (.int .i64) k)],[(3,0,.box 42 [.d (.sl Za) t] none),(6,0,.row 4 .bool is false)]⟩) |.l17 k more moved j_ is=>(17,⟨mkTm 49 [(2,.pt 3 0 0),(5,.own 6 0 none),(6,.d .bool moved),(7,.d (.int .i64) k),(8,.own 9 0 none),(9,.d (.int .i64) j_)],[(3,0,.box 42 [.d (.sl Za) t] none),(6,0,.row 4 .bool is false),(9,0,.row 4 .bool more false)]⟩)
theorem ZLr (t:List (El Za)) (i:Int) (L:Lt):entryA Go.Proofs.Tryz.prog (clOf Zwi) Ztt Go.Proofs.Tryz.f67 Zqz L (toForms Zh9 (t,i,()))=(ZtV t i).run (fun v=>some (Zqi v,tps (toForms Zh9 (t,i,())))) fun j=>L (Zhk t i j).1 (Zhk t i j).2:=by kernel_rfl
theorem ZKq (t:List (El Za)) (i:Int):∀(L:Lt) (j:ZmR),procOf (procsF Go.Proofs.Tryz.prog (clOf Zwi) Ztt Go.Proofs.Tryz.f67 Zqz (toForms Zh9 (t,i,()))) (Zhk t i j).1 L (Zhk t i j).2=(Zb7 t i j).run (fun v=>some (Zqi v,tps (toForms Zh9 (t,i,())))) fun j=>L (Zhk t i j).1 (Zhk t i j).2 | L,.l4 moved is=>by kernel_rfl | L,.l9 k moved is=>by kernel_rfl | L,.l17 k more moved j_ is=>by kernel_rfl
end
end Go.Ev
end

section
open Go
namespace Go.Ev
theorem ZbK {n:Nat} {M:Nat→Bool} {i:Nat} (h:i < n):List.getD (rowOf n M) i (dflt .bool)=M i:=by
 simp[List.getD,ZpK h]
theorem ZDG {n:Nat} {M:Nat→Bool} {i:Nat} {b:Bool} :(rowOf n M).set i b=rowOf n fun j=>if j=i then b else M j:=by
 apply List.ext_getElem?
 intro j
 rw[List.getElem?_set,ZL]
 by_cases hj:j < n
 ·rw[ZpK hj,ZpK hj]
  by_cases hi:i=j
  ·subst hi;rw[if_pos rfl,if_pos hj,if_pos rfl]
  ·rw[if_neg hi,if_neg (fun e=>hi e.symm)]
 ·rw[List.getElem?_eq_none (by rw[ZL];omega),List.getElem?_eq_none (by rw[ZL];omega)]
  by_cases hi:i=j
  ·rw[if_pos hi,if_neg (by omega)]
  ·rw[if_neg hi]
end Go.Ev
end

section
open Go
namespace Go.Ev
noncomputable def Zaq (t:List (El Za)) (i:Int):List Bool:=rowOf t.length (fromB t i)
def Zcv (t:List (El Za)) (i:Int):Bool:=flowOK t
theorem ZM9 (t:List (El Za)) (i:Int) (hk:Zcv t i=true):Goes (Zb7 t i) (ZtV t i) (Zaq t i):=by
 have hlen:=Zbx hk
 generalize hn:t.length=n at hlen
 let OK:(Nat→Bool)→(Nat→Bool)→Bool→Prop:=fun M0 M moved=>(∀j,nextB t i j=true→M j=true)∧(∀j,M j=true→Come (fun k j=>nextB t (k:Int) j) (nextB t i) j)∧(moved=false→M=M0)∧(moved=true→card n M0 < card n M)
 have hltM:∀ {M0 M moved},OK M0 M moved→∀j,M j=true→j < n:=fun h j hj=>by
  have:=ZGV (n:=t.length) (fun j=>ZeT) (fun k j=>ZeT) (h.2.1 j hj)
  omega
 have loop:∀m,∀M:Nat→Bool,n - card n M=m→(∀j,nextB t i j=true→M j=true)→(∀j,M j=true→Come (fun k j=>nextB t (k:Int) j) (nextB t i) j)→Goes (Zb7 t i) (.jmp (.l4 true (rowOf n M))) (Zaq t i):=by
  intro m
  induction m using Nat.strongRecOn with
  | _ m ih=>
  intro M0 hm hA hC
  have inner:∀k,k < n→∀Z:Prop,(∀M moved,OK M0 M moved→(moved=false→Z∧∀j,nextB t (k:Int) j=true→M0 j=true)→Goes (Zb7 t i) (.jmp (.l9 ((k+1:Nat):Int) moved (rowOf n M))) (Zaq t i))→
    ∀j,j≤n→∀M moved,M k=true→OK M0 M moved→(moved=false→Z∧∀x,x < j→nextB t (k:Int) x=true→M0 x=true)→Goes (Zb7 t i) (.jmp (.l17 (k:Int) (rowOf n (nextB t (k:Int))) moved (j:Int) (rowOf n M))) (Zaq t i):=by
   intro k hkn Z hz
   refine down ?_ fun j hj ih2=>?_
   ·intro M moved hMk hok hcl
    rw[Zh,Zb7,Ze,ZL,if_neg (by rw[Zw (Nat.lt_irrefl _)];decide),Zo (by omega)]
    exact hz M moved hok fun hm=>⟨(hcl hm).1,fun j hj=>(hcl hm).2 j (by have:=ZeT hj;omega) hj⟩
   ·intro M moved hMk hok hcl
    rw[Zh,Zb7,Ze,ZL,if_pos (ZK hj),Ze,ZL,if_pos (Zas hj),Ze,Int.toNat_natCast,ZbK hj,Zo (by omega)]
    by_cases hN:nextB t (k:Int) j=true
    ·rw[if_pos hN,Ze,if_pos (Zas hj),Ze,ZbK hj]
     cases hMj:M j with
     | true=>
      rw[if_neg (by decide)]
      refine ih2 M moved hMk hok fun hm=>⟨(hcl hm).1,fun x hx hxN=>?_⟩
      by_cases hxj:x=j
      ·subst hxj;rw[←hok.2.2.1 hm];exact hMj
      ·exact (hcl hm).2 x (by omega) hxN
     | false=>
      rw[if_pos (by decide),Ze,if_pos (Zas hj),ZtX]
      have hca:=Zos hMj hj
      refine ih2 (fun x=>M x || (x==j)) true (by rw[hMk];rfl) ⟨fun x hx=>(show (M x || (x==j))=true by rw[hok.1 x hx];rfl),fun x hx=>?_,fun h=>(by cases h),fun _=>?_⟩ (fun h=>by cases h)
      ·simp only[Bool.or_eq_true,beq_iff_eq] at hx
       rcases hx with hx | hx
       ·exact hok.2.1 x hx
       ·subst hx;exact .step (hok.2.1 k hMk) hN
      ·cases moved with
       | true=>have:=hok.2.2.2 rfl;omega
       | false=>rw[hok.2.2.1 rfl] at hca;rw[hok.2.2.1 rfl];omega
    ·rw[if_neg hN]
     refine ih2 M moved hMk hok fun hm=>⟨(hcl hm).1,fun x hx hxN=>?_⟩
     by_cases hxj:x=j
     ·subst hxj;exact absurd hxN hN
     ·exact (hcl hm).2 x (by omega) hxN
  have pass:∀k,k≤n→∀M moved,OK M0 M moved→(moved=false→∀k' j,k' < k→M0 k'=true→nextB t (k':Int) j=true→M0 j=true)→Goes (Zb7 t i) (.jmp (.l9 (k:Int) moved (rowOf n M))) (Zaq t i):=by
   refine down ?_ fun k hkn ih2=>?_
   ·intro M moved hok hcl
    rw[Zh,Zb7,Ze,ZL,if_neg (by rw[Zw (Nat.lt_irrefl _)];decide)]
    cases moved with
    | true=>
     have h1:=hok.2.2.2 rfl
     have h2:= @ZfC n M
     exact ih (n - card n M) (by omega) M rfl hok.1 hok.2.1
    | false=>
     have e:=hok.2.2.1 rfl
     subst e
     rw[Zh,Zb7,Ze,if_neg (by decide)]
     have hv:rowOf n M=Zaq t i:=by
      unfold Zaq fromB
      rw[hn]
      exact Z7 fun j _=>Zq8 hok.1 (fun k j hk hj=>hcl rfl k j (hltM hok k hk) hk hj) hok.2.1 j
     rw[hv];exact .leaf
   ·intro M moved hok hcl
    rw[Zh,Zb7,Ze,ZL,if_pos (ZK hkn),Ze,if_pos (Zas hkn),Ze,Int.toNat_natCast,ZbK hkn]
    cases hMk:M k with
    | false=>
     rw[if_pos (by decide),Zo (by omega)]
     refine ih2 M moved hok fun hm k' j hk' hk1 hj=>?_
     by_cases e:k'=k
     ·subst e;rw[←hok.2.2.1 hm,hMk] at hk1;cases hk1
     ·exact hcl hm k' j (by omega) hk1 hj
    | true=>
     have kn:Zda t (k:Int)=true:=hk
     rw[if_neg (by decide),Ze,if_pos kn]
     have hvn:Zbg t (k:Int)=rowOf n (nextB t (k:Int)):=by unfold Zbg;rw[hn]
     rw[hvn]
     refine inner k hkn (∀k' j,k' < k→M0 k'=true→nextB t (k':Int) j=true→M0 j=true) (fun M' moved' hok' hcl'=>ih2 M' moved' hok' fun hm k' j hk' hk1 hj=>?_) 0 (Nat.zero_le _) M moved hMk hok (fun hm=>⟨hcl hm,fun x hx=>by omega⟩)
     by_cases e:k'=k
     ·subst e;exact (hcl' hm).2 j hj
     ·exact (hcl' hm).1 k' j (by omega) hk1 hj
  rw[Zh,Zb7,Ze,if_pos rfl]
  exact pass 0 (Nat.zero_le _) M0 false ⟨hA,hC,fun _=>rfl,fun h=>by cases h⟩ fun _ k' j h=>by omega
 have kn:Zda t i=true:=hk
 unfold ZtV
 rw[Ze,if_pos kn]
 have hvn:Zbg t i=rowOf n (nextB t i):=by unfold Zbg;rw[hn]
 rw[hvn]
 exact loop _ (nextB t i) rfl (fun j h=>h) (fun j h=>.start h)
end Go.Ev
end

section
open Go Go.Ev
namespace Go.Ev
noncomputable section
noncomputable def Zw8:Run:=entG Zh9 Zqi (fun a=>Zcv a.1 a.2.1) (fun a=>Zaq a.1 a.2.1)
theorem ZzT:EntOK Go.Proofs.Tryz.prog 67 Zw8:=ZH (tb:=Ztt) (c:=Zqz) ZLs (by kernel_rfl) (by kernel_rfl) (by kernel_rfl) (fun a=>by kernel_rfl) fun ⟨t,i,_⟩ hk=>Zm (c:=Zqz) (K:=fun v=>(Zqi v,tps (toForms Zh9 (t,i,())))) (S:=Zhk t i) (by kernel_rfl) (ZLr t i) (ZKq t i) (ZM9 t i hk)
end
end Go.Ev
end

section
open Go Go.Ev
namespace Go.Ev
noncomputable section
def Zf2:Sig:=[(true,Zb),(true,Zb)]
noncomputable def ZsL:Tbl:=[]
theorem ZIH:∀p∈ZsL,EntOK Go.Proofs.Tryz.prog p.1 p.2:=Zt
noncomputable def ZnR:Code:=Go.Proofs.Tryz.f116.body.getD .skip
def ZrL:Tb:=[]
def ZzW (a:El Zb) (b:El Zb):Empty→JT Empty (Bool):=fun j=>nomatch j
def Zxv (a:El Zb) (b:El Zb):JT Empty (Bool):=.br (a.1 !=b.1) (.br (a.2.2.2.1==b.2.2.2.1) (.br a.2.2.2.2.1 (.leaf true) (.leaf b.2.2.2.2.1)) (.leaf false)) (.leaf false)
def ZhQ (a:El Zb) (b:El Zb):Bool:=bif (a.1 !=b.1) then bif (a.2.2.2.1==b.2.2.2.1) then bif a.2.2.2.2.1 then true else b.2.2.2.2.1 else false else false
theorem ZL5 (a:El Zb) (b:El Zb):Goes (ZzW a b) (Zxv a b) (ZhQ a b):=Goes.br (Goes.br (Goes.br (Goes.leaf) (Goes.leaf)) (Goes.leaf)) (Goes.leaf)
def Zns:Bool→AV:=fun (r:Bool)=>.d .bool r
def ZfN (a:El Zb) (b:El Zb):Empty→Nat×St:=fun j=>nomatch j
theorem ZGl (a:El Zb) (b:El Zb) (L:Lt):entryA Go.Proofs.Tryz.prog (clOf ZsL) ZrL Go.Proofs.Tryz.f116 ZnR L (toForms Zf2 (a,b,()))=(Zxv a b).run (fun v=>some (Zns v,tps (toForms Zf2 (a,b,())))) fun j=>L (ZfN a b j).1 (ZfN a b j).2:=by kernel_rfl
theorem ZI4 (a:El Zb) (b:El Zb):∀(L:Lt) (j:Empty),procOf (procsF Go.Proofs.Tryz.prog (clOf ZsL) ZrL Go.Proofs.Tryz.f116 ZnR (toForms Zf2 (a,b,()))) (ZfN a b j).1 L (ZfN a b j).2=(ZzW a b j).run (fun v=>some (Zns v,tps (toForms Zf2 (a,b,())))) fun j=>L (ZfN a b j).1 (ZfN a b j).2:=fun L j=>nomatch j
noncomputable def ZAw:Run:=entT Zf2 Zns (fun a=>ZhQ a.1 a.2.1)
theorem ZHB:EntOK Go.Proofs.Tryz.prog 116 ZAw:=Zav (tb:=ZrL) (c:=ZnR) ZIH (by kernel_rfl) (by kernel_rfl) (by kernel_rfl) (fun a=>by kernel_rfl) fun ⟨a,b,_⟩=>Zm (c:=ZnR) (K:=fun v=>(Zns v,tps (toForms Zf2 (a,b,())))) (S:=ZfN a b) (by kernel_rfl) (ZGl a b) (ZI4 a b) (ZL5 a b)
end
end Go.Ev
end

section
open Go Go.Ev
namespace Go.Ev
noncomputable section
def Zdu:Sig:=[(true,Zc),(true,Zb),(true,Zb)]
noncomputable def Zpg:Tbl:=[(67,Zw8)]
theorem ZBW:∀p∈Zpg,EntOK Go.Proofs.Tryz.prog p.1 p.2:=Zg ZzT (Zt)
noncomputable def ZjQ:Code:=Go.Proofs.Tryz.f117.body.getD .skip
def Zm0:Tb:=[]
def Zvp (p:El Zc) (a:El Zb) (b:El Zb):Empty→JT Empty (Bool):=fun j=>nomatch j
def ZtR (p:El Zc) (a:El Zb) (b:El Zb):JT Empty (Bool):=.br (a.1 !=b.1) (.leaf false) (.br ((a.1==b.1)&&((a.2.1==b.2.1)&&((a.2.2.1==b.2.2.1)&&((a.2.2.2.1==b.2.2.2.1)&&((a.2.2.2.2.1==b.2.2.2.2.1)&&(a.2.2.2.2.2==b.2.2.2.2.2)))))) (.leaf true) (.br (a.2.1==b.2.1) (.br (decide (b.2.2.1 > a.2.2.1)) (.leaf true) (.br ((decide ((0:Int)≤a.1))&&(decide (a.1 < (Int.ofNat (List.length p.2))))) (.br (Zcv (List.getD p.2 (Int.toNat a.1) (dflt (.sl Za))) a.2.1) (.br ((decide ((0:Int)≤b.2.1))&&(decide (b.2.1 < (Int.ofNat (List.length (Zaq (List.getD p.2 (Int.toNat a.1) (dflt (.sl Za))) a.2.1)))))) (.leaf (List.getD (Zaq (List.getD p.2 (Int.toNat a.1) (dflt (.sl Za))) a.2.1) (Int.toNat b.2.1) (dflt .bool))) (.no)) (.no)) (.no))) (.br ((decide ((0:Int)≤a.1))&&(decide (a.1 < (Int.ofNat (List.length p.2))))) (.br (Zcv (List.getD p.2 (Int.toNat a.1) (dflt (.sl Za))) a.2.1) (.br ((decide ((0:Int)≤b.2.1))&&(decide (b.2.1 < (Int.ofNat (List.length (Zaq (List.getD p.2 (Int.toNat a.1) (dflt (.sl Za))) a.2.1)))))) (.leaf (List.getD (Zaq (List.getD p.2 (Int.toNat a.1) (dflt (.sl Za))) a.2.1) (Int.toNat b.2.1) (dflt .bool))) (.no)) (.no)) (.no))))
def ZeN (p:El Zc) (a:El Zb) (b:El Zb):Bool:=bif (a.1 !=b.1) then false else bif ((a.1==b.1)&&((a.2.1==b.2.1)&&((a.2.2.1==b.2.2.1)&&((a.2.2.2.1==b.2.2.2.1)&&((a.2.2.2.2.1==b.2.2.2.2.1)&&(a.2.2.2.2.2==b.2.2.2.2.2)))))) then true else bif (a.2.1==b.2.1) then bif (decide (b.2.2.1 > a.2.2.1)) then true else bif ((decide ((0:Int)≤a.1))&&(decide (a.1 < (Int.ofNat (List.length p.2))))) then bif (Zcv (List.getD p.2 (Int.toNat a.1) (dflt (.sl Za))) a.2.1) then bif ((decide ((0:Int)≤b.2.1))&&(decide (b.2.1 < (Int.ofNat (List.length (Zaq (List.getD p.2 (Int.toNat a.1) (dflt (.sl Za))) a.2.1)))))) then (List.getD (Zaq (List.getD p.2 (Int.toNat a.1) (dflt (.sl Za))) a.2.1) (Int.toNat b.2.1) (dflt .bool)) else false else false else false else bif ((decide ((0:Int)≤a.1))&&(decide (a.1 < (Int.ofNat (List.length p.2))))) then bif (Zcv (List.getD p.2 (Int.toNat a.1) (dflt (.sl Za))) a.2.1) then bif ((decide ((0:Int)≤b.2.1))&&(decide (b.2.1 < (Int.ofNat (List.length (Zaq (List.getD p.2 (Int.toNat a.1) (dflt (.sl Za))) a.2.1)))))) then (List.getD (Zaq (List.getD p.2 (Int.toNat a.1) (dflt (.sl Za))) a.2.1) (Int.toNat b.2.1) (dflt .bool)) else false else false else false
def ZeM (p:El Zc) (a:El Zb) (b:El Zb):Bool:=bif (a.1 !=b.1) then true else bif ((a.1==b.1)&&((a.2.1==b.2.1)&&((a.2.2.1==b.2.2.1)&&((a.2.2.2.1==b.2.2.2.1)&&((a.2.2.2.2.1==b.2.2.2.2.1)&&(a.2.2.2.2.2==b.2.2.2.2.2)))))) then true else bif (a.2.1==b.2.1) then bif (decide (b.2.2.1 > a.2.2.1)) then true else bif ((decide ((0:Int)≤a.1))&&(decide (a.1 < (Int.ofNat (List.length p.2))))) then bif (Zcv (List.getD p.2 (Int.toNat a.1) (dflt (.sl Za))) a.2.1) then bif ((decide ((0:Int)≤b.2.1))&&(decide (b.2.1 < (Int.ofNat (List.length (Zaq (List.getD p.2 (Int.toNat a.1) (dflt (.sl Za))) a.2.1)))))) then true else false else false else false else bif ((decide ((0:Int)≤a.1))&&(decide (a.1 < (Int.ofNat (List.length p.2))))) then bif (Zcv (List.getD p.2 (Int.toNat a.1) (dflt (.sl Za))) a.2.1) then bif ((decide ((0:Int)≤b.2.1))&&(decide (b.2.1 < (Int.ofNat (List.length (Zaq (List.getD p.2 (Int.toNat a.1) (dflt (.sl Za))) a.2.1)))))) then true else false else false else false
theorem ZEQ (p:El Zc) (a:El Zb) (b:El Zb) (hk:ZeM p a b=true):Goes (Zvp p a b) (ZtR p a b) (ZeN p a b):=Goes.brk hk (fun hk=>Goes.leaf) (fun hk=>Goes.brk hk (fun hk=>Goes.leaf) (fun hk=>Goes.brk hk (fun hk=>Goes.brk hk (fun hk=>Goes.leaf) (fun hk=>Goes.brk hk (fun hk=>Goes.brk hk (fun hk=>Goes.brk hk (fun hk=>Goes.leaf) (fun hk=>Goes.nok hk)) (fun hk=>Goes.nok hk)) (fun hk=>Goes.nok hk))) (fun hk=>Goes.brk hk (fun hk=>Goes.brk hk (fun hk=>Goes.brk hk (fun hk=>Goes.leaf) (fun hk=>Goes.nok hk)) (fun hk=>Goes.nok hk)) (fun hk=>Goes.nok hk))))
def ZjX:Bool→AV:=fun (r:Bool)=>.d .bool r
def ZcZ (p:El Zc) (a:El Zb) (b:El Zb):Empty→Nat×St:=fun j=>nomatch j
theorem ZBU (p:El Zc) (a:El Zb) (b:El Zb) (L:Lt):entryA Go.Proofs.Tryz.prog (clOf Zpg) Zm0 Go.Proofs.Tryz.f117 ZjQ L (toForms Zdu (p,a,b,()))=(ZtR p a b).run (fun v=>some (ZjX v,tps (toForms Zdu (p,a,b,())))) fun j=>L (ZcZ p a b j).1 (ZcZ p a b j).2:=by kernel_rfl
theorem ZDB (p:El Zc) (a:El Zb) (b:El Zb):∀(L:Lt) (j:Empty),procOf (procsF Go.Proofs.Tryz.prog (clOf Zpg) Zm0 Go.Proofs.Tryz.f117 ZjQ (toForms Zdu (p,a,b,()))) (ZcZ p a b j).1 L (ZcZ p a b j).2=(Zvp p a b j).run (fun v=>some (ZjX v,tps (toForms Zdu (p,a,b,())))) fun j=>L (ZcZ p a b j).1 (ZcZ p a b j).2:=fun L j=>nomatch j
noncomputable def ZvX:Run:=entG Zdu ZjX (fun a=>ZeM a.1 a.2.1 a.2.2.1) (fun a=>ZeN a.1 a.2.1 a.2.2.1)
theorem ZBP:EntOK Go.Proofs.Tryz.prog 117 ZvX:=ZH (tb:=Zm0) (c:=ZjQ) ZBW (by kernel_rfl) (by kernel_rfl) (by kernel_rfl) (fun a=>by kernel_rfl) fun ⟨p,a,b,_⟩ hk=>Zm (c:=ZjQ) (K:=fun v=>(ZjX v,tps (toForms Zdu (p,a,b,())))) (S:=ZcZ p a b) (by kernel_rfl) (ZBU p a b) (ZDB p a b) (ZEQ p a b hk)
end
end Go.Ev
end

section
open Go Go.Ev
namespace Go.Ev
noncomputable section
def Zh2:Sig:=[(true,Zc),(false,(.sl Zb)),(false,(.int .i64))]
noncomputable def ZwD:Tbl:=[(116,ZAw),(117,ZvX)]
theorem ZJh:∀p∈ZwD,EntOK Go.Proofs.Tryz.prog p.1 p.2:=Zg ZHB (Zg ZBP (Zt))
noncomputable def Zru:Code:=Go.Proofs.Tryz.f68.body.getD .skip
def ZtL:Tb:=[(8,⟨[1,2,3,7,8,9,95,105,147,156],[]⟩),(14,⟨[1,2,3,7,8,10,95,105,147,156],[]⟩),(19,⟨[1,2,3,7,8,10,11,95,105,147,156],[]⟩),(24,⟨[1,2,3,7,8,10,11,12,147,156],[]⟩),(31,⟨[1,2,7,8,13,147,156],[]⟩),(36,⟨[1,2,7,8,13,14],[]⟩)]
inductive Zmo where | l8 (i:Int) (is:List Bool) | l14 (is:List Bool) (moved:Bool) | l19 (is:List Bool) (i:Int) (moved:Bool) | l24 (is:List Bool) (moved:Bool) (k:Int) (i:Int) | l31 (is:List Bool) (i:Int) (out:List Bool) | l36 (is:List Bool) (k:Int) (out:List Bool) (i:Int)
def ZaX (p:El Zc) (l:List (El Zb)) (a:Int):Zmo→JT Zmo (List Bool) |.l8 i is=>.br (decide (i < (Int.ofNat (List.length l)))) (.br ((decide ((0:Int)≤a))&&(decide (a < (Int.ofNat (List.length l))))) (.br ((decide ((0:Int)≤i))&&(decide (i < (Int.ofNat (List.length l))))) (.br ((decide ((0:Int)≤i))&&(decide (i < (Int.ofNat (List.length is))))) (.jmp (.l8 (IntKind.i64.wrap (i+(1:Int))) (List.set is (Int.toNat i) (ZhQ (List.getD l (Int.toNat a) (dflt Zb)) (List.getD l (Int.toNat i) (dflt Zb)))))) (.no)) (.no)) (.no)) (.jmp (.l14 is true)) |.l14 is moved=>.br moved (.jmp (.l19 is (0:Int) false)) (.jmp (.l31 is (0:Int) (List.replicate (List.length l) false))) |.l19 is i moved=>.br (decide (i < (Int.ofNat (List.length l)))) (.jmp (.l24 is moved (0:Int) i)) (.jmp (.l14 is moved)) |.l24 is moved k i=>.br (decide (k < (Int.ofNat (List.length l)))) (.br ((decide ((0:Int)≤i))&&(decide (i < (Int.ofNat (List.length is))))) (.br (List.getD is (Int.toNat i) (dflt .bool)) (.br ((decide ((0:Int)≤k))&&(decide (k < (Int.ofNat (List.length is))))) (.br (! (List.getD is (Int.toNat k) (dflt .bool))) (.br ((decide ((0:Int)≤k))&&(decide (k < (Int.ofNat (List.length l))))) (.br ((decide ((0:Int)≤a))&&(decide (a < (Int.ofNat (List.length l))))) (.br ((List.getD l (Int.toNat k) (dflt Zb)).1 !=(List.getD l (Int.toNat a) (dflt Zb)).1) (.br ((decide ((0:Int)≤i))&&(decide (i < (Int.ofNat (List.length l))))) (.br ((decide ((0:Int)≤k))&&(decide (k < (Int.ofNat (List.length l))))) (.br (ZhQ (List.getD l (Int.toNat i) (dflt Zb)) (List.getD l (Int.toNat k) (dflt Zb))) (.br ((decide ((0:Int)≤k))&&(decide (k < (Int.ofNat (List.length is))))) (.jmp (.l24 (List.set is (Int.toNat k) true) true (IntKind.i64.wrap (k+(1:Int))) i)) (.no)) (.br ((decide ((0:Int)≤i))&&(decide (i < (Int.ofNat (List.length l))))) (.br ((decide ((0:Int)≤k))&&(decide (k < (Int.ofNat (List.length l))))) (.br (ZeM p (List.getD l (Int.toNat i) (dflt Zb)) (List.getD l (Int.toNat k) (dflt Zb))) (.br (ZeN p (List.getD l (Int.toNat i) (dflt Zb)) (List.getD l (Int.toNat k) (dflt Zb))) (.br ((decide ((0:Int)≤k))&&(decide (k < (Int.ofNat (List.length is))))) (.jmp (.l24 (List.set is (Int.toNat k) true) true (IntKind.i64.wrap (k+(1:Int))) i)) (.no)) (.jmp (.l24 is moved (IntKind.i64.wrap (k+(1:Int))) i))) (.no)) (.no)) (.no))) (.no)) (.no)) (.jmp (.l24 is moved (IntKind.i64.wrap (k+(1:Int))) i))) (.no)) (.no)) (.jmp (.l24 is moved (IntKind.i64.wrap (k+(1:Int))) i))) (.no)) (.jmp (.l19 is (IntKind.i64.wrap (i+(1:Int))) moved))) (.no)) (.jmp (.l19 is (IntKind.i64.wrap (i+(1:Int))) moved)) |.l31 is i out=>.br (decide (i < (Int.ofNat (List.length l)))) (.jmp (.l36 is (0:Int) out i)) (.leaf out) |.l36 is k out i=>.br (decide (k < (Int.ofNat (List.length l)))) (.br ((decide ((0:Int)≤i))&&(decide (i < (Int.ofNat (List.length l))))) (.br ((decide ((0:Int)≤a))&&(decide (a < (Int.ofNat (List.length l))))) (.br ((List.getD l (Int.toNat i) (dflt Zb)).1==(List.getD l (Int.toNat a) (dflt Zb)).1) (.br ((decide ((0:Int)≤i))&&(decide (i < (Int.ofNat (List.length out))))) (.br (List.getD out (Int.toNat i) (dflt .bool)) (.br ((decide ((0:Int)≤i))&&(decide (i < (Int.ofNat (List.length out))))) (.jmp (.l36 is (IntKind.i64.wrap (k+(1:Int))) (List.set out (Int.toNat i) true) i)) (.no)) (.br ((decide ((0:Int)≤k))&&(decide (k < (Int.ofNat (List.length is))))) (.br (List.getD is (Int.toNat k) (dflt .bool)) (.br ((decide ((0:Int)≤k))&&(decide (k < (Int.ofNat (List.length l))))) (.br ((decide ((0:Int)≤i))&&(decide (i < (Int.ofNat (List.length l))))) (.br ((decide ((0:Int)≤i))&&(decide (i < (Int.ofNat (List.length out))))) (.jmp (.l36 is (IntKind.i64.wrap (k+(1:Int))) (List.set out (Int.toNat i) (ZhQ (List.getD l (Int.toNat k) (dflt Zb)) (List.getD l (Int.toNat i) (dflt Zb)))) i)) (.no)) (.no)) (.no)) (.br ((decide ((0:Int)≤i))&&(decide (i < (Int.ofNat (List.length out))))) (.jmp (.l36 is (IntKind.i64.wrap (k+(1:Int))) (List.set out (Int.toNat i) false) i)) (.no))) (.no))) (.no)) (.jmp (.l31 is (IntKind.i64.wrap (i+(1:Int))) out))) (.no)) (.no)) (.jmp (.l31 is (IntKind.i64.wrap (i+(1:Int))) out))
def Zt9 (p:El Zc) (l:List (El Zb)) (a:Int):JT Zmo (List Bool):=.br ((((Int.ofNat (List.length l))==(Int.ofNat (List.length l)))&&(decide ((0:Int)≤(Int.ofNat (List.length l)))))&&(decide (((Int.ofNat (List.length l))*(1:Int))≤(limit:Int)))) (.br (decide (a < (0:Int))) (.leaf (List.replicate (List.length l) false)) (.br (decide (a≥(Int.ofNat (List.length l)))) (.leaf (List.replicate (List.length l) false)) (.br ((((Int.ofNat (List.length l))==(Int.ofNat (List.length l)))&&(decide ((0:Int)≤(Int.ofNat (List.length l)))))&&(decide (((Int.ofNat (List.length l))*(1:Int))≤(limit:Int)))) (.jmp (.l8 (0:Int) (List.replicate (List.length l) false))) (.no)))) (.no)
def Zq5:List Bool→AV:=fun (r:List Bool)=>.rw 4 .bool r
def Zhl (p:El Zc) (l:List (El Zb)) (a:Int):Zmo→Nat×St |.l8 i is=>(8,⟨mkTm 161 [(1,.d (.sl Zb) l),(2,.d (.int .i64) a),(3,.pt 4 0 0),(7,.own 8 0 none),(8,.own 9 0 none),(9,.d (.int .i64) i)],[(4,0,.box 26 [.d (.sl Zy) p.1,.d (.sl (.sl Za)) p.2] none),(8,0,.row 4 .bool (List.replicate (List.length l) false) false),(9,0,.row 4 .bool is false)]⟩) |.l14 is moved=>(14,⟨mkTm 161 [(1,.d (.sl Zb) l),(2,.d (.int .i64) a),(3,.pt 4 0 0),(7,.own 8 0 none),(8,.own 9 0 none),(10,.d .bool moved)],[(4,0,.box 26 [.d (.sl Zy) p.1,.d (.sl (.sl Za)) p.2] none),(8,0,.row 4 .bool (List.replicate (List.length l) false) false),(9,0,.row 4 .bool is false)]⟩) |.l19 is i moved=>(19,⟨mkTm 161 [(1,.d (.sl Zb) l),(2,.d (.int .i64) a),(3,.pt 4 0 0),(7,.own 8 0 none),(8,.own 9 0 none),(10,.d .bool moved),(11,.d (.int .i64) i)],[(4,0,.box 26 [.d (.sl Zy) p.1,.d (.sl (.sl Za)) p.2] none),(8,0,.row 4 .bool (List.replicate (List.length l) false) false),(9,0,.row 4 .bool is false)]⟩) |.l24 is moved k i=>(24,⟨mkTm 161 [(1,.d (.sl Zb) l),(2,.d (.int .i64) a),(3,.pt 4 0 0),(7,.own 8 0 none),(8,.own 9 0 none),(10,.d .bool moved),(11,.d (.int .i64) i),(12,.d (.int .i64) k)],[(4,0,.box 26 [.d (.sl Zy) p.1,.d (.sl (.sl Za)) p.2] none),(8,0,.row 4 .bool (List.replicate (List.length l) false) false),(9,0,.row 4 .bool is false)]⟩) |.l31 is i out=>(31,⟨mkTm 161 [(1,.d (.sl Zb) l),(2,.d (.int .i64) a),(7,.own 8 0 none),(8,.own 9 0 none),(13,.d (.int .i64) i)],[(8,0,.row 4 .bool out false),(9,0,.row 4 .bool is false)]⟩) |.l36 is k out i=>(36,⟨mkTm 161 [(1,.d (.sl Zb) l),(2,.d (.int .i64) a),(7,.own 8 0 none),(8,.own 9 0 none),(13,.d (.int .i64) i),(14,.d (.int .i64) k)],[(8,0,.row 4 .bool out false),(9,0,.row 4 .bool is false)]⟩)
theorem ZKf (p:El Zc) (l:List (El Zb)) (a:Int) (L:Lt):entryA Go.Proofs.Tryz.prog (clOf ZwD) ZtL Go.Proofs.Tryz.f68 Zru L (toForms Zh2 (p,l,a,()))=(Zt9 p l a).run (fun v=>some (Zq5 v,tps (toForms Zh2 (p,l,a,())))) fun j=>L (Zhl p l a j).1 (Zhl p l a j).2:=by kernel_rfl
theorem ZKU (p:El Zc) (l:List (El Zb)) (a:Int):∀(L:Lt) (j:Zmo),procOf (procsF Go.Proofs.Tryz.prog (clOf ZwD) ZtL Go.Proofs.Tryz.f68 Zru (toForms Zh2 (p,l,a,()))) (Zhl p l a j).1 L (Zhl p l a j).2=(ZaX p l a j).run (fun v=>some (Zq5 v,tps (toForms Zh2 (p,l,a,())))) fun j=>L (Zhl p l a j).1 (Zhl p l a j).2 | L,.l8 i is=>by kernel_rfl | L,.l14 is moved=>by kernel_rfl | L,.l19 is i moved=>by kernel_rfl | L,.l24 is moved k i=>by kernel_rfl | L,.l31 is i out=>by kernel_rfl | L,.l36 is k out i=>by kernel_rfl
end
end Go.Ev
end

section
open Go
namespace Go.Ev
theorem ZwB (l:List Acc) (i j:Nat):ZhQ (accA l i) (accA l j)=clB l i j:=rfl
theorem ZgK {p:El Zc} (h:smallAll p=true) {i:Nat} (hi:i < (ofC p).length):
  0≤thA (ofC p) i∧thA (ofC p) i < (p.2.length:Int)∧flowOK (thrOf p (ofC p) i)=true∧0≤inA (ofC p) i∧inA (ofC p) i < ((thrOf p (ofC p) i).length:Int):=by
 have hA:=smallA h
 have hm:accA (ofC p) i∈ofC p:=by unfold accA;rw[ZG hi];exact List.getElem_mem hi
 obtain ⟨u,x,j,y,h1,h2,h3,h4,h5⟩:=ZLU hm
 have hth:thA (ofC p) i=(u:Int):=h4
 have hin:inA (ofC p) i=(j:Int):=h5
 have hu:=(List.getElem?_eq_some_iff.1 h1).1
 have hj:=(List.getElem?_eq_some_iff.1 h2).1
 have ht:thrOf p (ofC p) i=x:=by
  unfold thrOf
  rw[hth,Int.toNat_natCast,List.getD_eq_getElem?_getD,h1];rfl
 rw[ht]
 exact ⟨by omega,by omega,ZuO (hA.thr x (List.mem_of_getElem? h1)),by omega,by omega⟩
theorem ZSG {p:El Zc} {i k:Nat} (hi:i < (ofC p).length) (hk:k < (ofC p).length) (e:accA (ofC p) i=accA (ofC p) k):i=k:=by
 have ho:=List.pairwise_iff_getElem.1 (ZQD p)
 have gi:accA (ofC p) i=(ofC p)[i]:=by unfold accA;rw[ZG hi]
 have gk:accA (ofC p) k=(ofC p)[k]:=by unfold accA;rw[ZG hk]
 have irr:∀a:El Zb,¬ltAX a a:=fun a h=>by
  have:∀t k q:Int,¬ltNX t k q t k q:=fun t k q h=>by
   rcases h with h | ⟨_,h | ⟨_,h⟩⟩ <;> omega
  exact this _ _ _ h
 rw[gi,gk] at e
 by_cases h:i=k
 ·exact h
 ·exfalso
  by_cases hl:i < k
  ·have:=ho i k hi hk hl
   rw[e] at this
   exact irr _ this
  ·have:=ho k i hk hi (by omega)
   rw[←e] at this
   exact irr _ this
theorem ZO0 {p:El Zc} (h:smallAll p=true) {i k:Nat} (hi:i < (ofC p).length) (hk:k < (ofC p).length):
  ZeM p (accA (ofC p) i) (accA (ofC p) k)=true∧ZeN p (accA (ofC p) i) (accA (ofC p) k)=behB p (ofC p) i k:=by
 obtain ⟨i0,i1,i2,i3,i4⟩:=ZgK h hi
 obtain ⟨k0,k1,k2,k3,k4⟩:=ZgK h hk
 have hinj:=fun e=>ZSG hi hk e
 have a1:(accA (ofC p) i).1=thA (ofC p) i:=rfl
 have a2:(accA (ofC p) i).2.1=inA (ofC p) i:=rfl
 have a3:(accA (ofC p) i).2.2.1=paA (ofC p) i:=rfl
 have b1:(accA (ofC p) k).1=thA (ofC p) k:=rfl
 have b2:(accA (ofC p) k).2.1=inA (ofC p) k:=rfl
 have b3:(accA (ofC p) k).2.2.1=paA (ofC p) k:=rfl
 have ht:List.getD p.2 (Int.toNat (thA (ofC p) i)) (dflt (.sl Za))=thrOf p (ofC p) i:=rfl
 have kf:Zcv (thrOf p (ofC p) i) (inA (ofC p) i)=true:=i2
 have vf:Zaq (thrOf p (ofC p) i) (inA (ofC p) i)=rowOf (thrOf p (ofC p) i).length (fromB (thrOf p (ofC p) i) (inA (ofC p) i)):=rfl
 have htri:(decide ((0:Int)≤thA (ofC p) i)&&decide (thA (ofC p) i < Int.ofNat p.2.length))=true:=by
  rw[Bool.and_eq_true,decide_eq_true_eq,decide_eq_true_eq];exact ⟨i0,i1⟩
 unfold ZeM ZeN behB
 rw[decide_eq_true hk,Bool.true_and]
 simp only[a1,a2,a3,b1,b2,b3,ht,kf,vf,htri,cond_true,ZL]
 by_cases e1:thA (ofC p) i=thA (ofC p) k
 ·have htk:thrOf p (ofC p) k=thrOf p (ofC p) i:=by unfold thrOf;rw[e1]
  rw[htk] at k4
  have hbr:(decide ((0:Int)≤inA (ofC p) k)&&decide (inA (ofC p) k < Int.ofNat (thrOf p (ofC p) i).length))=true:=by
   rw[Bool.and_eq_true,decide_eq_true_eq,decide_eq_true_eq];exact ⟨k3,k4⟩
  have hrow:List.getD (rowOf (thrOf p (ofC p) i).length (fromB (thrOf p (ofC p) i) (inA (ofC p) i))) (inA (ofC p) k).toNat (dflt .bool)=fromB (thrOf p (ofC p) i) (inA (ofC p) i) (inA (ofC p) k).toNat:=ZbK (by omega)
  have hb2:decide (inA (ofC p) k < Int.ofNat (thrOf p (ofC p) i).length)=true:=decide_eq_true k4
  simp only[hb2,hrow,cond_true,e1,bne_self_eq_false,beq_self_eq_true,cond_false,Bool.true_and,decide_eq_true k3]
  by_cases e2:k=i
  ·subst e2
   simp
  ·have hne:accA (ofC p) i≠accA (ofC p) k:=fun e=>e2 (hinj e).symm
   have hstr:((accA (ofC p) i).2.1==(accA (ofC p) k).2.1&&((accA (ofC p) i).2.2.1==(accA (ofC p) k).2.2.1&&((accA (ofC p) i).2.2.2.1==(accA (ofC p) k).2.2.2.1&&((accA (ofC p) i).2.2.2.2.1==(accA (ofC p) k).2.2.2.2.1&&(accA (ofC p) i).2.2.2.2.2==(accA (ofC p) k).2.2.2.2.2))))=false:=by
    rw[←Bool.not_eq_true]
    simp only[Bool.and_eq_true,beq_iff_eq]
    rintro ⟨h1,h2,h3,h4,h5⟩
    exact hne (Prod.ext e1 (Prod.ext h1 (Prod.ext h2 (Prod.ext h3 (Prod.ext h4 h5)))))
   rw[a2,a3,b2,b3] at hstr
   have e2b:(k==i)=false:=by simpa using e2
   simp only[hstr,e2b,cond_false,Bool.false_or]
   by_cases e3:inA (ofC p) i=inA (ofC p) k
   ·rw[e3]
    simp only[beq_self_eq_true,cond_true,Bool.true_and]
    cases hq:decide (paA (ofC p) k > paA (ofC p) i) <;> simp
   ·have e3b:(inA (ofC p) i==inA (ofC p) k)=false:=by simpa using e3
    have e3c:(inA (ofC p) k==inA (ofC p) i)=false:=by simpa using fun e=>e3 e.symm
    simp only[e3b,e3c,cond_false,Bool.false_and,Bool.false_or,and_self]
 ·have e1b:(thA (ofC p) i !=thA (ofC p) k)=true:=by simpa using e1
  have e1c:(thA (ofC p) k==thA (ofC p) i)=false:=by simpa using fun e=>e1 e.symm
  simp only[e1b,e1c,cond_true,Bool.false_and,and_self]
end Go.Ev
end

section
open Go
namespace Go.Ev
noncomputable def Zdi (p:El Zc) (l:List (El Zb)) (a:Int):List Bool:=rowOf l.length fun b=>decide (0≤a∧a < (l.length:Int))&&backB p l a.toNat b
def Zjy (p:El Zc) (l:List (El Zb)) (a:Int):Bool:=smallAll p&&same (.sl Zb) l (ofC p)
theorem ZRy {P:Nat→Bool} {k:Nat} :(List.range (k+1)).any P=((List.range k).any P || P k):=by
 rw[List.range_succ,List.any_append];simp
theorem ZM6 (p:El Zc) (l:List (El Zb)) (a:Int) (hk:Zjy p l a=true):Goes (ZaX p l a) (Zt9 p l a) (Zdi p l a):=by
 unfold Zjy at hk
 rw[Bool.and_eq_true] at hk
 obtain ⟨hs,hsame⟩:=hk
 have hl:=ZOl.1 hsame
 have hN:=ZQC hs
 rw[←hl] at hN
 have hfol:∀i k,i < l.length→k < l.length→ZeM p (accA l i) (accA l k)=true∧ZeN p (accA l i) (accA l k)=behB p l i k:=fun i k hi hk=>by
  rw[hl] at*
  exact ZO0 hs hi hk
 have hmk:((((Int.ofNat (List.length l))==(Int.ofNat (List.length l)))&&(decide ((0:Int)≤(Int.ofNat (List.length l)))))&&(decide (((Int.ofNat (List.length l))*(1:Int))≤(limit:Int))))=true:=by
  simp[limit];omega
 obtain ⟨n,hn⟩:∃n,l.length=n:=⟨_,rfl⟩
 have none:¬(0≤a∧a < (n:Int))→List.replicate n false=Zdi p l a:=fun h=>by
  unfold Zdi
  rw[hn,Zpy]
  exact Z7 fun i _=>by rw[decide_eq_false h];rfl
 obtain ⟨T,hT⟩:∃T,T=ZaX p l a:=⟨_,rfl⟩
 rw[←hT]
 unfold Zt9
 rw[hn] at hN hfol hmk ⊢
 rw[Ze,if_pos hmk,Ze]
 by_cases h0:a < 0
 ·rw[if_pos (decide_eq_true h0),none (fun h=>by omega)];exact .leaf
 rw[if_neg (by simpa using h0),Ze]
 by_cases h1:a≥Int.ofNat n
 ·rw[if_pos (decide_eq_true h1),none (fun h=>by simp at h1;omega)];exact .leaf
 obtain ⟨a,rfl⟩:=Int.eq_ofNat_of_zero_le (show 0≤a by omega)
 have ha:a < n:=by simp at h1;omega
 rw[if_neg (by simpa using h1),Ze,if_pos hmk]
 have hval:Zdi p l (a:Int)=rowOf n (backB p l a):=by
  unfold Zdi
  rw[hn]
  exact Z7 fun i _=>by rw[decide_eq_true ⟨by omega,by omega⟩,Int.toNat_natCast];rfl
 rw[hval]
 have ea:List.getD l a (dflt Zb)=accA l a:=rfl
 have nn:(List.length l)=n:=hn
 have out:Goes T (.jmp (.l31 (rowOf n (isB p l a)) (0:Int) (List.replicate n false))) (rowOf n (backB p l a)):=by
  have outer:∀i,i≤n→Goes T (.jmp (.l31 (rowOf n (isB p l a)) (i:Int) (rowOf n fun j=>decide (j < i)&&backB p l a j))) (rowOf n (backB p l a)):=by
   refine down ?_ fun i hi ih=>?_
   ·rw[Zh,hT,ZaX,←hT,Ze,nn,if_neg (by simp)]
    rw[show (rowOf n fun j=>decide (j < n)&&backB p l a j)=rowOf n (backB p l a) from Z7 fun j hj=>by rw[decide_eq_true hj];rfl]
    exact .leaf
   ·have inner:∀k,k≤n→thA l i=thA l a→Goes T (.jmp (.l36 (rowOf n (isB p l a)) (k:Int) (rowOf n fun j=>if j=i then (List.range k).any (fun q=>isB p l a q&&clB l q i) else decide (j < i)&&backB p l a j) (i:Int))) (rowOf n (backB p l a)):=by
     refine down ?_ fun k hk ih2=>?_
     ·intro ht
      rw[Zh,hT,ZaX,←hT,Ze,nn,if_neg (by simp),Zo (by omega)]
      rw[show (rowOf n fun j=>if j=i then (List.range n).any (fun q=>isB p l a q&&clB l q i) else decide (j < i)&&backB p l a j)=(rowOf n fun j=>decide (j < i+1)&&backB p l a j) from Z7 fun j hj=>by
       by_cases e:j=i
       ·subst e
        rw[if_pos rfl,decide_eq_true (by omega),Bool.true_and]
        unfold backB
        rw[ht,beq_self_eq_true,Bool.true_and,hn]
       ·rw[if_neg e]
        by_cases e2:j < i
        ·rw[decide_eq_true e2,decide_eq_true (by omega)]
        ·rw[decide_eq_false e2,decide_eq_false (by omega)]]
      exact ih
     ·intro ht
      have hrow:∀M:Nat→Bool,List.getD (rowOf n M) i (dflt .bool)=M i:=fun M=>ZbK hi
      have hrk:List.getD (rowOf n (isB p l a)) k (dflt .bool)=isB p l a k:=ZbK hk
      have et:((accA l i).1==(accA l a).1)=true:=by show (thA l i==thA l a)=true;rw[ht];simp
      have ei:List.getD l i (dflt Zb)=accA l i:=rfl
      have ek:List.getD l k (dflt Zb)=accA l k:=rfl
      have lt1:∀ {x:Nat},x < n→decide ((x:Int) < Int.ofNat n)=true:=fun h=>decide_eq_true (by simpa using h)
      have key:∀b,b=((List.range (k+1)).any fun q=>isB p l a q&&clB l q i)→Goes T (.jmp (.l36 (rowOf n (isB p l a)) ((k+1:Nat):Int) ((rowOf n fun j=>if j=i then (List.range k).any (fun q=>isB p l a q&&clB l q i) else decide (j < i)&&backB p l a j).set i b) (i:Int))) (rowOf n (backB p l a)):=fun b hb=>by
       rw[ZDG,show (rowOf n fun j=>if j=i then b else if j=i then (List.range k).any (fun q=>isB p l a q&&clB l q i) else decide (j < i)&&backB p l a j)=(rowOf n fun j=>if j=i then (List.range (k+1)).any (fun q=>isB p l a q&&clB l q i) else decide (j < i)&&backB p l a j) from Z7 fun j _=>by
        by_cases e:j=i
        ·rw[if_pos e,if_pos e,hb]
        ·rw[if_neg e,if_neg e,if_neg e]]
       exact ih2 ht
      rw[ZRy] at key
      rw[Zh,hT,ZaX,←hT]
      simp only[Ze,nn,ZL,lt1 hk,lt1 hi,lt1 ha,nng,Bool.and_self,if_true,Int.toNat_natCast,ei,ek,ea,et,hrow,hrk,ZwB,Zo (k:=k) (by omega)]
      generalize hq:((List.range k).any fun q=>isB p l a q&&clB l q i)=q at*
      cases q with
      | true=>
       rw[if_pos rfl]
       exact key true (by simp)
      | false=>
       rw[if_neg (by decide)]
       cases hb:isB p l a k with
       | true=>
        rw[if_pos rfl]
        exact key _ (by rw[hb];simp)
       | false=>
        rw[if_neg (by decide)]
        exact key false (by rw[hb];simp)
    rw[Zh,hT,ZaX,←hT,Ze,nn,if_pos (decide_eq_true (by simpa using hi))]
    by_cases ht:thA l i=thA l a
    ·have:=inner 0 (Nat.zero_le _) ht
     rw[show (rowOf n fun j=>if j=i then (List.range 0).any (fun q=>isB p l a q&&clB l q i) else decide (j < i)&&backB p l a j)=(rowOf n fun j=>decide (j < i)&&backB p l a j) from Z7 fun j _=>by
      by_cases e:j=i
      ·subst e;simp
      ·rw[if_neg e]] at this
     exact this
    ·have lt1:∀ {x:Nat},x < n→decide ((x:Int) < Int.ofNat n)=true:=fun h=>decide_eq_true (by simpa using h)
     have et:((accA l i).1==(accA l a).1)=false:=by show (thA l i==thA l a)=false;simpa using ht
     have ei:List.getD l i (dflt Zb)=accA l i:=rfl
     have hlt0:decide ((0:Int) < Int.ofNat n)=true:=decide_eq_true (by simp;omega)
     rw[Zh,hT,ZaX,←hT]
     simp only[Ze,nn,hlt0,lt1 hi,lt1 ha,nng,Bool.and_self,if_true,Int.toNat_natCast,ei,ea,et,Bool.false_eq_true,if_false,Zo (k:=i) (by omega)]
     rw[show (rowOf n fun j=>decide (j < i)&&backB p l a j)=(rowOf n fun j=>decide (j < i+1)&&backB p l a j) from Z7 fun j _=>by
      by_cases e:j=i
      ·subst e
       have:backB p l a j=false:=by unfold backB;rw[show (thA l j==thA l a)=false by simpa using ht];rfl
       rw[this,Bool.and_false,Bool.and_false]
      ·by_cases e2:j < i
       ·rw[decide_eq_true e2,decide_eq_true (by omega)]
       ·rw[decide_eq_false e2,decide_eq_false (by omega)]]
     exact ih
  have:=outer 0 (Nat.zero_le _)
  rw[show (rowOf n fun j=>decide (j < 0)&&backB p l a j)=List.replicate n false from by
   rw[Zpy];exact Z7 fun j _=>by simp] at this
  exact this
 let OK:(Nat→Bool)→(Nat→Bool)→Bool→Prop:=fun M0 M moved=>(∀j,chS l a j=true→M j=true)∧(∀j,M j=true→Come (chB p l a) (chS l a) j)∧(moved=false→M=M0)∧(moved=true→card n M0 < card n M)
 have lt1:∀ {x:Nat},x < n→decide ((x:Int) < Int.ofNat n)=true:=fun h=>decide_eq_true (by simpa using h)
 have hMlt:∀ {M:Nat→Bool},(∀j,M j=true→Come (chB p l a) (chS l a) j)→∀j,M j=true→j < n:=fun h j hj=>by
  have:=ZS5 (p:=p) (l:=l) (a:=a) (Zee.2 (h j hj))
  omega
 have loop:∀m,∀M:Nat→Bool,n - card n M=m→(∀j,chS l a j=true→M j=true)→(∀j,M j=true→Come (chB p l a) (chS l a) j)→Goes T (.jmp (.l14 (rowOf n M) true)) (rowOf n (backB p l a)):=by
  intro m
  induction m using Nat.strongRecOn with
  | _ m ih=>
  intro M0 hm hA hC
  have inner:∀i,i < n→∀Z:Prop,(∀M moved,OK M0 M moved→(moved=false→Z∧(M0 i=true→∀j,chB p l a i j=true→M0 j=true))→Goes T (.jmp (.l19 (rowOf n M) ((i+1:Nat):Int) moved)) (rowOf n (backB p l a)))→
    ∀k,k≤n→∀M moved,OK M0 M moved→(moved=false→Z∧∀x,x < k→M0 i=true→chB p l a i x=true→M0 x=true)→Goes T (.jmp (.l24 (rowOf n M) moved (k:Int) (i:Int))) (rowOf n (backB p l a)):=by
   intro i hi Z hz
   refine down ?_ fun k hk ih2=>?_
   ·intro M moved hok hcl
    rw[Zh,hT,ZaX,←hT,Ze,nn,if_neg (by simp),Zo (by omega)]
    refine hz M moved hok fun hm=>⟨(hcl hm).1,fun h1 j hj=>(hcl hm).2 j ?_ h1 hj⟩
    unfold chB at hj
    simp only[Bool.and_eq_true,decide_eq_true_eq] at hj
    omega
   ·intro M moved hok hcl
    obtain ⟨f1,f2⟩:=hfol i k hi hk
    have hri:List.getD (rowOf n M) i (dflt .bool)=M i:=ZbK hi
    have hrk:List.getD (rowOf n M) k (dflt .bool)=M k:=ZbK hk
    have ei:List.getD l i (dflt Zb)=accA l i:=rfl
    have ek:List.getD l k (dflt Zb)=accA l k:=rfl
    have tk:(accA l k).1=thA l k:=rfl
    have ta:(accA l a).1=thA l a:=rfl
    rw[Zh,hT,ZaX,←hT]
    simp only[Ze,nn,ZL,lt1 hk,lt1 hi,lt1 ha,nng,Bool.and_self,if_true,Int.toNat_natCast,ei,ek,ea,hri,hrk,ZwB,f1,f2,tk,ta,Zo (k:=k) (by omega),Zo (k:=i) (by omega)]
    cases hMi:M i with
    | false=>
     rw[if_neg (by decide)]
     refine hz M moved hok fun hm=>⟨(hcl hm).1,fun h1=>?_⟩
     rw[←hok.2.2.1 hm,hMi] at h1;cases h1
    | true=>
     rw[if_pos rfl]
     cases hMk:M k with
     | true=>
      rw[if_neg (by decide)]
      refine ih2 M moved hok fun hm=>⟨(hcl hm).1,fun x hx h1 h2=>?_⟩
      by_cases e:x=k
      ·subst e;rw[←hok.2.2.1 hm];exact hMk
      ·exact (hcl hm).2 x (by omega) h1 h2
     | false=>
      rw[if_pos (by decide)]
      have skip:chB p l a i k=false→Goes T (.jmp (.l24 (rowOf n M) moved ((k+1:Nat):Int) (i:Int))) (rowOf n (backB p l a)):=fun hc=>ih2 M moved hok fun hm=>⟨(hcl hm).1,fun x hx h1 h2=>by
       by_cases e:x=k
       ·subst e;rw[hc] at h2;cases h2
       ·exact (hcl hm).2 x (by omega) h1 h2⟩
      have set:chB p l a i k=true→Goes T (.jmp (.l24 ((rowOf n M).set k true) true ((k+1:Nat):Int) (i:Int))) (rowOf n (backB p l a)):=fun hc=>by
       have hca:=Zos hMk hk
       rw[ZtX]
       refine ih2 _ true ⟨fun x hx=>(show (M x || (x==k))=true by rw[hok.1 x hx];rfl),fun x hx=>?_,fun h=>(by cases h),fun _=>?_⟩ (fun h=>by cases h)
       ·simp only[Bool.or_eq_true,beq_iff_eq] at hx
        rcases hx with hx | hx
        ·exact hok.2.1 x hx
        ·subst hx;exact .step (hok.2.1 i hMi) hc
       ·cases moved with
        | true=>have:=hok.2.2.2 rfl;omega
        | false=>rw[hok.2.2.1 rfl] at hca;rw[hok.2.2.1 rfl];omega
      have hce:chB p l a i k=(!(thA l k==thA l a)&&(clB l i k || behB p l i k)):=by unfold chB;rw[hn,decide_eq_true hk,Bool.true_and]
      by_cases c1:thA l k=thA l a
      ·rw[if_neg (by simp[c1])]
       exact skip (by rw[hce];simp[c1])
      ·rw[if_pos (by simpa using c1)]
       have c1b:(thA l k==thA l a)=false:=by simpa using c1
       rw[c1b] at hce
       cases c2:clB l i k with
       | true=>
        rw[if_pos rfl]
        exact set (by rw[hce,c2];rfl)
       | false=>
        rw[if_neg (by decide)]
        cases c3:behB p l i k with
        | true=>
         rw[if_pos rfl]
         exact set (by rw[hce,c2,c3];rfl)
        | false=>
         rw[if_neg (by decide)]
         exact skip (by rw[hce,c2,c3];rfl)
  have pass:∀i,i≤n→∀M moved,OK M0 M moved→(moved=false→∀i' j,i' < i→M0 i'=true→chB p l a i' j=true→M0 j=true)→Goes T (.jmp (.l19 (rowOf n M) (i:Int) moved)) (rowOf n (backB p l a)):=by
   refine down ?_ fun i hi ih2=>?_
   ·intro M moved hok hcl
    rw[Zh,hT,ZaX,←hT,Ze,nn,if_neg (by simp)]
    cases moved with
    | true=>
     have h1:=hok.2.2.2 rfl
     have h2:= @ZfC n M
     exact ih (n - card n M) (by omega) M rfl hok.1 hok.2.1
    | false=>
     have e:=hok.2.2.1 rfl
     subst e
     rw[Zh,hT,ZaX,←hT,Ze,if_neg (by decide),nn]
     rw[show rowOf n M=rowOf n (isB p l a) from Z7 fun j _=>Zq8 hok.1 (fun k j hk hj=>hcl rfl k j (hMlt hok.2.1 k hk) hk hj) hok.2.1 j]
     exact out
   ·intro M moved hok hcl
    rw[Zh,hT,ZaX,←hT,Ze,nn,if_pos (lt1 hi)]
    refine inner i hi (∀i' j,i' < i→M0 i'=true→chB p l a i' j=true→M0 j=true) (fun M' moved' hok' hcl'=>ih2 M' moved' hok' fun hm i' j hi' h1 hj=>?_) 0 (Nat.zero_le _) M moved hok (fun hm=>⟨hcl hm,fun x hx=>by omega⟩)
    by_cases e:i'=i
    ·subst e;exact (hcl' hm).2 h1 j hj
    ·exact (hcl' hm).1 i' j (by omega) h1 hj
  rw[Zh,hT,ZaX,←hT,Ze,if_pos rfl]
  exact pass 0 (Nat.zero_le _) M0 false ⟨hA,hC,fun _=>rfl,fun h=>by cases h⟩ fun _ i' j h=>by omega
 have start:∀i,i≤n→Goes T (.jmp (.l8 (i:Int) (rowOf n fun j=>decide (j < i)&&chS l a j))) (rowOf n (backB p l a)):=by
  refine down ?_ fun i hi ih=>?_
  ·rw[Zh,hT,ZaX,←hT,Ze,nn,if_neg (by simp)]
   rw[show (rowOf n fun j=>decide (j < n)&&chS l a j)=rowOf n (chS l a) from Z7 fun j hj=>by rw[decide_eq_true hj];rfl]
   exact loop _ (chS l a) rfl (fun j h=>h) (fun j h=>.start h)
  ·have ei:List.getD l i (dflt Zb)=accA l i:=rfl
   rw[Zh,hT,ZaX,←hT]
   simp only[Ze,nn,ZL,lt1 hi,lt1 ha,nng,Bool.and_self,if_true,Int.toNat_natCast,ei,ea,ZwB,Zo (k:=i) (by omega)]
   rw[ZDG,show (rowOf n fun j=>if j=i then clB l a i else decide (j < i)&&chS l a j)=(rowOf n fun j=>decide (j < i+1)&&chS l a j) from Z7 fun j hj=>by
    by_cases e:j=i
    ·subst e
     rw[if_pos rfl,decide_eq_true (by omega),Bool.true_and]
     unfold chS
     rw[hn,decide_eq_true hj,Bool.true_and]
    ·rw[if_neg e]
     by_cases e2:j < i
     ·rw[decide_eq_true e2,decide_eq_true (by omega)]
     ·rw[decide_eq_false e2,decide_eq_false (by omega)]]
   exact ih
 have:=start 0 (Nat.zero_le _)
 rw[show (rowOf n fun j=>decide (j < 0)&&chS l a j)=List.replicate n false from by
  rw[Zpy];exact Z7 fun j _=>by simp] at this
 exact this
end Go.Ev
end

section
open Go Go.Ev
namespace Go.Ev
noncomputable section
noncomputable def ZDI:Run:=entG Zh2 Zq5 (fun a=>Zjy a.1 a.2.1 a.2.2.1) (fun a=>Zdi a.1 a.2.1 a.2.2.1)
theorem ZKJ:EntOK Go.Proofs.Tryz.prog 68 ZDI:=ZH (tb:=ZtL) (c:=Zru) ZJh (by kernel_rfl) (by kernel_rfl) (by kernel_rfl) (fun a=>by kernel_rfl) fun ⟨p,l,a,_⟩ hk=>Zm (c:=Zru) (K:=fun v=>(Zq5 v,tps (toForms Zh2 (p,l,a,())))) (S:=Zhl p l a) (by kernel_rfl) (ZKf p l a) (ZKU p l a) (ZM6 p l a hk)
end
end Go.Ev
end

section
open Go Go.Ev
namespace Go.Ev
noncomputable section
def ZeJ:Sig:=[(true,Zc)]
noncomputable def Zsi:Tbl:=[(66,Zs9),(67,Zw8),(68,ZDI)]
theorem ZFd:∀p∈Zsi,EntOK Go.Proofs.Tryz.prog p.1 p.2:=Zg ZBh (Zg ZzT (Zg ZKJ (Zt)))
noncomputable def Zlx:Code:=Go.Proofs.Tryz.f44.body.getD .skip
def Zpl:Tb:=[(5,⟨[1,3,4,5],[(5,106)]⟩),(13,⟨[1,3,4,5,6,7],[(5,106)]⟩)]
inductive ZiU where | l5 (s:Int) (out:List (El Zd)) | l13 (behind:List Bool) (s:Int) (r:Int) (out:List (El Zd))
def ZbQ (p:El Zc):ZiU→JT ZiU (List (El Zd)) |.l5 s out=>.br (decide (s < (Int.ofNat (List.length (Zu p))))) (.br ((decide ((0:Int)≤s))&&(decide (s < (Int.ofNat (List.length (Zu p)))))) (.br (! (List.getD (Zu p) (Int.toNat s) (dflt Zb)).2.2.2.2.1) (.jmp (.l5 (IntKind.i64.wrap (s+(1:Int))) out)) (.br ((decide ((0:Int)≤s))&&(decide (s < (Int.ofNat (List.length (Zu p)))))) (.br (List.getD (Zu p) (Int.toNat s) (dflt Zb)).2.2.2.2.2 (.jmp (.l5 (IntKind.i64.wrap (s+(1:Int))) out)) (.br ((decide ((0:Int)≤s))&&(decide (s < (Int.ofNat (List.length (Zu p)))))) (.br ((decide ((0:Int)≤(List.getD (Zu p) (Int.toNat s) (dflt Zb)).1))&&(decide ((List.getD (Zu p) (Int.toNat s) (dflt Zb)).1 < (Int.ofNat (List.length p.2))))) (.br ((decide ((0:Int)≤s))&&(decide (s < (Int.ofNat (List.length (Zu p)))))) (.br (Zcv (List.getD p.2 (Int.toNat (List.getD (Zu p) (Int.toNat s) (dflt Zb)).1) (dflt (.sl Za))) (List.getD (Zu p) (Int.toNat s) (dflt Zb)).2.1) (.jmp (.l13 (Zaq (List.getD p.2 (Int.toNat (List.getD (Zu p) (Int.toNat s) (dflt Zb)).1) (dflt (.sl Za))) (List.getD (Zu p) (Int.toNat s) (dflt Zb)).2.1) s (0:Int) out)) (.no)) (.no)) (.no)) (.no))) (.no))) (.no)) (.leaf out) |.l13 behind s r out=>.br (decide (r < (Int.ofNat (List.length (Zu p))))) (.br ((decide ((0:Int)≤r))&&(decide (r < (Int.ofNat (List.length (Zu p)))))) (.br ((decide ((0:Int)≤s))&&(decide (s < (Int.ofNat (List.length (Zu p)))))) (.br ((List.getD (Zu p) (Int.toNat r) (dflt Zb)).1==(List.getD (Zu p) (Int.toNat s) (dflt Zb)).1) (.br ((decide ((0:Int)≤r))&&(decide (r < (Int.ofNat (List.length (Zu p)))))) (.br (! (List.getD (Zu p) (Int.toNat r) (dflt Zb)).2.2.2.2.1) (.br ((decide ((0:Int)≤r))&&(decide (r < (Int.ofNat (List.length (Zu p)))))) (.br (! (List.getD (Zu p) (Int.toNat r) (dflt Zb)).2.2.2.2.2) (.br ((decide ((0:Int)≤r))&&(decide (r < (Int.ofNat (List.length (Zu p)))))) (.br ((decide ((0:Int)≤(List.getD (Zu p) (Int.toNat r) (dflt Zb)).2.1))&&(decide ((List.getD (Zu p) (Int.toNat r) (dflt Zb)).2.1 < (Int.ofNat (List.length behind))))) (.br (List.getD behind (Int.toNat (List.getD (Zu p) (Int.toNat r) (dflt Zb)).2.1) (dflt .bool)) (.br (Zjy p (Zu p) r) (.br ((decide ((0:Int)≤s))&&(decide (s < (Int.ofNat (List.length (Zdi p (Zu p) r)))))) (.br (List.getD (Zdi p (Zu p) r) (Int.toNat s) (dflt .bool)) (.br ((decide ((0:Int)≤s))&&(decide (s < (Int.ofNat (List.length (Zu p)))))) (.br ((decide ((0:Int)≤s))&&(decide (s < (Int.ofNat (List.length (Zu p)))))) (.br ((decide ((0:Int)≤r))&&(decide (r < (Int.ofNat (List.length (Zu p)))))) (.br (Nat.ble (((List.length out)+1)*24) limit) (.jmp (.l13 behind s (IntKind.i64.wrap (r+(1:Int))) (out++[((List.getD (Zu p) (Int.toNat s) (dflt Zb)).1,((List.getD (Zu p) (Int.toNat s) (dflt Zb)).2.1,(List.getD (Zu p) (Int.toNat r) (dflt Zb)).2.1))]))) (.no)) (.no)) (.no)) (.no)) (.jmp (.l13 behind s (IntKind.i64.wrap (r+(1:Int))) out))) (.no)) (.no)) (.jmp (.l13 behind s (IntKind.i64.wrap (r+(1:Int))) out))) (.no)) (.no)) (.jmp (.l13 behind s (IntKind.i64.wrap (r+(1:Int))) out))) (.no)) (.jmp (.l13 behind s (IntKind.i64.wrap (r+(1:Int))) out))) (.no)) (.jmp (.l13 behind s (IntKind.i64.wrap (r+(1:Int))) out))) (.no)) (.no)) (.jmp (.l5 (IntKind.i64.wrap (s+(1:Int))) out))
def ZoY (p:El Zc):JT ZiU (List (El Zd)):=.br (Zix p) (.jmp (.l5 (0:Int) [])) (.no)
def Zlz:List (El Zd)→AV:=fun (r:List (El Zd))=>.rw 57 Zd r
def ZdL (p:El Zc):ZiU→Nat×St |.l5 s out=>(5,⟨mkTm 116 [(1,.pt 2 0 0),(3,.own 4 0 none),(4,.own 5 0 none),(5,.d (.int .i64) s)],[(2,0,.box 26 [.d (.sl Zy) p.1,.d (.sl (.sl Za)) p.2] none),(4,0,.row 83 Zb (Zu p) false),(5,0,.row 57 Zd out false)]⟩) |.l13 behind s r out=>(13,⟨mkTm 116 [(1,.pt 2 0 0),(3,.own 4 0 none),(4,.own 5 0 none),(5,.d (.int .i64) s),(6,.own 7 0 none),(7,.d (.int .i64) r)],[(2,0,.box 26 [.d (.sl Zy) p.1,.d (.sl (.sl Za)) p.2] none),(4,0,.row 83 Zb (Zu p) false),(5,0,.row 57 Zd out false),(7,0,.row 4 .bool behind false)]⟩)
theorem ZEg (p:El Zc) (L:Lt):entryA Go.Proofs.Tryz.prog (clOf Zsi) Zpl Go.Proofs.Tryz.f44 Zlx L (toForms ZeJ (p,()))=(ZoY p).run (fun v=>some (Zlz v,tps (toForms ZeJ (p,())))) fun j=>L (ZdL p j).1 (ZdL p j).2:=by kernel_rfl
theorem ZEI (p:El Zc):∀(L:Lt) (j:ZiU),procOf (procsF Go.Proofs.Tryz.prog (clOf Zsi) Zpl Go.Proofs.Tryz.f44 Zlx (toForms ZeJ (p,()))) (ZdL p j).1 L (ZdL p j).2=(ZbQ p j).run (fun v=>some (Zlz v,tps (toForms ZeJ (p,())))) fun j=>L (ZdL p j).1 (ZdL p j).2 | L,.l5 s out=>by kernel_rfl | L,.l13 behind s r out=>by kernel_rfl
end
end Go.Ev
end

section
open Go
namespace Go.Ev
def stB' (l:List Acc) (s:Nat):Bool:=(accA l s).2.2.2.2.1&& ! (accA l s).2.2.2.2.2
def ldB' (l:List Acc) (s:Nat):Bool:=! (accA l s).2.2.2.2.1&& ! (accA l s).2.2.2.2.2
noncomputable def delB (p:El Zc) (l:List Acc) (s r:Nat):Bool:=((thA l r==thA l s)&&ldB' l r)&&(fromB (thrOf p l s) (inA l s) (inA l r).toNat&&backB p l r s)
def delPair (l:List Acc) (s r:Nat):El Zd:=(thA l s,(inA l s,inA l r))
noncomputable def delS (p:El Zc) (l:List Acc) (s:Nat):List (El Zd):=if stB' l s then ((List.range' 0 l.length).filter fun r=>delB p l s r).map (delPair l s) else []
noncomputable def delsFrom (p:El Zc) (l:List Acc) (s:Nat):List (El Zd):=(List.range' s (l.length - s)).flatMap (delS p l)
noncomputable def Zx (p:El Zc):List (El Zd):=delsFrom p (ofC p) 0
def ZbP (p:El Zc):Bool:=smallAll p&&decide ((ofC p).length < 1000000)
theorem ZOj (p:El Zc) (l:List Acc) (s:Nat):(delS p l s).length≤l.length:=by
 unfold delS
 split
 ·rw[List.length_map]
  have:=List.length_filter_le (fun r=>delB p l s r) (List.range' 0 l.length)
  rw[List.length_range'] at this
  exact this
 ·exact Nat.zero_le _
theorem ZGO (p:El Zc) (hk:ZbP p=true):Goes (ZbQ p) (ZoY p) (Zx p):=by
 unfold ZbP at hk
 rw[Bool.and_eq_true] at hk
 obtain ⟨hs,hN⟩:=hk
 have hN:=of_decide_eq_true hN
 have kt:Zix p=true:=hs
 have vt:Zu p=ofC p:=rfl
 have facts:=fun i=>ZgK (i:=i) hs
 have same_th:∀i k,thA (ofC p) k=thA (ofC p) i→thrOf p (ofC p) k=thrOf p (ofC p) i:=fun i k h=>by unfold thrOf;rw[h]
 have kb:∀r,Zjy p (ofC p) r=true:=fun r=>by unfold Zjy;rw[hs,ZOl.2 rfl];rfl
 have vb:∀r:Nat,r < (ofC p).length→Zdi p (ofC p) (r:Int)=rowOf (ofC p).length fun b=>backB p (ofC p) r b:=fun r hr=>by
  unfold Zdi
  rw[Int.toNat_natCast]
  exact Z7 fun i _=>by rw[decide_eq_true ⟨Int.natCast_nonneg r,Int.ofNat_lt.2 hr⟩,Bool.true_and]
 obtain ⟨l,hl⟩:∃l,ofC p=l:=⟨_,rfl⟩
 rw[hl] at hN vt facts kb vb same_th
 have outer:∀s,s≤l.length→∀out:List (El Zd),out.length≤s*l.length→Goes (ZbQ p) (.jmp (.l5 (s:Int) out)) (out++delsFrom p l s):=by
  refine down ?_ fun s hsl ih=>?_
  ·intro out ho
   rw[Zh,ZbQ,vt,Ze,if_neg (by rw[Zw (Nat.lt_irrefl _)];decide)]
   unfold delsFrom
   rw[Nat.sub_self]
   simp only[List.range'_zero,List.flatMap_nil,List.append_nil]
   exact .leaf
  ·intro out ho
   have e:delsFrom p l s=delS p l s++delsFrom p l (s+1):=by
    unfold delsFrom
    rw[show l.length - s=(l.length - (s+1))+1 by omega,List.range'_succ,List.flatMap_cons]
   have ga:List.getD l s (dflt Zb)=accA l s:=rfl
   have goon:∀o2,o2=out++delS p l s→Goes (ZbQ p) (.jmp (.l5 (((s+1:Nat)):Int) o2)) (out++delsFrom p l s):=fun o2 ho2=>by
    have:=ih (out++delS p l s) (by
     rw[List.length_append]
     have:=ZOj p l s
     rw[Nat.add_mul];omega)
    rw[e,←List.append_assoc,ho2]
    exact this
   rw[Zh,ZbQ,vt]
   simp only[Ze,ZK hsl,nng,Bool.and_self,if_true,Int.toNat_natCast,ga,Zo (k:=s) (by omega)]
   by_cases c1:(! (accA l s).2.2.2.2.1)=true
   ·rw[if_pos c1]
    refine goon out ?_
    unfold delS stB'
    rw[if_neg (by rw[Bool.not_eq_true'] at c1;rw[c1,Bool.false_and];exact Bool.false_ne_true),List.append_nil]
   rw[if_neg c1]
   by_cases c2:(accA l s).2.2.2.2.2=true
   ·rw[if_pos c2]
    refine goon out ?_
    unfold delS stB'
    rw[if_neg (by rw[c2];simp),List.append_nil]
   rw[if_neg c2]
   have hst:stB' l s=true:=by
    unfold stB'
    cases h1:(accA l s).2.2.2.2.1 <;> cases h2:(accA l s).2.2.2.2.2 <;> simp_all
   have hdel:delS p l s=((List.range' 0 l.length).filter fun r=>delB p l s r).map (delPair l s):=by unfold delS;rw[if_pos hst]
   obtain ⟨t0,t1,hf,i0,i1⟩:=facts s hsl
   have hth:(decide ((0:Int)≤(accA l s).1)&&decide ((accA l s).1 < Int.ofNat p.2.length))=true:=by
    rw[Bool.and_eq_true,decide_eq_true_eq,decide_eq_true_eq];exact ⟨t0,t1⟩
   have kf:Zcv (List.getD p.2 (Int.toNat (accA l s).1) (dflt (.sl Za))) (accA l s).2.1=true:=hf
   have vf:Zaq (List.getD p.2 (Int.toNat (accA l s).1) (dflt (.sl Za))) (accA l s).2.1=rowOf (thrOf p l s).length (fromB (thrOf p l s) (inA l s)):=rfl
   rw[if_pos hth,if_pos kf,vf]
   have inner:∀r,r≤l.length→∀o2:List (El Zd),o2.length≤s*l.length+r→o2++((List.range' r (l.length - r)).filter fun r=>delB p l s r).map (delPair l s)=out++delS p l s→
     Goes (ZbQ p) (.jmp (.l13 (rowOf (thrOf p l s).length (fromB (thrOf p l s) (inA l s))) (s:Int) (r:Int) o2)) (out++delsFrom p l s):=by
    refine down ?_ fun r hr ih2=>?_
    ·intro o2 ho2 he
     rw[Zh,ZbQ,vt,Ze,if_neg (by rw[Zw (Nat.lt_irrefl _)];decide),Zo (by omega)]
     rw[Nat.sub_self] at he
     simp only[List.range'_zero,List.filter_nil,List.map_nil,List.append_nil] at he
     exact goon o2 he
    ·intro o2 ho2 he
     have hprod:s*l.length≤1000000*1000000:=Nat.mul_le_mul (by omega) (by omega)
     have b1:Nat.ble ((o2.length+1)*24) limit=true:=Nat.ble_eq_true_of_le (by unfold limit;omega)
     have gr:List.getD l r (dflt Zb)=accA l r:=rfl
     rw[show l.length - r=(l.length - (r+1))+1 by omega,List.range'_succ,List.filter_cons] at he
     have next:∀o3,delB p l s r=false→o3=o2→Goes (ZbQ p) (.jmp (.l13 (rowOf (thrOf p l s).length (fromB (thrOf p l s) (inA l s))) (s:Int) ((r+1:Nat):Int) o3)) (out++delsFrom p l s):=fun o3 hd h3=>by
      subst h3
      rw[if_neg (by rw[hd];decide)] at he
      exact ih2 o3 (by omega) he
     rw[Zh,ZbQ,vt]
     simp only[Ze,ZK hr,ZK hsl,nng,Bool.and_self,if_true,Int.toNat_natCast,ga,gr,b1,Zo (k:=r) (by omega)]
     by_cases d1:((accA l r).1==(accA l s).1)=true
     ·rw[if_pos d1]
      by_cases d2:(! (accA l r).2.2.2.2.1)=true
      ·rw[if_pos d2]
       by_cases d3:(! (accA l r).2.2.2.2.2)=true
       ·rw[if_pos d3]
        have eth:thA l r=thA l s:=by simpa[thA] using d1
        obtain ⟨_,_,_,j0,j1⟩:=facts r hr
        rw[same_th s r eth] at j1
        have hin:(decide ((0:Int)≤(accA l r).2.1)&&decide ((accA l r).2.1 < Int.ofNat (rowOf (thrOf p l s).length (fromB (thrOf p l s) (inA l s))).length))=true:=by
         rw[ZL,Bool.and_eq_true,decide_eq_true_eq,decide_eq_true_eq];exact ⟨j0,j1⟩
        have hin':(inA l r).toNat < (thrOf p l s).length:=by omega
        have hg:List.getD (rowOf (thrOf p l s).length (fromB (thrOf p l s) (inA l s))) (Int.toNat (accA l r).2.1) (dflt .bool)=fromB (thrOf p l s) (inA l s) (inA l r).toNat:=ZbK hin'
        rw[if_pos hin,hg]
        have hld:ldB' l r=true:=by unfold ldB';rw[d2,d3];rfl
        have hdb:delB p l s r=(fromB (thrOf p l s) (inA l s) (inA l r).toNat&&backB p l r s):=by
         unfold delB
         rw[hld,show (thA l r==thA l s)=true from d1];rfl
        by_cases d4:fromB (thrOf p l s) (inA l s) (inA l r).toNat=true
        ·rw[if_pos d4,if_pos (kb (r:Int)),vb r hr,ZL,Bool.true_and,if_pos (ZK hsl),ZbK hsl]
         by_cases d5:backB p l r s=true
         ·rw[if_pos d5]
          rw[if_pos (by rw[hdb,d4,d5];rfl)] at he
          exact ih2 _ (by simp;omega) (by rw[List.append_assoc];exact he)
         ·rw[if_neg d5]
          exact next _ (by rw[hdb];simp[d5]) rfl
        ·rw[if_neg d4]
         exact next _ (by rw[hdb];simp[d4]) rfl
       ·rw[if_neg d3]
        exact next _ (by unfold delB ldB';simp at d3;simp[d3]) rfl
      ·rw[if_neg d2]
       exact next _ (by unfold delB ldB';simp at d2;simp[d2]) rfl
     ·rw[if_neg d1]
      exact next _ (by unfold delB thA;simp at d1;simp[d1]) rfl
   exact inner 0 (Nat.zero_le _) out (by omega) (by rw[hdel];rfl)
 have:=outer 0 (Nat.zero_le _) [] (Nat.zero_le _)
 unfold ZoY Zx
 rw[Ze,if_pos kt,hl]
 exact this
end Go.Ev
end

section
open Go
namespace Go.Ev
def Zsm (a b:List (El Zd)):Bool:=decide (a.length < 4611686018427387904)
end Go.Ev
end

section
open Go
namespace Go.Ev
theorem ZLC {n:Nat} (hn:n < 4611686018427387904) {B:Nat→Bool} :∀(xs:List Nat) (d:SetD) (M:Nat→Bool),(∀x∈xs,x < n)→SetOK d n M→SetOK (putAll d (xs.map Int.ofNat)) n fun k=>M k || xs.contains k
 | [],d,M,_,h=>h.congr' fun j=>by simp
 | x :: xs,d,M,hx,h=>by
  have h1:=(h.putO hn (hx x (by simp))).2
  have h2:=ZLC (B:=B) hn xs _ _ (fun y hy=>hx y (by simp[hy])) h1
  refine h2.congr' fun j=>?_
  rw[List.contains_cons,Bool.or_assoc]
theorem ZCV {n:Nat} (hn:n < 4611686018427387904) {B:Nat→Bool} :SetOK (putAll ((n:Int),[]) (listOf n B)) n fun k=>decide (k < n)&&B k:=by
 have:=ZLC (B:=B) hn ((List.range n).filter B) ((n:Int),[]) _ (fun x hx=>List.mem_range.1 (List.mem_filter.1 hx).1) (SetOK.new n)
 refine this.congr' fun j=>?_
 rw[Bool.false_or,Bool.eq_iff_iff,List.contains_iff_mem,List.mem_filter,List.mem_range,Bool.and_eq_true,decide_eq_true_eq]
theorem ZSa {n:Nat} (hn:n < 4611686018427387904):Zz (Int.ofNat n)=((n:Int),[]):=by
 unfold Zz
 simp
 omega
section
variable {p:El Zc}
theorem ZSd (hk:Z6 p=true) {r:Nat} (hr:r < (ofC p).length):SetOK (dBack p (ofC p) (r:Int)) (ofC p).length fun k=>decide (k < (ofC p).length)&&backB p (ofC p) r k:=by
 obtain ⟨hs,hd⟩:=delayOK hk
 have hn:(ofC p).length < 4611686018427387904:=Nat.lt_trans hd.len (by decide)
 unfold dBack
 rw[ZSa hn]
 unfold ZbU
 rw[if_pos ⟨Int.natCast_nonneg r,Int.ofNat_lt.2 hr⟩,Int.toNat_natCast]
 exact ZCV hn
theorem ZS8 (hk:Z6 p=true) {s r:Nat} (hs:s < (ofC p).length) (hr:r < (ofC p).length) (ht:thA (ofC p) r=thA (ofC p) s):
  hitP p (ofC p) (s:Int) (frS p (ofC p) (thA (ofC p) s) (s:Int)) (r:Int)=(fromB (thrOf p (ofC p) s) (inA (ofC p) s) (inA (ofC p) r).toNat&&backB p (ofC p) r s):=by
 obtain ⟨hsm,hd⟩:=delayOK hk
 have hn:(ofC p).length < 4611686018427387904:=Nat.lt_trans hd.len (by decide)
 obtain ⟨t0,t1,hf,i0,i1⟩:=ZgK hsm hs
 obtain ⟨_,_,_,j0,j1⟩:=ZgK hsm hr
 have et:thrOf p (ofC p) r=thrOf p (ofC p) s:=by unfold thrOf;rw[ht]
 rw[et] at j1
 have hlen:(thrOf p (ofC p) s).length < 4611686018427387904:=Nat.lt_trans (Zbx hf) (by decide)
 have e1:frS p (ofC p) (thA (ofC p) s) (s:Int)=putAll (((thrOf p (ofC p) s).length:Int),[]) (listOf (thrOf p (ofC p) s).length (fromB (thrOf p (ofC p) s) (inA (ofC p) s))):=by
  unfold frS
  rw[show insP p (thA (ofC p) s)=thrOf p (ofC p) s from rfl,ZSa hlen]
  rfl
 have h1:=ZCV hlen (B:=fromB (thrOf p (ofC p) s) (inA (ofC p) s))
 rw[←e1] at h1
 have h2:=ZSd hk hr
 have e2:∀(x:SetD) (i:Int),(Zq x i).1=hasS x i:=fun _ _=>rfl
 have g1:(Zq (frS p (ofC p) (thA (ofC p) s) (s:Int)) (inA (ofC p) r)).1=fromB (thrOf p (ofC p) s) (inA (ofC p) s) (inA (ofC p) r).toNat:=by
  rw[e2,h1.has hlen,decide_eq_true j0,decide_eq_true (show (inA (ofC p) r).toNat < (thrOf p (ofC p) s).length by omega),Bool.true_and,Bool.true_and]
 have g2:(Zq (dBack p (ofC p) (r:Int)) (s:Int)).1=backB p (ofC p) r s:=by
  rw[e2,h2.has hn,decide_eq_true (Int.natCast_nonneg s),Int.toNat_natCast,decide_eq_true hs,Bool.true_and,Bool.true_and]
 unfold hitP
 rw[g2]
 have:(Zq (frS p (ofC p) (thA (ofC p) s) (s:Int)) (List.getD (ofC p) (Int.toNat (r:Int)) (dflt Zb)).2.1).1=fromB (thrOf p (ofC p) s) (inA (ofC p) s) (inA (ofC p) r).toNat:=by
  rw[Int.toNat_natCast]
  exact g1
 rw[this]
end
theorem ZqQ {α β:Type} {f g:α→List β} {l:List α} (h:∀x∈l,f x=g x):l.flatMap f=l.flatMap g:=by
 rw[List.flatMap_def,List.flatMap_def,List.map_congr_left h]
theorem ZR3 {α β:Type} {key:α→Nat} {D:α→List β} :∀(T:Nat) (L:List α),L.Pairwise (fun a b=>key a≤key b)→(∀x∈L,key x < T)→((List.range T).flatMap fun t=>(L.filter fun x=>key x==t).flatMap D)=L.flatMap D
 | 0,L,_,h=>by
  cases L with
  | nil=>rfl
  | cons x L=>exact absurd (h x (by simp)) (Nat.not_lt_zero _)
 | T+1,L,hp,h=>by
  have split:∀L:List α,L.Pairwise (fun a b=>key a≤key b)→(∀x∈L,key x < T+1)→L=(L.filter fun x=>decide (key x < T))++L.filter fun x=>key x==T:=by
   intro L
   induction L with
   | nil=>intros;rfl
   | cons x L ih=>
    intro hp h
    obtain ⟨p1,p2⟩:=List.pairwise_cons.1 hp
    have ih:=ih p2 fun y hy=>h y (by simp[hy])
    by_cases hx:key x < T
    ·have hx':(key x==T)=false:=by rw[beq_eq_false_iff_ne];omega
     rw[List.filter_cons_of_pos (by simpa using hx),List.filter_cons_of_neg (by rw[hx'];exact Bool.false_ne_true),List.cons_append,←ih]
    ·have hk:key x=T:=by have:=h x (by simp);omega
     have hnone:L.filter (fun x=>decide (key x < T))=[]:=List.filter_eq_nil_iff.2 fun y hy=>by have:=p1 y hy;simp;omega
     rw[List.filter_cons_of_neg (by simpa using hx),List.filter_cons_of_pos (by simpa using hk),hnone,List.nil_append]
     rw[hnone,List.nil_append] at ih
     rw[←ih]
  have e:=split L hp h
  rw[List.range_succ,List.flatMap_append]
  have h1:((List.range T).flatMap fun t=>(L.filter fun x=>key x==t).flatMap D)=(L.filter fun x=>decide (key x < T)).flatMap D:=by
   rw[←ZR3 T (L.filter fun x=>decide (key x < T)) (hp.sublist List.filter_sublist) fun x hx=>by simpa using (List.mem_filter.1 hx).2]
   refine ZqQ fun t ht=>?_
   rw[List.filter_filter]
   congr 1
   refine List.filter_congr fun x hx=>?_
   have:=List.mem_range.1 ht
   by_cases hk:key x=t
   ·simp[hk,this]
   ·simp[hk]
  rw[h1]
  simp only[List.flatMap_cons,List.flatMap_nil,List.append_nil]
  rw[←List.flatMap_append,←e]
theorem ZQZ {α β γ:Type} {g:β→List γ} {f:α→β} {P H:α→Bool} {q:α→γ} :∀(l:List α),(∀x∈l,P x=true→g (f x)=if H x=true then [q x] else [])→((l.filter P).map f).flatMap g=(l.filter fun x=>P x&&H x).map q
 | [],_=>rfl
 | x :: l,h=>by
  have ih:=ZQZ l fun y hy=>h y (by simp[hy])
  cases hP:P x with
  | false=>rw[List.filter_cons_of_neg (by simp[hP]),List.filter_cons_of_neg (by simp[hP]),ih]
  | true=>
   rw[List.filter_cons_of_pos hP,List.map_cons,List.flatMap_cons,h x (by simp) hP,ih]
   cases hH:H x with
   | false=>rw[List.filter_cons_of_neg (by simp[hP,hH])];simp
   | true=>rw[List.filter_cons_of_pos (by simp[hP,hH])];simp
theorem ZwY {α β:Type} {P:α→Bool} {D:α→List β} :∀(l:List α),(l.flatMap fun x=>if P x=true then D x else [])=(l.filter P).flatMap D
 | []=>rfl
 | x :: l=>by
  cases hP:P x with
  | false=>rw[List.filter_cons_of_neg (by simp[hP]),List.flatMap_cons,ZwY l];simp[hP]
  | true=>rw[List.filter_cons_of_pos hP,List.flatMap_cons,List.flatMap_cons,ZwY l];simp[hP]
theorem ZSL {p:El Zc} {a b:Nat} (ha:a < (ofC p).length) (hb:b < (ofC p).length) (h:a < b):thA (ofC p) a≤thA (ofC p) b:=by
 have ho:=List.pairwise_iff_getElem.1 (ZQD p) a b ha hb h
 have ga:accA (ofC p) a=(ofC p)[a]:=by unfold accA;rw[ZG ha]
 have gb:accA (ofC p) b=(ofC p)[b]:=by unfold accA;rw[ZG hb]
 rw[←ga,←gb] at ho
 have:∀t k q t' k' q':Int,ltNX t k q t' k' q'→t≤t':=fun t k q t' k' q' h=>by
  rcases h with h | ⟨h,_⟩ <;> omega
 exact this _ _ _ _ _ _ ho
theorem ZPH {p:El Zc} (hk:Z6 p=true):Zl p=Zx p:=by
 obtain ⟨hsm,hd⟩:=delayOK hk
 have facts:=fun i=>ZgK (i:=i) hsm
 have hits:=fun s r=>ZS8 (s:=s) (r:=r) hk
 have keys:=fun a b=>ZSL (p:=p) (a:=a) (b:=b)
 unfold Zl Zx delsFrom outN
 generalize ofC p=l at facts hits keys
 rw[Nat.sub_zero,←List.range_eq_range']
 have hD:∀s,delS p l s=if stB' l s=true then ((List.range l.length).filter fun r=>delB p l s r).map (delPair l s) else []:=fun s=>by
  unfold delS
  rw[←List.range_eq_range']
 rw[ZqQ fun s _=>hD s,ZwY]
 refine Eq.trans ?_ (ZR3 (key:=fun s=>(thA l s).toNat) p.2.length ((List.range l.length).filter fun s=>stB' l s) ?_ ?_)
 ·refine ZqQ fun t ht=>?_
  have ht:=List.mem_range.1 ht
  rw[List.filter_filter]
  unfold outT ZT listOf
  rw[List.flatMap_map]
  have hf:(List.range l.length).filter (plB l (t:Int) true)=(List.range l.length).filter fun s=>((thA l s).toNat==t)&&stB' l s:=by
   refine List.filter_congr fun s hs=>?_
   obtain ⟨t0,_⟩:=facts s (List.mem_range.1 hs)
   unfold plB stB'
   rw[Bool.and_assoc]
   have e:(((List.getD l s (dflt Zb)).1:Int)==(t:Int))=((thA l s).toNat==t):=by
    show (thA l s==(t:Int))=_
    rw[Bool.eq_iff_iff,beq_iff_eq,beq_iff_eq]
    omega
   have e2:((List.getD l s (dflt Zb)).2.2.2.2.1==true)=(accA l s).2.2.2.2.1:=by
    show ((accA l s).2.2.2.2.1==true)=_
    cases (accA l s).2.2.2.2.1 <;> rfl
   rw[e2]
   exact congrArg (· &&_) e
  rw[hf]
  refine ZqQ fun s hs=>?_
  obtain ⟨hs1,hs2⟩:=List.mem_filter.1 hs
  have hsN:=List.mem_range.1 hs1
  rw[Bool.and_eq_true,beq_iff_eq] at hs2
  obtain ⟨t0,_⟩:=facts s hsN
  have hth:thA l s=(t:Int):=by have:=hs2.1;omega
  unfold outS ZT listOf
  rw[ZQZ (H:=fun r=>fromB (thrOf p l s) (inA l s) (inA l r).toNat&&backB p l r s) (q:=delPair l s)]
  ·congr 1
   refine List.filter_congr fun r hr=>?_
   unfold plB delB ldB'
   have e1:(((List.getD l r (dflt Zb)).1:Int)==(t:Int))=(thA l r==thA l s):=by rw[hth];rfl
   have e2:((List.getD l r (dflt Zb)).2.2.2.2.1==false)=! (accA l r).2.2.2.2.1:=by
    show ((accA l r).2.2.2.2.1==false)=_
    cases (accA l r).2.2.2.2.1 <;> rfl
   rw[e2,←Bool.and_assoc (thA l r==thA l s)]
   exact congrArg (fun x=>x&&_&&_&&_) e1
  ·intro r hr hP
   have hrN:=List.mem_range.1 hr
   unfold plB at hP
   rw[Bool.and_eq_true,Bool.and_eq_true] at hP
   have hth2:thA l r=(t:Int):=by have:=hP.1.1;exact eq_of_beq this
   have:=hits s r hsN hrN (hth2.trans hth.symm)
   rw[hth] at this
   show oneP p l (t:Int) (s:Int) (frS p l (t:Int) (s:Int)) (r:Int)=_
   unfold oneP
   rw[this]
   unfold delPair
   rw[hth]
   rfl
 ·refine List.Pairwise.filter _ ?_
  refine List.pairwise_lt_range.imp_of_mem fun {a b} ha hb h=>?_
  have:=keys a b (List.mem_range.1 ha) (List.mem_range.1 hb) h
  omega
 ·intro s hs
  obtain ⟨t0,t1,_⟩:=facts s (List.mem_range.1 (List.mem_filter.1 hs).1)
  omega
end Go.Ev
end

section
namespace Go.Ev
open Go
theorem ZFF (i:El Za) (ls:List ByteArray):ZA (setL i ls)=ZA i:=rfl
theorem ZSs (i:El Za) (ls:List ByteArray):(setL i ls).2.2.2.2.2.1=i.2.2.2.2.2.1:=rfl
theorem ZFS {th:List (List (El Za))} {k r s n:Int} (h:k=3∨k=4→placeOK k s n=true):placeC (symsB,th) (k,(r,(s,n)))=0:=by
 show placeN 3 _ k s n=0
 unfold placeN
 by_cases hk:k=3∨k=4
 ·rw[if_pos hk]
  have:=h hk
  unfold placeOK at this
  simp only[Bool.and_eq_true,decide_eq_true_eq,Bool.or_eq_true,beq_iff_eq] at this
  obtain ⟨h0,h3,hn⟩:=this
  rw[if_neg (by omega)]
  have hs:s=0∨s=1∨s=2:=by omega
  rcases hs with rfl | rfl | rfl
  ·rw[if_neg]
   rintro ⟨h1,h2⟩
   have h2:(1:Int)≤n:=h2
   rcases hn with hn | hn
   ·omega
   ·have hn:n < (1:Int):=hn
    omega
  ·rw[if_neg]
   rintro ⟨h1,h2⟩
   have h2:(2:Int)≤n:=h2
   rcases hn with hn | hn
   ·omega
   ·have hn:n < (2:Int):=hn
    omega
  ·rw[if_neg]
   rintro ⟨h1,h2⟩
   have h2:(1:Int)≤n:=h2
   rcases hn with hn | hn
   ·omega
   ·have hn:n < (1:Int):=hn
    omega
 ·rw[if_neg hk]
theorem ZPK {th:List (List (El Za))} {many:Int} {i:El Za} (h:BookOK many i) (ls:List ByteArray):insC (symsB,th) (setL i ls)=0:=by
 have hA:placeC (symsB,th) i.2.2.2.1=0:=ZFS (k:=i.2.2.2.1.1) (r:=i.2.2.2.1.2.1) (s:=i.2.2.2.1.2.2.1) (n:=i.2.2.2.1.2.2.2) h.placeA
 have hB:placeC (symsB,th) i.2.2.2.2.1=0:=ZFS (k:=i.2.2.2.2.1.1) (r:=i.2.2.2.2.1.2.1) (s:=i.2.2.2.2.1.2.2.1) (n:=i.2.2.2.2.1.2.2.2) h.placeB
 unfold insC
 rw[ZFF,h.right]
 show (if (0:Int)≠0 then _ else if placeC (symsB,th) i.2.2.2.1≠0 then _ else placeC (symsB,th) i.2.2.2.2.1)=0
 rw[hA,hB]
 rfl
theorem ZL4 {p:El Zc} {K:List ByteArray→Int} :∀(x:List (El Za)) (k:Nat) (seen:List ByteArray),
  (∀(j:Nat) (i:El Za),x[j]? =some i→(i.2.2.2.2.2.2=[]∨i.2.2.2.2.2.2=[Zp ((k+j:Nat):Int)])∧insC p i=0)→(∀l∈seen,∃k',k' < k∧l=Zp (k':Int))→k+x.length≤100→scanI p K seen x=K (seen++labels x)
 | [],k,seen,_,_,_=>by simp[scanI,labels]
 | i :: r,k,seen,h,hs,hk=>by
  obtain ⟨hl,hi⟩:=h 0 i rfl
  rw[List.length_cons] at hk
  have hr:=fun seen' hs'=>ZL4 (K:=K) r (k+1) seen' (fun j y hy=>by
   have:=h (j+1) y (by simpa using hy)
   rwa[show k+(j+1)=k+1+j by omega] at this) hs' (by omega)
  unfold scanI
  rcases hl with hl | hl
  ·rw[hl]
   unfold scanL
   rw[hi]
   simp only[ne_eq,not_true_eq_false,if_false]
   rw[hr seen fun l hl=>by obtain ⟨k',h1,h2⟩:=hs l hl;exact ⟨k',by omega,h2⟩]
   unfold labels
   rw[List.flatMap_cons,hl,List.nil_append]
  ·rw[hl,Nat.add_zero]
   unfold scanL
   rw[if_neg (by rw[(ZqA (k:=(k:Int)) (by omega) (by omega)).1];decide)]
   have hns:seen.contains (Zp (k:Int))=false:=by
    rw[Bool.eq_false_iff]
    intro hc
    rw[List.contains_iff_mem] at hc
    obtain ⟨k',h1,h2⟩:=hs _ hc
    have:=ZPM (by omega) (by omega) h2
    omega
   rw[if_neg (by rw[hns];decide)]
   unfold scanL
   rw[hi]
   simp only[ne_eq,not_true_eq_false,if_false]
   rw[hr _ fun l hl=>by
    rcases List.mem_append.1 hl with hl | hl
    ·obtain ⟨k',h1,h2⟩:=hs l hl;exact ⟨k',by omega,h2⟩
    ·rw[List.mem_singleton] at hl;exact ⟨k,by omega,hl⟩]
   unfold labels
   rw[List.flatMap_cons,hl,Nat.add_zero,List.append_assoc]
theorem ZKo {seen:List ByteArray} :∀ {x:List (El Za)},(∀i∈x,((i.1==(10:Int)) || (i.1==(11:Int)))=true→seen.contains i.2.2.2.2.2.1=true)→jumpC seen x=0
 | [],_=>rfl
 | i :: r,h=>by
  unfold jumpC
  have ih:=ZKo fun j hj=>h j (List.mem_cons_of_mem _ hj)
  by_cases hj:((i.1==(10:Int)) || (i.1==(11:Int)))=true
  ·rw[if_pos hj,if_pos (h i (List.mem_cons_self ..) hj)];exact ih
  ·rw[if_neg hj];exact ih
theorem Zmf {a:List (El Zs)} {n:Nat} (hn:n≤90) (ha:n≤a.length) {k:Nat} {i:El Za} (h:(threadB a n)[k]? =some i):
  (k < n∧∃x,(baseT a n)[k]? =some x∧BookOK ((n+1:Nat):Int) x∧i=setL x (if sAt (baseT a n) n k then [Zp (k:Int)] else []))∨(k=n∧i=setL (bare 14) (if sAt (baseT a n) n k then [Zp (k:Int)] else [])):=by
 have hl:=ZtW a n ha
 obtain ⟨hk,he⟩:=List.getElem?_eq_some_iff.1 h
 unfold threadB at hk he
 rw[ZiA hk] at he
 rw[Zcz,hl] at hk
 by_cases hkn:k < n
 ·obtain ⟨x,h1,h2⟩:=ZOI hn hkn ha
  obtain ⟨h3,h4⟩:=List.getElem?_eq_some_iff.1 h1
  rw[h4] at he
  exact .inl ⟨hkn,_,h1,h2,he.symm⟩
 ·have hkn:k=n:=by omega
  subst hkn
  have:(baseT a k)[k]'(by omega)=bare 14:=by
   unfold baseT
   rw[List.getElem_append_right (by simp;omega)]
   simp
  rw[this] at he
  exact .inr ⟨rfl,he.symm⟩
theorem ZNn (many:Int) (ls:List ByteArray) {th:List (List (El Za))} :insC (symsB,th) (setL (bare 14) ls)=0:=by
 unfold insC
 rw[ZFF,ZO8 (.inr (.inr rfl))]
 rfl
theorem ZPm {x:List (El Za)} {k:Nat} {i:El Za} {l:ByteArray} (h:x[k]? =some i) (hl:l∈i.2.2.2.2.2.2):(labels x).contains l=true:=by
 rw[List.contains_iff_mem]
 unfold labels
 exact List.mem_flatMap.2 ⟨i,List.mem_of_getElem? h,hl⟩
theorem ZKl {a:List (El Zs)} {n:Nat} (hn:n≤90) (ha:n≤a.length) {th:List (List (El Za))} :threadC (symsB,th) (threadB a n)=0:=by
 have hlen:(threadB a n).length=n+1:=by unfold threadB;rw[Zcz,ZtW a n ha]
 unfold threadC
 have hc:=ZPL (threadB a n)
 rw[if_neg (by omega),ZL4 (threadB a n) 0 [] (fun j i h=>by
  rw[Nat.zero_add]
  rcases Zmf hn ha h with ⟨_,x,_,hx,rfl⟩ | ⟨_,rfl⟩
  ·refine ⟨?_,ZPK hx _⟩
   show (if _ then [Zp (j:Int)] else [])=[]∨(if _ then [Zp (j:Int)] else [])=[Zp (j:Int)]
   split
   ·exact .inr rfl
   ·exact .inl rfl
  ·refine ⟨?_,ZNn 0 _⟩
   show (if _ then [Zp (j:Int)] else [])=[]∨(if _ then [Zp (j:Int)] else [])=[Zp (j:Int)]
   split
   ·exact .inr rfl
   ·exact .inl rfl) (fun l hl=>by cases hl) (by omega)]
 rw[List.nil_append,ZME (by omega)]
 have hlast:(threadB a n)[(threadB a n).length - 1]? =some ((threadB a n)[(threadB a n).length - 1]'(by omega)):=List.getElem?_eq_getElem (by omega)
 have h14:(((threadB a n)[(threadB a n).length - 1]'(by omega)).1==(10:Int) || ((threadB a n)[(threadB a n).length - 1]'(by omega)).1==(14:Int))=true:=by
  rcases Zmf hn ha hlast with ⟨h1,_⟩ | ⟨_,h2⟩
  ·omega
  ·rw[h2];rfl
 rw[if_pos h14]
 refine ZKo fun i hi hj=>?_
 obtain ⟨k,hk⟩:=List.getElem?_of_mem hi
 rcases Zmf hn ha hk with ⟨hkn,x,hx,hb,rfl⟩ | ⟨_,rfl⟩
 ·rw[ZSs]
  rcases hb.to with ⟨h1,h2,_⟩ | ⟨_,m,m0,m1,e⟩
  ·exfalso
   have hj:((x.1==(10:Int)) || (x.1==(11:Int)))=true:=hj
   simp only[Bool.or_eq_true,beq_iff_eq] at hj
   rcases hj with hj | hj
   ·exact h1 hj
   ·exact h2 hj
  ·rw[e]
   obtain ⟨q,rfl⟩:∃q:Nat,m=(q:Int):=⟨m.toNat,by omega⟩
   have hqn:q < n+1:=by omega
   have hq:(threadB a n)[q]? =some ((threadB a n)[q]'(by omega)):=List.getElem?_eq_getElem (by omega)
   have hs:sAt (baseT a n) n q=true:=by
    unfold sAt
    rw[List.any_eq_true]
    exact ⟨x,List.mem_of_getElem? (i:=k) (by rw[List.getElem?_take,if_pos hkn];exact hx),decide_eq_true e⟩
   refine ZPm hq ?_
   rcases Zmf hn ha hq with ⟨_,y,_,_,h2⟩ | ⟨_,h2⟩
   ·rw[h2,hs];exact List.mem_singleton.2 rfl
   ·rw[h2,hs];exact List.mem_singleton.2 rfl
 ·cases hj
theorem ZO4 {a:List (El Zs)} {n:Nat} (hn:n≤90) (ha:n≤a.length):smallThread (threadB a n)=true:=by
 have hlen:(threadB a n).length=n+1:=by unfold threadB;rw[Zcz,ZtW a n ha]
 have hlab:∀i∈threadB a n,smallText i.2.2.2.2.2.1=true∧i.2.2.2.2.2.2.length≤1∧∀l∈i.2.2.2.2.2.2,smallText l=true:=fun i hi=>by
  obtain ⟨k,hk⟩:=List.getElem?_of_mem hi
  have hkl:=(List.getElem?_eq_some_iff.1 hk).1
  have hls:∀b:Bool,(if b=true then [Zp (k:Int)] else []).length≤1∧∀l∈(if b=true then [Zp (k:Int)] else []),smallText l=true:=fun b=>by
   cases b with
   | false=>exact ⟨by simp,fun l hl=>by simp at hl⟩
   | true=>exact ⟨by simp,fun l hl=>by
     rw[if_pos rfl,List.mem_singleton] at hl
     rw[hl];exact (ZqA (by omega) (by omega)).2⟩
  rcases Zmf hn ha hk with ⟨hkn,x,hx,hb,rfl⟩ | ⟨_,rfl⟩
  ·exact ⟨hb.small (by omega),hls _⟩
  ·exact ⟨(by decide:smallText (bs [])=true),hls _⟩
 have:=ZQn (t:=threadB a n) (n:=1) fun i hi=>(hlab i hi).2.1
 unfold smallThread
 simp only[Bool.and_eq_true,decide_eq_true_eq,List.all_eq_true]
 exact ⟨by omega,by omega,fun i hi=>⟨(hlab i hi).1,(hlab i hi).2.2⟩⟩
theorem ZOT (K:Int):symsC K [] symsB=K:=by kernel_rfl
theorem ZLA {p:El Zc} :∀ {th:List (List (El Za))},(∀t∈th,threadC p t=0)→thsC p th=0
 | [],_=>rfl
 | t :: r,h=>by
  unfold thsC
  rw[h t (List.mem_cons_self ..)]
  simp only[ne_eq,not_true_eq_false,if_false]
  exact ZLA fun x hx=>h x (List.mem_cons_of_mem _ hx)
theorem ZPw (l:List (List (El Zs))) {threads many:Int} (h0:0≤threads) (h1:threads≤64) (m0:0≤many) (m1:many≤90):checkC (Zv l threads many)=0∧smallProg (Zv l threads many)=true∧Ze9 l threads many=true:=by
 refine ⟨?_,?_,?_⟩
 ·unfold checkC Zv
  show (if 64 < symsB.length∨64 < ((l.take threads.toNat).map fun a=>threadB a (min a.length many.toNat)).length then (10:Int) else symsC (thsC _ ((l.take threads.toNat).map fun a=>threadB a (min a.length many.toNat))) [] symsB)=0
  rw[if_neg,ZOT]
  ·exact ZLA fun t ht=>by
    obtain ⟨a,_,rfl⟩:=List.mem_map.1 ht
    exact ZKl (by omega) (by omega)
  ·rw[List.length_map,List.length_take]
   have:symsB.length=3:=rfl
   omega
 ·unfold smallProg Zv
  simp only[Bool.and_eq_true,List.all_eq_true]
  refine ⟨?_,fun t ht=>?_⟩
  ·have:symsB.all (fun s=>smallText s.1)=true:=by decide+kernel
   rw[List.all_eq_true] at this
   exact this
  ·obtain ⟨a,_,rfl⟩:=List.mem_map.1 ht
   exact ZO4 (by omega) (by omega)
 ·unfold Ze9
  simp only[Bool.and_eq_true,decide_eq_true_eq]
  omega
end Go.Ev
end

section
open Go
namespace Go.Ev
end Go.Ev
end

section
open Go Go.Ev
namespace Go.Ev
noncomputable section
def ZcD:Sig:=[(false,(.sl (.int .i64))),(false,(.sl (.int .i64)))]
noncomputable def ZmT:Tbl:=[]
theorem ZBd:∀p∈ZmT,EntOK Go.Proofs.Tryz.prog p.1 p.2:=Zt
noncomputable def Zir:Code:=Go.Proofs.Tryz.f5.body.getD .skip
def ZkX:Tb:=[(6,⟨[0,1,5],[]⟩)]
inductive ZfD where | l6 (i:Int)
def Zfb (a:List Int) (b:List Int):ZfD→JT ZfD (Bool) |.l6 i=>.br (decide (i < (Int.ofNat (List.length a)))) (.br ((decide ((0:Int)≤i))&&(decide (i < (Int.ofNat (List.length a))))) (.br ((decide ((0:Int)≤i))&&(decide (i < (Int.ofNat (List.length b))))) (.br ((List.getD a (Int.toNat i) (dflt (.int .i64))) !=(List.getD b (Int.toNat i) (dflt (.int .i64)))) (.leaf false) (.jmp (.l6 (IntKind.i64.wrap (i+(1:Int)))))) (.no)) (.no)) (.leaf true)
def ZkG (a:List Int) (b:List Int):JT ZfD (Bool):=.br ((Int.ofNat (List.length a)) !=(Int.ofNat (List.length b))) (.leaf false) (.jmp (.l6 (0:Int)))
def ZiT:Bool→AV:=fun (r:Bool)=>.d .bool r
def Zcy (a:List Int) (b:List Int):ZfD→Nat×St |.l6 i=>(6,⟨mkTm 26 [(0,.d (.sl (.int .i64)) a),(1,.d (.sl (.int .i64)) b),(5,.d (.int .i64) i)],[]⟩)
theorem ZBo (a:List Int) (b:List Int) (L:Lt):entryA Go.Proofs.Tryz.prog (clOf ZmT) ZkX Go.Proofs.Tryz.f5 Zir L (toForms ZcD (a,b,()))=(ZkG a b).run (fun v=>some (ZiT v,tps (toForms ZcD (a,b,())))) fun j=>L (Zcy a b j).1 (Zcy a b j).2:=by kernel_rfl
theorem ZBf (a:List Int) (b:List Int):∀(L:Lt) (j:ZfD),procOf (procsF Go.Proofs.Tryz.prog (clOf ZmT) ZkX Go.Proofs.Tryz.f5 Zir (toForms ZcD (a,b,()))) (Zcy a b j).1 L (Zcy a b j).2=(Zfb a b j).run (fun v=>some (ZiT v,tps (toForms ZcD (a,b,())))) fun j=>L (Zcy a b j).1 (Zcy a b j).2 | L,.l6 i=>by kernel_rfl
end
end Go.Ev
end

section
open Go
namespace Go.Ev
theorem ZQq {a b:Int} :(a==b)=decide (a=b):=by rw[Bool.eq_iff_iff];simp
def ZP (a b:List Int):Bool:=decide (a=b)
def Z0 (a b:List Int):Bool:=decide (a.length < 4611686018427387904)
theorem ZCW (a b:List Int) (hk:Z0 a b=true):Goes (Zfb a b) (ZkG a b) (ZP a b):=by
 have hn:a.length < 4611686018427387904:=of_decide_eq_true hk
 have loop:a.length=b.length→∀k,k≤a.length→Goes (Zfb a b) (.jmp (.l6 (k:Int))) (decide (a.drop k=b.drop k)):=by
  intro he
  refine down ?_ fun k hk ih=>?_
  ·rw[Zh]
   simp[Zfb,Ze,ZR,he]
  ·rw[Zh]
   have hkb:k < b.length:=he▸hk
   simp only[Zfb,Ze,ZK hk,ZK hkb,nng,Bool.and_self,if_true,Int.toNat_natCast,ZG hk,ZG hkb,Zo (k:=k) (by omega)]
   rw[ZM hk,ZM hkb]
   split
   ·rename_i h1
    have h2:(! decide (a[k]=b[k]))=true:=(congrArg Bool.not ZQq).symm.trans h1
    have h3:¬a[k]=b[k]:=by simpa using h2
    rw[decide_eq_false (fun e=>h3 (List.cons.inj e).1)]
    exact .leaf
   ·rename_i h1
    have h2:¬(! decide (a[k]=b[k]))=true:=fun h=>h1 ((congrArg Bool.not ZQq).trans h)
    have h3:a[k]=b[k]:=by simpa using h2
    rw[show decide (a[k] :: List.drop (k+1) a=b[k] :: List.drop (k+1) b)=decide (List.drop (k+1) a=List.drop (k+1) b) from decide_eq_decide.2 ⟨fun e=>(List.cons.inj e).2,fun e=>by rw[h3,e]⟩]
    exact ih
 unfold ZkG ZP
 rw[Ze]
 by_cases h:a.length=b.length
 ·have:=loop h 0 (Nat.zero_le _)
  simpa[h] using this
 ·have:a≠b:=fun e=>h (congrArg _ e)
  rw[if_pos (by simp;omega),decide_eq_false this]
  exact .leaf
end Go.Ev
end

section
open Go
namespace Go.Ev
theorem ZC3 {n:Nat} {M:Nat→Bool} :(listOf n M).length≤n:=by rw[ZiO];exact ZfC
theorem Ztz {n:Nat} {M:Nat→Bool} {x:Int} :(listOf n M).contains x=(decide (0≤x∧x < (n:Int))&&M x.toNat):=by
 rw[Bool.eq_iff_iff,List.contains_iff_mem,ZcE]
 simp only[Bool.and_eq_true,decide_eq_true_eq]
 constructor
 ·rintro ⟨i,h1,h2,rfl⟩;exact ⟨by omega,by rw[Int.toNat_natCast];exact h2⟩
 ·rintro ⟨h1,h2⟩;exact ⟨x.toNat,by omega,h2,by omega⟩
theorem ZPP {l:List Int} (h:l.length < 1099511627776):Z0 l l=true∧ZP l l=true:=⟨decide_eq_true (by omega),decide_eq_true rfl⟩
theorem ZQk {t:List (El Za)} {points:List Int} (h:flowOK t=true) (hp:points.length < 4611686018427387904) (s:Int):
  Zb5 t points s=true∧Z0 (ZQ t points s) (ZQ t points s)=true∧ZP (ZQ t points s) (ZQ t points s)=true:=by
 have k1:Zb5 t points s=true:=by unfold Zb5;rw[h,decide_eq_true hp];rfl
 have hl:=Zbx h
 exact ⟨k1,ZPP (by unfold ZQ;have:= @ZC3 t.length (endsB t points s);omega)⟩
theorem ZQ5 {t:List (El Za)} {points:List Int} (h:flowOK t=true) (hp:points.length < 4611686018427387904) (s l:Int):
  Zhv t points s l=true∧ZdK t points s l=(decide (0≤l∧l < (t.length:Int))&&endsB t points s l.toNat):=by
 obtain ⟨k1,_⟩:=ZQk h hp s
 have hl:=Zbx h
 have ki:ZaE (ZQ t points s) l=true:=decide_eq_true (by unfold ZQ;have:= @ZC3 t.length (endsB t points s);omega)
 have vr:ZdK t points s l=(decide (0≤l∧l < (t.length:Int))&&endsB t points s l.toNat):=by
  unfold ZdK Zac ZaL
  rw[k1,ki]
  simp only[cond_true]
  unfold Zbb
  rw[ZL6]
  unfold ZQ
  exact Ztz
 refine ⟨?_,vr⟩
 unfold Zhv Zac;rw[k1,ki];rfl
end Go.Ev
end

section
open Go Go.Ev
namespace Go.Ev
noncomputable section
def ZlX:Sig:=[(false,(.sl (.int .i64))),(false,(.int .i64))]
noncomputable def ZCg:Tbl:=[]
theorem ZOJ:∀p∈ZCg,EntOK Go.Proofs.Tryz.prog p.1 p.2:=Zt
noncomputable def Zyd:Code:=Go.Proofs.Tryz.f56.body.getD .skip
def Zzq:Tb:=[(3,⟨[0,1,5],[]⟩)]
inductive ZuC where | l3 (i:Int)
def Zt8 (l:List Int) (n:Int):ZuC→JT ZuC (Bool) |.l3 i=>.br (decide (i < (Int.ofNat (List.length l)))) (.br ((decide ((0:Int)≤i))&&(decide (i < (Int.ofNat (List.length l))))) (.br ((List.getD l (Int.toNat i) (dflt (.int .i64)))==n) (.leaf true) (.jmp (.l3 (IntKind.i64.wrap (i+(1:Int)))))) (.no)) (.leaf false)
def Zzy (l:List Int) (n:Int):JT ZuC (Bool):=.jmp (.l3 (0:Int))
def Zxy:Bool→AV:=fun (r:Bool)=>.d .bool r
def ZmC (l:List Int) (n:Int):ZuC→Nat×St |.l3 i=>(3,⟨mkTm 18 [(0,.d (.sl (.int .i64)) l),(1,.d (.int .i64) n),(5,.d (.int .i64) i)],[]⟩)
theorem ZOH (l:List Int) (n:Int) (L:Lt):entryA Go.Proofs.Tryz.prog (clOf ZCg) Zzq Go.Proofs.Tryz.f56 Zyd L (toForms ZlX (l,n,()))=(Zzy l n).run (fun v=>some (Zxy v,tps (toForms ZlX (l,n,())))) fun j=>L (ZmC l n j).1 (ZmC l n j).2:=by kernel_rfl
theorem ZPk (l:List Int) (n:Int):∀(L:Lt) (j:ZuC),procOf (procsF Go.Proofs.Tryz.prog (clOf ZCg) Zzq Go.Proofs.Tryz.f56 Zyd (toForms ZlX (l,n,()))) (ZmC l n j).1 L (ZmC l n j).2=(Zt8 l n j).run (fun v=>some (Zxy v,tps (toForms ZlX (l,n,())))) fun j=>L (ZmC l n j).1 (ZmC l n j).2 | L,.l3 i=>by kernel_rfl
end
end Go.Ev
end

section
open Go
namespace Go.Ev
def Zj7 (l:List Int) (n:Int):Bool:=l.contains n
def ZmB (l:List Int) (n:Int):Bool:=decide (l.length < 4611686018427387904)
theorem ZQM (l:List Int) (n:Int) (hk:ZmB l n=true):Goes (Zt8 l n) (Zzy l n) (Zj7 l n):=by
 have hn:l.length < 4611686018427387904:=of_decide_eq_true hk
 have loop:∀k,k≤l.length→Goes (Zt8 l n) (.jmp (.l3 (k:Int))) ((l.drop k).contains n):=by
  refine down ?_ fun k hk ih=>?_
  ·rw[Zh]
   simp only[Zt8,Ze,Zw (Nat.lt_irrefl _),ZR,List.drop_length]
   simp
  ·rw[Zh]
   simp only[Zt8,Ze,ZK hk,nng,Bool.and_self,if_true,Int.toNat_natCast,ZG hk,Zo (k:=k) (by omega)]
   rw[ZM hk,List.contains_cons]
   cases h:(l[k]==n) with
   | true=>
    have:(n==l[k])=true:=by simp at h ⊢;exact h.symm
    rw[this];simp[ZR]
   | false=>
    have:(n==l[k])=false:=by simp at h ⊢;exact fun e=>h e.symm
    rw[this];simpa using ih
 unfold Zzy Zj7
 simpa using loop 0 (Nat.zero_le _)
end Go.Ev
end

section
open Go Go.Ev
namespace Go.Ev
noncomputable section
noncomputable def ZB3:Run:=entG ZlX Zxy (fun a=>ZmB a.1 a.2.1) (fun a=>Zj7 a.1 a.2.1)
theorem ZFl:EntOK Go.Proofs.Tryz.prog 56 ZB3:=ZH (tb:=Zzq) (c:=Zyd) ZOJ (by kernel_rfl) (by kernel_rfl) (by kernel_rfl) (fun a=>by kernel_rfl) fun ⟨l,n,_⟩ hk=>Zm (c:=Zyd) (K:=fun v=>(Zxy v,tps (toForms ZlX (l,n,())))) (S:=ZmC l n) (by kernel_rfl) (ZOH l n) (ZPk l n) (ZQM l n hk)
end
end Go.Ev
end

section
open Go Go.Ev
namespace Go.Ev
noncomputable section
def Zgk:Sig:=[(true,Za)]
noncomputable def Zti:Tbl:=[(95,Zcp),(114,Zsg)]
theorem ZHY:∀p∈Zti,EntOK Go.Proofs.Tryz.prog p.1 p.2:=Zg ZcI (Zg ZvQ (Zt))
noncomputable def ZnA:Code:=Go.Proofs.Tryz.f118.body.getD .skip
def ZrZ:Tb:=[]
def ZAn (i:El Za):Empty→JT Empty (Bool):=fun j=>nomatch j
def Zxh (i:El Za):JT Empty (Bool):=.br (ZC i) (.br ((ZB i)==(0:Int)) (.br (i.1==(12:Int)) (.leaf true) (.br (Zal i) (.leaf (ZaB i)) (.no))) (.br (Zal i) (.leaf (ZaB i)) (.no))) (.no)
def Zh8 (i:El Za):Bool:=bif (ZC i) then bif ((ZB i)==(0:Int)) then bif (i.1==(12:Int)) then true else bif (Zal i) then (ZaB i) else false else bif (Zal i) then (ZaB i) else false else false
def Zh6 (i:El Za):Bool:=bif (ZC i) then bif ((ZB i)==(0:Int)) then bif (i.1==(12:Int)) then true else bif (Zal i) then true else false else bif (Zal i) then true else false else false
theorem ZJq (i:El Za) (hk:Zh6 i=true):Goes (ZAn i) (Zxh i) (Zh8 i):=Goes.brk hk (fun hk=>Goes.brk hk (fun hk=>Goes.brk hk (fun hk=>Goes.leaf) (fun hk=>Goes.brk hk (fun hk=>Goes.leaf) (fun hk=>Goes.nok hk))) (fun hk=>Goes.brk hk (fun hk=>Goes.leaf) (fun hk=>Goes.nok hk))) (fun hk=>Goes.nok hk)
def Zoc:Bool→AV:=fun (r:Bool)=>.d .bool r
def Zfq (i:El Za):Empty→Nat×St:=fun j=>nomatch j
theorem ZGo (i:El Za) (L:Lt):entryA Go.Proofs.Tryz.prog (clOf Zti) ZrZ Go.Proofs.Tryz.f118 ZnA L (toForms Zgk (i,()))=(Zxh i).run (fun v=>some (Zoc v,tps (toForms Zgk (i,())))) fun j=>L (Zfq i j).1 (Zfq i j).2:=by kernel_rfl
theorem ZGc (i:El Za):∀(L:Lt) (j:Empty),procOf (procsF Go.Proofs.Tryz.prog (clOf Zti) ZrZ Go.Proofs.Tryz.f118 ZnA (toForms Zgk (i,()))) (Zfq i j).1 L (Zfq i j).2=(ZAn i j).run (fun v=>some (Zoc v,tps (toForms Zgk (i,())))) fun j=>L (Zfq i j).1 (Zfq i j).2:=fun L j=>nomatch j
noncomputable def ZAt:Run:=entG Zgk Zoc (fun a=>Zh6 a.1) (fun a=>Zh8 a.1)
theorem ZGw:EntOK Go.Proofs.Tryz.prog 118 ZAt:=ZH (tb:=ZrZ) (c:=ZnA) ZHY (by kernel_rfl) (by kernel_rfl) (by kernel_rfl) (fun a=>by kernel_rfl) fun ⟨i,_⟩ hk=>Zm (c:=ZnA) (K:=fun v=>(Zoc v,tps (toForms Zgk (i,())))) (S:=Zfq i) (by kernel_rfl) (ZGo i) (ZGc i) (ZJq i hk)
end
end Go.Ev
end

section
open Go Go.Ev
namespace Go.Ev
noncomputable section
def Zh7:Sig:=[(true,(.sl Za)),(false,(.sl (.int .i64))),(false,(.int .i64))]
noncomputable def Zwt:Tbl:=[(115,Zw0),(56,ZB3),(118,ZAt)]
theorem ZJo:∀p∈Zwt,EntOK Go.Proofs.Tryz.prog p.1 p.2:=Zg ZzS (Zg ZFl (Zg ZGw (Zt)))
noncomputable def Zry:Code:=Go.Proofs.Tryz.f69.body.getD .skip
def Zt0:Tb:=[(4,⟨[1,3,7,8],[]⟩),(10,⟨[1,3,7,9],[]⟩),(15,⟨[1,3,7,9,10],[]⟩),(23,⟨[1,3,7,9,10,11,12],[]⟩)]
inductive Zm2 where | l4 (i:Int) (is:List Bool) | l10 (is:List Bool) (moved:Bool) | l15 (is:List Bool) (k:Int) (moved:Bool) | l23 (is:List Bool) (k:Int) (more:List Bool) (moved:Bool) (j_:Int)
def ZaT (t:List (El Za)) (points:List Int) (s:Int):Zm2→JT Zm2 (List Bool) |.l4 i is=>.br (decide (i < (Int.ofNat (List.length is)))) (.br ((decide ((0:Int)≤i))&&(decide (i < (Int.ofNat (List.length is))))) (.br (List.getD is (Int.toNat i) (dflt .bool)) (.br (ZmB points i) (.br ((decide ((0:Int)≤i))&&(decide (i < (Int.ofNat (List.length is))))) (.jmp (.l4 (IntKind.i64.wrap (i+(1:Int))) (List.set is (Int.toNat i) (! (Zj7 points i))))) (.no)) (.no)) (.br ((decide ((0:Int)≤i))&&(decide (i < (Int.ofNat (List.length is))))) (.jmp (.l4 (IntKind.i64.wrap (i+(1:Int))) (List.set is (Int.toNat i) false))) (.no))) (.no)) (.jmp (.l10 is true)) |.l10 is moved=>.br moved (.jmp (.l15 is (0:Int) false)) (.leaf is) |.l15 is k moved=>.br (decide (k < (Int.ofNat (List.length is)))) (.br ((decide ((0:Int)≤k))&&(decide (k < (Int.ofNat (List.length is))))) (.br (! (List.getD is (Int.toNat k) (dflt .bool))) (.jmp (.l15 is (IntKind.i64.wrap (k+(1:Int))) moved)) (.br ((decide ((0:Int)≤k))&&(decide (k < (Int.ofNat (List.length t))))) (.br (Zh6 (List.getD t (Int.toNat k) (dflt Za))) (.br (Zh8 (List.getD t (Int.toNat k) (dflt Za))) (.jmp (.l15 is (IntKind.i64.wrap (k+(1:Int))) moved)) (.br (Zda t k) (.jmp (.l23 is k (Zbg t k) moved (0:Int))) (.no))) (.no)) (.no))) (.no)) (.jmp (.l10 is moved)) |.l23 is k more moved j_=>.br (decide (j_ < (Int.ofNat (List.length is)))) (.br ((decide ((0:Int)≤j_))&&(decide (j_ < (Int.ofNat (List.length more))))) (.br (List.getD more (Int.toNat j_) (dflt .bool)) (.br ((decide ((0:Int)≤j_))&&(decide (j_ < (Int.ofNat (List.length is))))) (.br (! (List.getD is (Int.toNat j_) (dflt .bool))) (.br (ZmB points j_) (.br (! (Zj7 points j_)) (.br ((decide ((0:Int)≤j_))&&(decide (j_ < (Int.ofNat (List.length is))))) (.jmp (.l23 (List.set is (Int.toNat j_) true) k more true (IntKind.i64.wrap (j_+(1:Int))))) (.no)) (.jmp (.l23 is k more moved (IntKind.i64.wrap (j_+(1:Int)))))) (.no)) (.jmp (.l23 is k more moved (IntKind.i64.wrap (j_+(1:Int)))))) (.no)) (.jmp (.l23 is k more moved (IntKind.i64.wrap (j_+(1:Int)))))) (.no)) (.jmp (.l15 is (IntKind.i64.wrap (k+(1:Int))) moved))
def ZtA (t:List (El Za)) (points:List Int) (s:Int):JT Zm2 (List Bool):=.br (Zda t s) (.jmp (.l4 (0:Int) (Zbg t s))) (.no)
def Zqx:List Bool→AV:=fun (r:List Bool)=>.rw 4 .bool r
def Zhi (t:List (El Za)) (points:List Int) (s:Int):Zm2→Nat×St |.l4 i is=>(4,⟨mkTm 85 [(1,.d (.sl (.int .i64)) points),(3,.pt 4 0 0),(7,.own 8 0 none),(8,.d (.int .i64) i)],[(4,0,.box 42 [.d (.sl Za) t] none),(8,0,.row 4 .bool is false)]⟩) |.l10 is moved=>(10,⟨mkTm 85 [(1,.d (.sl (.int .i64)) points),(3,.pt 4 0 0),(7,.own 8 0 none),(9,.d .bool moved)],[(4,0,.box 42 [.d (.sl Za) t] none),(8,0,.row 4 .bool is false)]⟩) |.l15 is k moved=>(15,⟨mkTm 85 [(1,.d (.sl (.int .i64)) points),(3,.pt 4 0 0),(7,.own 8 0 none),(9,.d .bool moved),(10,.d (.int .i64) k)],[(4,0,.box 42 [.d (.sl Za) t] none),(8,0,.row 4 .bool is false)]⟩) |.l23 is k more moved j_=>(23,⟨mkTm 85 [(1,.d (.sl (.int .i64)) points),(3,.pt 4 0 0),(7,.own 8 0 none),(9,.d .bool moved),(10,.d (.int .i64) k),(11,.own 12 0 none),(12,.d (.int .i64) j_)],[(4,0,.box 42 [.d (.sl Za) t] none),(8,0,.row 4 .bool is false),(12,0,.row 4 .bool more false)]⟩)
theorem ZLZ (t:List (El Za)) (points:List Int) (s:Int) (L:Lt):entryA Go.Proofs.Tryz.prog (clOf Zwt) Zt0 Go.Proofs.Tryz.f69 Zry L (toForms Zh7 (t,points,s,()))=(ZtA t points s).run (fun v=>some (Zqx v,tps (toForms Zh7 (t,points,s,())))) fun j=>L (Zhi t points s j).1 (Zhi t points s j).2:=by kernel_rfl
theorem ZKh (t:List (El Za)) (points:List Int) (s:Int):∀(L:Lt) (j:Zm2),procOf (procsF Go.Proofs.Tryz.prog (clOf Zwt) Zt0 Go.Proofs.Tryz.f69 Zry (toForms Zh7 (t,points,s,()))) (Zhi t points s j).1 L (Zhi t points s j).2=(ZaT t points s j).run (fun v=>some (Zqx v,tps (toForms Zh7 (t,points,s,())))) fun j=>L (Zhi t points s j).1 (Zhi t points s j).2 | L,.l4 i is=>by kernel_rfl | L,.l10 is moved=>by kernel_rfl | L,.l15 is k moved=>by kernel_rfl | L,.l23 is k more moved j_=>by kernel_rfl
end
end Go.Ev
end

section
open Go
namespace Go.Ev
theorem ZRG {i:El Za} (h:smallText i.2.2.2.2.2.1=true):ZeV i=true∧Zh6 i=true:=by
 have h0:ZS i=true:=h
 have h1:ZC i=true:=h
 have a:Zax i=true:=by unfold Zax;simp only[h0,cond_true,Bool.cond_self]
 have b:Zal i=true:=by unfold Zal;simp only[h1,cond_true,Bool.cond_self]
 unfold ZeV Zh6
 simp only[h0,h1,a,b,cond_true,Bool.cond_self,and_self]
theorem ZPV {i:El Za} (h:smallText i.2.2.2.2.2.1=true):Zh8 i=ZhB i:=by
 have h0:ZS i=true:=h
 have h1:ZC i=true:=h
 have a:Zax i=true:=by unfold Zax;simp only[h0,cond_true,Bool.cond_self]
 have b:Zal i=true:=by unfold Zal;simp only[h1,cond_true,Bool.cond_self]
 have c:ZaB i=Zan i:=by
  unfold ZaB Zan ZB
  simp only[h0,h1]
 unfold Zh8 ZhB ZB
 simp only[h0,h1,a,b,c]
end Go.Ev
end

section
open Go
namespace Go.Ev
noncomputable def Zap (t:List (El Za)) (points:List Int) (s:Int):List Bool:=rowOf t.length (endsB t points s)
def ZfJ (t:List (El Za)) (points:List Int) (s:Int):Bool:=flowOK t&&decide (points.length < 4611686018427387904)
theorem ZNj (t:List (El Za)) (points:List Int) (s:Int) (hk:ZfJ t points s=true):Goes (ZaT t points s) (ZtA t points s) (Zap t points s):=by
 unfold ZfJ at hk
 rw[Bool.and_eq_true] at hk
 obtain ⟨hf,hpl⟩:=hk
 have hlen:=Zbx hf
 have kIn:∀x,ZmB points x=true:=fun x=>hpl
 have vIn:∀x,Zj7 points x=points.contains x:=fun x=>rfl
 generalize hn:t.length=n at hlen
 have kfe:∀k,k < n→Zh6 (List.getD t k (dflt Za))=true∧Zh8 (List.getD t k (dflt Za))=fenceAtT t k:=fun k hk=>by
  have hmem:t.getD k (dflt Za)∈t:=by rw[ZG (by omega)];exact List.getElem_mem (by omega)
  have hs:=ZrN hf hmem
  exact ⟨(ZRG hs).2,ZPV hs⟩
 let OK:(Nat→Bool)→(Nat→Bool)→Bool→Prop:=fun M0 M moved=>(∀j,firstB t points s j=true→M j=true)∧(∀j,M j=true→Come (stepB t points) (firstB t points s) j)∧(moved=false→M=M0)∧(moved=true→card n M0 < card n M)
 have hltM:∀ {M0 M moved},OK M0 M moved→∀j,M j=true→j < n:=fun h j hj=>by
  have:=ZGV (n:=t.length) (fun j=>ZLl) (fun k j=>ZIj) (h.2.1 j hj)
  omega
 have loop:∀m,∀M:Nat→Bool,n - card n M=m→(∀j,firstB t points s j=true→M j=true)→(∀j,M j=true→Come (stepB t points) (firstB t points s) j)→Goes (ZaT t points s) (.jmp (.l10 (rowOf n M) true)) (Zap t points s):=by
  intro m
  induction m using Nat.strongRecOn with
  | _ m ih=>
  intro M0 hm hA hC
  have inner:∀k,k < n→fenceAtT t k=false→∀Z:Prop,(∀M moved,OK M0 M moved→(moved=false→Z∧∀j,stepB t points k j=true→M0 j=true)→Goes (ZaT t points s) (.jmp (.l15 (rowOf n M) ((k+1:Nat):Int) moved)) (Zap t points s))→
    ∀j,j≤n→∀M moved,M k=true→OK M0 M moved→(moved=false→Z∧∀x,x < j→stepB t points k x=true→M0 x=true)→Goes (ZaT t points s) (.jmp (.l23 (rowOf n M) (k:Int) (rowOf n (nextB t (k:Int))) moved (j:Int))) (Zap t points s):=by
   intro k hkn hfk Z hz
   have hst:∀x,stepB t points k x=(nextB t (k:Int) x&& !points.contains (x:Int)):=fun x=>by unfold stepB;rw[hfk];rfl
   refine down ?_ fun j hj ih2=>?_
   ·intro M moved hMk hok hcl
    rw[Zh,ZaT,Ze,ZL,if_neg (by rw[Zw (Nat.lt_irrefl _)];decide),Zo (by omega)]
    exact hz M moved hok fun hm=>⟨(hcl hm).1,fun j hj=>(hcl hm).2 j (by have:=ZIj hj;omega) hj⟩
   ·intro M moved hMk hok hcl
    rw[Zh,ZaT,Ze,ZL,if_pos (ZK hj),Ze,ZL,if_pos (Zas hj),Ze,Int.toNat_natCast,ZbK hj,Zo (by omega)]
    have skip:(stepB t points k j=true→moved=false→M0 j=true)→Goes (ZaT t points s) (.jmp (.l23 (rowOf n M) (k:Int) (rowOf n (nextB t (k:Int))) moved ((j+1:Nat):Int))) (Zap t points s):=fun hsk=>by
     refine ih2 M moved hMk hok fun hm=>⟨(hcl hm).1,fun x hx hxN=>?_⟩
     by_cases hxj:x=j
     ·subst hxj;exact hsk hxN hm
     ·exact (hcl hm).2 x (by omega) hxN
    by_cases hN:nextB t (k:Int) j=true
    ·rw[if_pos hN,Ze,if_pos (Zas hj),Ze,ZbK hj]
     cases hMj:M j with
     | true=>
      rw[if_neg (by decide)]
      exact skip fun _ hm=>by rw[←hok.2.2.1 hm];exact hMj
     | false=>
      rw[if_pos (by decide),Ze,if_pos (kIn _),Ze,vIn]
      cases hpt:points.contains (j:Int) with
      | true=>
       rw[if_neg (by decide)]
       exact skip fun h _=>by rw[hst,hpt,Bool.not_true,Bool.and_false] at h;cases h
      | false=>
       rw[if_pos (by decide),Ze,if_pos (Zas hj),ZtX]
       have hca:=Zos hMj hj
       refine ih2 (fun x=>M x || (x==j)) true (by rw[hMk];rfl) ⟨fun x hx=>(show (M x || (x==j))=true by rw[hok.1 x hx];rfl),fun x hx=>?_,fun h=>(by cases h),fun _=>?_⟩ (fun h=>by cases h)
       ·simp only[Bool.or_eq_true,beq_iff_eq] at hx
        rcases hx with hx | hx
        ·exact hok.2.1 x hx
        ·subst hx;exact .step (hok.2.1 k hMk) (by rw[hst,hN,hpt];rfl)
       ·cases moved with
        | true=>have:=hok.2.2.2 rfl;omega
        | false=>rw[hok.2.2.1 rfl] at hca;rw[hok.2.2.1 rfl];omega
    ·rw[if_neg hN]
     exact skip fun h _=>by rw[hst] at h;simp only[Bool.and_eq_true] at h;exact absurd h.1 hN
  have pass:∀k,k≤n→∀M moved,OK M0 M moved→(moved=false→∀k' j,k' < k→M0 k'=true→stepB t points k' j=true→M0 j=true)→Goes (ZaT t points s) (.jmp (.l15 (rowOf n M) (k:Int) moved)) (Zap t points s):=by
   refine down ?_ fun k hkn ih2=>?_
   ·intro M moved hok hcl
    rw[Zh,ZaT,Ze,ZL,if_neg (by rw[Zw (Nat.lt_irrefl _)];decide)]
    cases moved with
    | true=>
     have h1:=hok.2.2.2 rfl
     have h2:= @ZfC n M
     exact ih (n - card n M) (by omega) M rfl hok.1 hok.2.1
    | false=>
     have e:=hok.2.2.1 rfl
     subst e
     rw[Zh,ZaT,Ze,if_neg (by decide)]
     have hv:rowOf n M=Zap t points s:=by
      unfold Zap endsB
      rw[hn]
      exact Z7 fun j _=>Zq8 hok.1 (fun k j hk hj=>hcl rfl k j (hltM hok k hk) hk hj) hok.2.1 j
     rw[hv];exact .leaf
   ·intro M moved hok hcl
    rw[Zh,ZaT,Ze,ZL,if_pos (ZK hkn),Ze,if_pos (Zas hkn),Ze,Int.toNat_natCast,ZbK hkn]
    cases hMk:M k with
    | false=>
     rw[if_pos (by decide),Zo (by omega)]
     refine ih2 M moved hok fun hm k' j hk' hk1 hj=>?_
     by_cases e:k'=k
     ·subst e;rw[←hok.2.2.1 hm,hMk] at hk1;cases hk1
     ·exact hcl hm k' j (by omega) hk1 hj
    | true=>
     have kn:Zda t (k:Int)=true:=hf
     obtain ⟨kf1,vf1⟩:=kfe k hkn
     rw[if_neg (by decide),Ze,hn,if_pos (Zas hkn),Ze,if_pos kf1,Ze,vf1]
     cases hfk:fenceAtT t k with
     | true=>
      rw[if_pos rfl,Zo (by omega)]
      refine ih2 M moved hok fun hm k' j hk' hk1 hj=>?_
      by_cases e:k'=k
      ·subst e;unfold stepB at hj;rw[hfk] at hj;cases hj
      ·exact hcl hm k' j (by omega) hk1 hj
     | false=>
      rw[if_neg (by decide),Ze,if_pos kn]
      have hvn:Zbg t (k:Int)=rowOf n (nextB t (k:Int)):=by unfold Zbg;rw[hn]
      rw[hvn]
      refine inner k hkn hfk (∀k' j,k' < k→M0 k'=true→stepB t points k' j=true→M0 j=true) (fun M' moved' hok' hcl'=>ih2 M' moved' hok' fun hm k' j hk' hk1 hj=>?_) 0 (Nat.zero_le _) M moved hMk hok (fun hm=>⟨hcl hm,fun x hx=>by omega⟩)
      by_cases e:k'=k
      ·subst e;exact (hcl' hm).2 j hj
      ·exact (hcl' hm).1 k' j (by omega) hk1 hj
  rw[Zh,ZaT,Ze,if_pos rfl]
  exact pass 0 (Nat.zero_le _) M0 false ⟨hA,hC,fun _=>rfl,fun h=>by cases h⟩ fun _ k' j h=>by omega
 have kn:Zda t s=true:=hf
 unfold ZtA
 rw[Ze,if_pos kn]
 have hvn:Zbg t s=rowOf n fun j=>if j < 0 then firstB t points s j else nextB t s j:=by
  unfold Zbg;rw[hn]
  exact Z7 fun j _=>by rw[if_neg (by omega)]
 rw[hvn]
 have first:∀k,k≤n→Goes (ZaT t points s) (.jmp (.l4 (k:Int) (rowOf n fun j=>if j < k then firstB t points s j else nextB t s j))) (Zap t points s):=by
  refine down ?_ fun k hkn ih=>?_
  ·rw[Zh,ZaT,Ze,ZL,if_neg (by rw[Zw (Nat.lt_irrefl _)];decide)]
   rw[show (rowOf n fun j=>if j < n then firstB t points s j else nextB t s j)=rowOf n (firstB t points s) from Z7 fun j hj=>by rw[if_pos hj]]
   exact loop _ (firstB t points s) rfl (fun j h=>h) (fun j h=>.start h)
  ·have nx:∀b,b=firstB t points s k→Goes (ZaT t points s) (.jmp (.l4 ((k+1:Nat):Int) ((rowOf n fun j=>if j < k then firstB t points s j else nextB t s j).set k b))) (Zap t points s):=fun b hb=>by
    rw[ZDG]
    rw[show (rowOf n fun j=>if j=k then b else if j < k then firstB t points s j else nextB t s j)=rowOf n fun j=>if j < k+1 then firstB t points s j else nextB t s j from Z7 fun j _=>by
     by_cases h1:j=k
     ·subst h1;rw[if_pos rfl,if_pos (by omega),hb]
     ·rw[if_neg h1]
      by_cases h2:j < k
      ·rw[if_pos h2,if_pos (by omega)]
      ·rw[if_neg h2,if_neg (by omega)]]
    exact ih
   rw[Zh,ZaT,Ze,ZL,if_pos (ZK hkn),Ze,if_pos (Zas hkn),Ze,Int.toNat_natCast,ZbK hkn,if_neg (c:=k < k) (Nat.lt_irrefl k),Zo (by omega)]
   cases hN:nextB t s k with
   | true=>
    rw[if_pos rfl,Ze,if_pos (kIn _),Ze,if_pos (Zas hkn),vIn]
    exact nx _ (by unfold firstB;rw[hN,Bool.true_and])
   | false=>
    rw[if_neg (by decide),Ze,if_pos (Zas hkn)]
    exact nx false (by unfold firstB;rw[hN,Bool.false_and])
 exact first 0 (Nat.zero_le _)
end Go.Ev
end

section
namespace Go.Ev
open Go
end Go.Ev
end

section
namespace Go.Ev
open Go
end Go.Ev
end

section
open Go Go.Ev
namespace Go.Ev
noncomputable section
noncomputable def ZCn:Run:=entG Zh7 Zqx (fun a=>ZfJ a.1 a.2.1 a.2.2.1) (fun a=>Zap a.1 a.2.1 a.2.2.1)
theorem ZLJ:EntOK Go.Proofs.Tryz.prog 69 ZCn:=ZH (tb:=Zt0) (c:=Zry) ZJo (by kernel_rfl) (by kernel_rfl) (by kernel_rfl) (fun a=>by kernel_rfl) fun ⟨t,points,s,_⟩ hk=>Zm (c:=Zry) (K:=fun v=>(Zqx v,tps (toForms Zh7 (t,points,s,())))) (S:=Zhi t points s) (by kernel_rfl) (ZLZ t points s) (ZKh t points s) (ZNj t points s hk)
end
end Go.Ev
end

section
open Go Go.Ev
namespace Go.Ev
noncomputable section
def Zh0:Sig:=[(true,(.sl Za)),(false,(.sl (.int .i64))),(false,(.int .i64)),(false,(.int .i64))]
noncomputable def Zw1:Tbl:=[(69,ZCn)]
theorem ZJe:∀p∈Zw1,EntOK Go.Proofs.Tryz.prog p.1 p.2:=Zg ZLJ (Zt)
noncomputable def Zrd:Code:=Go.Proofs.Tryz.f45.body.getD .skip
def ZsC:Tb:=[]
def ZCA (t:List (El Za)) (points:List Int) (s:Int) (l:Int):Empty→JT Empty (Bool):=fun j=>nomatch j
def ZzU (t:List (El Za)) (points:List Int) (s:Int) (l:Int):JT Empty (Bool):=.br (decide (l≥(0:Int))) (.br (decide (l < (Int.ofNat (List.length t)))) (.br (ZfJ t points s) (.br ((decide ((0:Int)≤l))&&(decide (l < (Int.ofNat (List.length (Zap t points s)))))) (.leaf (List.getD (Zap t points s) (Int.toNat l) (dflt .bool))) (.no)) (.no)) (.leaf false)) (.leaf false)
def Zfn (t:List (El Za)) (points:List Int) (s:Int) (l:Int):Bool:=bif (decide (l≥(0:Int))) then bif (decide (l < (Int.ofNat (List.length t)))) then bif (ZfJ t points s) then bif ((decide ((0:Int)≤l))&&(decide (l < (Int.ofNat (List.length (Zap t points s)))))) then (List.getD (Zap t points s) (Int.toNat l) (dflt .bool)) else false else false else false else false
def Zhj (t:List (El Za)) (points:List Int) (s:Int) (l:Int):Bool:=bif (decide (l≥(0:Int))) then bif (decide (l < (Int.ofNat (List.length t)))) then bif (ZfJ t points s) then bif ((decide ((0:Int)≤l))&&(decide (l < (Int.ofNat (List.length (Zap t points s)))))) then true else false else false else true else true
theorem ZMt (t:List (El Za)) (points:List Int) (s:Int) (l:Int) (hk:Zhj t points s l=true):Goes (ZCA t points s l) (ZzU t points s l) (Zfn t points s l):=Goes.brk hk (fun hk=>Goes.brk hk (fun hk=>Goes.brk hk (fun hk=>Goes.brk hk (fun hk=>Goes.leaf) (fun hk=>Goes.nok hk)) (fun hk=>Goes.nok hk)) (fun hk=>Goes.leaf)) (fun hk=>Goes.leaf)
def Zrg:Bool→AV:=fun (r:Bool)=>.d .bool r
def Zhp (t:List (El Za)) (points:List Int) (s:Int) (l:Int):Empty→Nat×St:=fun j=>nomatch j
theorem ZMb (t:List (El Za)) (points:List Int) (s:Int) (l:Int) (L:Lt):entryA Go.Proofs.Tryz.prog (clOf Zw1) ZsC Go.Proofs.Tryz.f45 Zrd L (toForms Zh0 (t,points,s,l,()))=(ZzU t points s l).run (fun v=>some (Zrg v,tps (toForms Zh0 (t,points,s,l,())))) fun j=>L (Zhp t points s l j).1 (Zhp t points s l j).2:=by kernel_rfl
theorem ZJI (t:List (El Za)) (points:List Int) (s:Int) (l:Int):∀(L:Lt) (j:Empty),procOf (procsF Go.Proofs.Tryz.prog (clOf Zw1) ZsC Go.Proofs.Tryz.f45 Zrd (toForms Zh0 (t,points,s,l,()))) (Zhp t points s l j).1 L (Zhp t points s l j).2=(ZCA t points s l j).run (fun v=>some (Zrg v,tps (toForms Zh0 (t,points,s,l,())))) fun j=>L (Zhp t points s l j).1 (Zhp t points s l j).2:=fun L j=>nomatch j
noncomputable def ZwP:Run:=entG Zh0 Zrg (fun a=>Zhj a.1 a.2.1 a.2.2.1 a.2.2.2.1) (fun a=>Zfn a.1 a.2.1 a.2.2.1 a.2.2.2.1)
theorem ZAR:EntOK Go.Proofs.Tryz.prog 45 ZwP:=ZH (tb:=ZsC) (c:=Zrd) ZJe (by kernel_rfl) (by kernel_rfl) (by kernel_rfl) (fun a=>by kernel_rfl) fun ⟨t,points,s,l,_⟩ hk=>Zm (c:=Zrd) (K:=fun v=>(Zrg v,tps (toForms Zh0 (t,points,s,l,())))) (S:=Zhp t points s l) (by kernel_rfl) (ZMb t points s l) (ZJI t points s l) (ZMt t points s l hk)
end
end Go.Ev
end

section
open Go
namespace Go.Ev
theorem ZGk {t:List (El Za)} {points:List Int} (h:flowOK t=true) (hp:points.length < 4611686018427387904) (s l:Int):
  Zhv t points s l=true∧Zhj t points s l=true∧Zfn t points s l=ZdK t points s l∧ZdK t points s l=(decide (0≤l∧l < (t.length:Int))&&endsB t points s l.toNat):=by
 have hl:=Zbx h
 have k4:ZfJ t points s=true:=by unfold ZfJ;rw[h,decide_eq_true hp];rfl
 obtain ⟨kr,vr⟩:=ZQ5 h hp s l
 refine ⟨kr,?_,?_,vr⟩
 ·unfold Zhj
  by_cases h0:l≥0
  ·rw[decide_eq_true h0,cond_true]
   by_cases h1:l < Int.ofNat t.length
   ·have h2:decide (l < Int.ofNat (Zap t points s).length)=true:=by
     unfold Zap
     rw[ZL];exact decide_eq_true h1
    simp only[decide_eq_true h1,k4,h2,Bool.and_self,Bool.true_and,cond_true]
   ·rw[decide_eq_false h1];rfl
  ·rw[decide_eq_false h0];rfl
 ·rw[vr]
  unfold Zfn
  by_cases h0:l≥0
  ·rw[decide_eq_true h0,cond_true]
   by_cases h1:l < Int.ofNat t.length
   ·have h2:decide (l < Int.ofNat (Zap t points s).length)=true:=by
     unfold Zap
     rw[ZL];exact decide_eq_true h1
    simp only[decide_eq_true h1,k4,h2,Bool.and_self,Bool.true_and,cond_true]
    rw[decide_eq_true (show 0≤l∧l < (t.length:Int) from ⟨h0,h1⟩),Bool.true_and]
    unfold Zap
    obtain ⟨j,rfl⟩:=Int.eq_ofNat_of_zero_le h0
    rw[Int.toNat_natCast,ZbK (by have:(j:Int) < (t.length:Int):=h1;omega)]
   ·rw[decide_eq_false h1,decide_eq_false (show ¬(0≤l∧l < (t.length:Int)) from fun h=>h1 h.2)];rfl
  ·rw[decide_eq_false h0,decide_eq_false (show ¬(0≤l∧l < (t.length:Int)) from fun h=>h0 h.1)];rfl
end Go.Ev
end

section
open Go Go.Ev
namespace Go.Ev
noncomputable section
noncomputable def Zp2:Run:=entG ZeJ Zlz (fun a=>ZbP a.1) (fun a=>Zx a.1)
theorem ZvL:EntOK Go.Proofs.Tryz.prog 44 Zp2:=ZH (tb:=Zpl) (c:=Zlx) ZFd (by kernel_rfl) (by kernel_rfl) (by kernel_rfl) (fun a=>by kernel_rfl) fun ⟨p,_⟩ hk=>Zm (c:=Zlx) (K:=fun v=>(Zlz v,tps (toForms ZeJ (p,())))) (S:=ZdL p) (by kernel_rfl) (ZEg p) (ZEI p) (ZGO p hk)
end
end Go.Ev
end

section
open Go Go.Ev
namespace Go.Ev
noncomputable section
def ZhR:Sig:=[(true,Zc)]
noncomputable def ZwG:Tbl:=[(44,Zp2),(45,ZwP)]
theorem ZLe:∀p∈ZwG,EntOK Go.Proofs.Tryz.prog p.1 p.2:=Zg ZvL (Zg ZAR (Zt))
noncomputable def Zr0:Code:=Go.Proofs.Tryz.f25.body.getD .skip
def ZuD:Tb:=[(5,⟨[1,3,4,5],[(5,106)]⟩)]
inductive Zl4 where | l5 (i:Int) (out:List (El Zd))
def Zm1 (p:El Zc):Zl4→JT Zl4 (List (El Zd)) |.l5 i out=>.br (decide (i < (Int.ofNat (List.length (Zx p))))) (.br ((decide ((0:Int)≤i))&&(decide (i < (Int.ofNat (List.length (Zx p)))))) (.br ((decide ((0:Int)≤(List.getD (Zx p) (Int.toNat i) (dflt Zd)).1))&&(decide ((List.getD (Zx p) (Int.toNat i) (dflt Zd)).1 < (Int.ofNat (List.length p.2))))) (.br ((decide ((0:Int)≤i))&&(decide (i < (Int.ofNat (List.length (Zx p)))))) (.br ((decide ((0:Int)≤i))&&(decide (i < (Int.ofNat (List.length (Zx p)))))) (.br (Zhj (List.getD p.2 (Int.toNat (List.getD (Zx p) (Int.toNat i) (dflt Zd)).1) (dflt (.sl Za))) [] (List.getD (Zx p) (Int.toNat i) (dflt Zd)).2.1 (List.getD (Zx p) (Int.toNat i) (dflt Zd)).2.2) (.br (Zfn (List.getD p.2 (Int.toNat (List.getD (Zx p) (Int.toNat i) (dflt Zd)).1) (dflt (.sl Za))) [] (List.getD (Zx p) (Int.toNat i) (dflt Zd)).2.1 (List.getD (Zx p) (Int.toNat i) (dflt Zd)).2.2) (.br ((decide ((0:Int)≤i))&&(decide (i < (Int.ofNat (List.length (Zx p)))))) (.br (Nat.ble (((List.length out)+1)*24) limit) (.jmp (.l5 (IntKind.i64.wrap (i+(1:Int))) (out++[(List.getD (Zx p) (Int.toNat i) (dflt Zd))]))) (.no)) (.no)) (.jmp (.l5 (IntKind.i64.wrap (i+(1:Int))) out))) (.no)) (.no)) (.no)) (.no)) (.no)) (.leaf out)
def Zum (p:El Zc):JT Zl4 (List (El Zd)):=.br (ZbP p) (.jmp (.l5 (0:Int) [])) (.no)
def ZrW:List (El Zd)→AV:=fun (r:List (El Zd))=>.rw 57 Zd r
def Zht (p:El Zc):Zl4→Nat×St |.l5 i out=>(5,⟨mkTm 42 [(1,.pt 2 0 0),(3,.own 4 0 none),(4,.own 5 0 none),(5,.d (.int .i64) i)],[(2,0,.box 26 [.d (.sl Zy) p.1,.d (.sl (.sl Za)) p.2] none),(4,0,.row 57 Zd (Zx p) false),(5,0,.row 57 Zd out false)]⟩)
theorem ZK5 (p:El Zc) (L:Lt):entryA Go.Proofs.Tryz.prog (clOf ZwG) ZuD Go.Proofs.Tryz.f25 Zr0 L (toForms ZhR (p,()))=(Zum p).run (fun v=>some (ZrW v,tps (toForms ZhR (p,())))) fun j=>L (Zht p j).1 (Zht p j).2:=by kernel_rfl
theorem ZMm (p:El Zc):∀(L:Lt) (j:Zl4),procOf (procsF Go.Proofs.Tryz.prog (clOf ZwG) ZuD Go.Proofs.Tryz.f25 Zr0 (toForms ZhR (p,()))) (Zht p j).1 L (Zht p j).2=(Zm1 p j).run (fun v=>some (ZrW v,tps (toForms ZhR (p,())))) fun j=>L (Zht p j).1 (Zht p j).2 | L,.l5 i out=>by kernel_rfl
end
end Go.Ev
end

section
open Go
namespace Go.Ev
noncomputable def openR (p:El Zc) (x:El Zd):Bool:=Zfn (List.getD p.2 (Int.toNat x.1) (dflt (.sl Za))) [] x.2.1 x.2.2
noncomputable def openRK (p:El Zc) (x:El Zd):Bool:=(decide ((0:Int)≤x.1)&&decide (x.1 < Int.ofNat (List.length p.2)))&&Zhj (List.getD p.2 (Int.toNat x.1) (dflt (.sl Za))) [] x.2.1 x.2.2
noncomputable def Z1 (p:El Zc):List (El Zd):=(Zx p).filter (openR p)
noncomputable def Zdc (p:El Zc):Bool:=ZbP p&&(decide ((Zx p).length < 10000000000)&&(Zx p).all (openRK p))
theorem ZMX (p:El Zc) (hk:Zdc p=true):Goes (Zm1 p) (Zum p) (Z1 p):=by
 unfold Zdc at hk
 rw[Bool.and_eq_true,Bool.and_eq_true] at hk
 obtain ⟨k1,k2,k3⟩:=hk
 have hN:=of_decide_eq_true k2
 unfold Zum Z1
 rw[Ze,if_pos k1]
 obtain ⟨l,hl⟩:∃l,Zx p=l:=⟨_,rfl⟩
 rw[hl] at hN k3
 rw[hl]
 have loop:∀k,k≤l.length→∀out:List (El Zd),out.length≤k→Goes (Zm1 p) (.jmp (.l5 (k:Int) out)) (out++(l.drop k).filter (openR p)):=by
  refine down ?_ fun k hk ih=>?_
  ·intro out ho
   rw[Zh,Zm1,hl,Ze,if_neg (by rw[Zw (Nat.lt_irrefl _)];decide),List.drop_length]
   simp only[List.filter_nil,List.append_nil]
   exact .leaf
  ·intro out ho
   have b1:Nat.ble ((out.length+1)*24) limit=true:=Nat.ble_eq_true_of_le (by unfold limit;omega)
   have hx:=List.all_eq_true.1 k3 l[k] (List.getElem_mem hk)
   unfold openRK at hx
   rw[Bool.and_eq_true] at hx
   rw[Zh,Zm1,hl,ZM hk,List.filter_cons]
   simp only[Ze,ZK hk,nng,Bool.and_self,if_true,Int.toNat_natCast,ZG hk,b1,Zo (k:=k) (by omega)]
   rw[if_pos hx.1,if_pos hx.2]
   by_cases c:openR p l[k]=true
   ·have c':=c
    unfold openR at c'
    rw[if_pos c',if_pos c]
    have:=ih (out++[l[k]]) (by simp;omega)
    rw[List.append_assoc] at this
    exact this
   ·have c':=c
    unfold openR at c'
    rw[if_neg c',if_neg c]
    exact ih out (by omega)
 have:=loop 0 (Nat.zero_le _) [] (Nat.zero_le _)
 rw[List.nil_append,List.drop_zero] at this
 exact this
end Go.Ev
end

section
open Go
namespace Go.Ev
end Go.Ev
end

section
open Go
namespace Go.Ev
def fromX (t:List (El Za)) (i:Int) (j:Nat):Bool:=(comeL (fun k j=>nextB t (k:Int) j) (nextB t i) t.length).getD j false
theorem ZOg (t:List (El Za)) (i:Int) (j:Nat):fromB t i j=fromX t i j:=ZHn (fun j=>ZeT) (fun k j=>ZeT) j
def behX (p:El Zc) (l:List Acc) (c d:Nat):Bool:=
 decide (d < l.length)&&(thA l d==thA l c&&(d==c || ((inA l d==inA l c&&decide (paA l d > paA l c)) || (decide (0≤inA l d)&&fromX (thrOf p l c) (inA l c) (inA l d).toNat))))
theorem ZSE (p:El Zc) (l:List Acc) (c d:Nat):behB p l c d=behX p l c d:=by
 unfold behB behX
 rw[ZOg]
def chX (p:El Zc) (l:List Acc) (a i k:Nat):Bool:=decide (k < l.length)&&(!(thA l k==thA l a)&&(clB l i k || behX p l i k))
def isX (p:El Zc) (l:List Acc) (a k:Nat):Bool:=(comeL (chX p l a) (chS l a) l.length).getD k false
theorem ZST (p:El Zc) (l:List Acc) (a k:Nat):isB p l a k=isX p l a k:=by
 have e:chB p l a=chX p l a:=by
  funext i k
  unfold chB chX
  rw[ZSE]
 unfold isB isX
 rw[e]
 refine ZHn (fun j h=>?_) (fun k j h=>?_) k
 ·unfold chS at h
  rw[Bool.and_eq_true,decide_eq_true_eq] at h
  exact h.1
 ·unfold chX at h
  rw[Bool.and_eq_true,decide_eq_true_eq] at h
  exact h.1
def backX (p:El Zc) (l:List Acc) (a b:Nat):Bool:=thA l b==thA l a&&(List.range l.length).any fun k=>isX p l a k&&clB l k b
theorem ZRs (p:El Zc) (l:List Acc) (a b:Nat):backB p l a b=backX p l a b:=by
 unfold backB backX
 simp only[ZST]
end Go.Ev
end

section
open Go
namespace Go.Ev
theorem ZN4 (p:El Zc):(Zx p).length≤(ofC p).length*(ofC p).length:=by
 unfold Zx delsFrom
 have:=Zqv (ZOj p (ofC p)) (List.range' 0 ((ofC p).length - 0))
 rw[List.length_range',Nat.sub_zero] at this
 exact this
theorem ZBF {p:El Zc} {x:El Zd} (h:x∈Zx p):∃s r,s < (ofC p).length∧r < (ofC p).length∧stB' (ofC p) s=true∧delB p (ofC p) s r=true∧x=delPair (ofC p) s r:=by
 unfold Zx delsFrom at h
 obtain ⟨s,hs,hx⟩:=List.mem_flatMap.1 h
 rw[Nat.sub_zero,←List.range_eq_range'] at hs
 unfold delS at hx
 split at hx
 ·rename_i hst
  obtain ⟨r,hr,rfl⟩:=List.mem_map.1 hx
  obtain ⟨hr1,hr2⟩:=List.mem_filter.1 hr
  rw[←List.range_eq_range'] at hr1
  exact ⟨s,r,List.mem_range.1 hs,List.mem_range.1 hr1,hst,hr2,rfl⟩
 ·cases hx
theorem ZCO {p:El Zc} (h:smallAll p=true) {x:El Zd} (hx:x∈Zx p):openK p x=true∧openRK p x=true∧openR p x=openB p x:=by
 obtain ⟨s,r,hs,hr,h1,h2,rfl⟩:=ZBF hx
 obtain ⟨t0,t1,hf,i0,i1⟩:=ZgK h hs
 have hf':flowOK (List.getD p.2 (Int.toNat (delPair (ofC p) s r).1) (dflt (.sl Za)))=true:=hf
 obtain ⟨f1,f2,f3,_⟩:=ZGk hf' (points:=[]) (by decide) (delPair (ofC p) s r).2.1 (delPair (ofC p) s r).2.2
 have hin:(decide ((0:Int)≤(delPair (ofC p) s r).1)&&decide ((delPair (ofC p) s r).1 < Int.ofNat (List.length p.2)))=true:=by
  rw[Bool.and_eq_true,decide_eq_true_eq,decide_eq_true_eq];exact ⟨t0,t1⟩
 unfold openK openRK openR openB
 rw[hin,f1,f2]
 exact ⟨rfl,rfl,f3⟩
theorem ZPa {p:El Zc} (h:smallAll p=true) (hN:(ofC p).length≤20000) (hT:p.2.length≤100):
  Z6 p=true∧ZbP p=true∧Zx p=Zl p∧Zsm (Zl p) (Zl p)=true∧ZaI p=true∧Zdc p=true∧Z1 p=Zn p∧Zsm (Zn p) (Zn p)=true:=by
 have hNN:(ofC p).length*(ofC p).length≤20000*20000:=Nat.mul_le_mul hN hN
 have hTN:p.2.length*((ofC p).length*(ofC p).length)≤100*(20000*20000):=Nat.mul_le_mul hT hNN
 have k1:Z6 p=true:=by
  unfold Z6
  rw[h,decide_eq_true (show (ofC p).length < 1000000000 by omega),decide_eq_true (show p.2.length < 1000000000 by omega),decide_eq_true]
  ·rfl
  ·unfold limit;omega
 have k2:ZbP p=true:=by unfold ZbP;rw[h,decide_eq_true (show (ofC p).length < 1000000 by omega)];rfl
 have e:=ZPH k1
 have hl:=ZN4 p
 have hl2:(Zx p).length≤400000000:=by omega
 have k3:ZaI p=true:=by
  unfold ZaI
  rw[k1,e,decide_eq_true (Nat.lt_of_le_of_lt hl2 (by decide)),Bool.true_and,Bool.true_and]
  exact List.all_eq_true.2 fun x hx=>(ZCO h hx).1
 have k4:Zdc p=true:=by
  unfold Zdc
  rw[k2,decide_eq_true (Nat.lt_of_le_of_lt hl2 (by decide)),Bool.true_and,Bool.true_and]
  exact List.all_eq_true.2 fun x hx=>(ZCO h hx).2.1
 have e2:Z1 p=Zn p:=by
  unfold Z1 Zn
  rw[e]
  exact List.filter_congr fun x hx=>(ZCO h hx).2.2
 refine ⟨k1,k2,e.symm,decide_eq_true (by rw[e];exact Nat.lt_of_le_of_lt hl2 (by decide)),k3,k4,e2,decide_eq_true ?_⟩
 have:(Zn p).length≤(Zl p).length:=by unfold Zn;exact List.length_filter_le _ _
 rw[e] at this
 exact Nat.lt_of_le_of_lt (Nat.le_trans this hl2) (by decide)
def delBX (p:El Zc) (l:List Acc) (s r:Nat):Bool:=((thA l r==thA l s)&&ldB' l r)&&(fromX (thrOf p l s) (inA l s) (inA l r).toNat&&backX p l r s)
def delsX (p:El Zc) (l:List Acc):List (El Zd):=(List.range' 0 l.length).flatMap fun s=>if stB' l s then ((List.range' 0 l.length).filter fun r=>delBX p l s r).map (delPair l s) else []
theorem ZRw (p:El Zc):Zx p=delsX p (ofC p):=by
 unfold Zx delsFrom delsX delS
 rw[Nat.sub_zero]
 have:∀l s r,delB p l s r=delBX p l s r:=fun l s r=>by unfold delB delBX;rw[ZOg,ZRs]
 simp only[this]
def endsX (t:List (El Za)) (points:List Int) (s:Int) (j:Nat):Bool:=(comeL (stepB t points) (firstB t points s) t.length).getD j false
theorem ZN7 (t:List (El Za)) (points:List Int) (s:Int) (j:Nat):endsB t points s j=endsX t points s j:=ZHn (fun j=>ZLl) (fun k j=>ZIj) j
end Go.Ev
end

section
namespace Go.Ev
open Go
theorem ZtF {zs:List Int} {j:Nat} (h:j < zs.length):zs.toArray[j]! =zs[j]:=by simp[h]
theorem ZMo {zs:List Int} {x:Int} :x∈Go.Lib.compact zs↔x∈zs:=by
 unfold Go.Lib.compact Go.Lib.compactUpTo
 rw[List.mem_map]
 constructor
 ·rintro ⟨j,hj,rfl⟩
  obtain ⟨h1,_⟩:=List.mem_filter.1 hj
  have hj:=List.mem_range.1 h1
  rw[ZtF hj]
  exact List.getElem_mem hj
 ·intro hx
  obtain ⟨j,hj,he⟩:=List.mem_iff_getElem.1 hx
  induction j using Nat.strongRecOn with
  | _ j ih=>
  by_cases hk:Go.Lib.keeps zs.toArray j=true
  ·exact ⟨j,List.mem_filter.2 ⟨List.mem_range.2 hj,hk⟩,by rw[ZtF hj,he]⟩
  ·unfold Go.Lib.keeps at hk
   simp only[ne_eq,decide_eq_true_eq,not_or,Decidable.not_not] at hk
   obtain ⟨h0,h1⟩:=hk
   have hj':j - 1 < zs.length:=by omega
   rw[ZtF hj,ZtF hj'] at h1
   exact ih (j - 1) (by omega) hj' (h1▸he)
theorem ZE1 {zs:List Int} (h:zs.Pairwise (· ≤ ·)):(Go.Lib.compact zs).Pairwise (· < ·):=by
 unfold Go.Lib.compact Go.Lib.compactUpTo
 have hg:=List.pairwise_iff_getElem.1 h
 refine List.pairwise_map.2 ((List.Pairwise.filter _ List.pairwise_lt_range).imp_of_mem ?_)
 intro i j hi hj hij
 obtain ⟨h1,_⟩:=List.mem_filter.1 hi
 obtain ⟨h2,h3⟩:=List.mem_filter.1 hj
 have hi:=List.mem_range.1 h1
 have hj:=List.mem_range.1 h2
 have hj':j - 1 < zs.length:=by omega
 unfold Go.Lib.keeps at h3
 simp only[ne_eq,decide_eq_true_eq] at h3
 rw[ZtF hi,ZtF hj]
 rw[ZtF hj,ZtF hj'] at h3
 have a1:zs[i]≤zs[j - 1]:=by
  by_cases e:i=j - 1
  ·subst e;exact Int.le_refl _
  ·exact hg i (j - 1) hi hj' (by omega)
 have a2:zs[j - 1]≤zs[j]:=hg (j - 1) j hj' hj (by omega)
 rcases h3 with h3 | h3
 ·omega
 ·have:zs[j]≠zs[j - 1]:=h3
  omega
@[reducible] def risL (l:List Int):List Int:=Go.Lib.compact (sorted l)
theorem ZQK (l:List Int):(sorted l).Pairwise (· ≤ ·):=by
 have:=List.pairwise_mergeSort (le:=fun x y:Int=>decide (x≤y)) (fun a b c h1 h2=>by simp at*;omega) (fun a b=>by simp;omega) l
 exact this.imp fun h=>by simpa using h
theorem ZOt {l:List Int} {x:Int} :x∈risL l↔x∈l:=by rw[ZMo,List.mem_mergeSort]
theorem ZCH {l:List Int} :(risL l).Pairwise (· < ·):=ZE1 (ZQK l)
theorem Zyo {l:List Int} :(risL l).length≤l.length:=by
 have:=Go.Lib.compact_length_le (sorted l)
 rwa[List.length_mergeSort] at this
def putL (n:Int):List Int→List Int
 | []=>[n]
 | x :: r=>if x < n then x :: putL n r else if x=n then x :: r else n :: x :: r
theorem ZBu {n x:Int} :∀ {l:List Int},x∈putL n l↔x=n∨x∈l
 | []=>by simp[putL]
 | y :: r=>by
  unfold putL
  split
  ·rw[List.mem_cons,ZBu,List.mem_cons]
   constructor
   ·rintro (h | h | h) <;> simp[h]
   ·rintro (h | h | h) <;> simp[h]
  ·split
   ·rename_i h
    subst h
    simp
   ·simp
theorem ZwN {n:Int} :∀ {l:List Int},l.Pairwise (· < ·)→(putL n l).Pairwise (· < ·)
 | [],_=>by simp[putL]
 | y :: r,h=>by
  obtain ⟨h1,h2⟩:=List.pairwise_cons.1 h
  unfold putL
  split
  ·refine List.pairwise_cons.2 ⟨fun z hz=>?_,ZwN h2⟩
   rcases ZBu.1 hz with rfl | hz
   ·assumption
   ·exact h1 z hz
  ·split
   ·exact h
   ·refine List.pairwise_cons.2 ⟨fun z hz=>?_,h⟩
    rcases List.mem_cons.1 hz with rfl | hz
    ·omega
    ·have:=h1 z hz;omega
theorem ZBw {n:Int} :∀ {l:List Int},(putL n l).length≤l.length+1
 | []=>by simp[putL]
 | y :: r=>by
  unfold putL
  split
  ·have:= @ZBw n r
   simp;omega
  ·split <;> simp
def putsL (acc:List Int) (l:List Int):List Int:=l.foldl (fun a n=>putL n a) acc
theorem Zkh {x:Int} :∀ {l acc:List Int},x∈putsL acc l↔x∈acc∨x∈l
 | [],acc=>by simp[putsL]
 | n :: r,acc=>by
  show x∈putsL (putL n acc) r↔_
  rw[Zkh,ZBu,List.mem_cons]
  constructor
  ·rintro ((h | h) | h) <;> simp[h]
  ·rintro (h | h | h) <;> simp[h]
theorem Zfr:∀ {l acc:List Int},acc.Pairwise (· < ·)→(putsL acc l).Pairwise (· < ·)
 | [],acc,h=>h
 | n :: r,acc,h=>Zfr (l:=r) (ZwN h)
end Go.Ev
end

section
open Go
namespace Go.Ev
section
variable {α:Type} (U:List Int→α→Bool)
def stepG (pts:List Int) (l:List α) (acc:Int×List α) (k:Nat):Int×List α:=if (l.filter (U (pts++[(k:Int)]))).length < acc.2.length then ((k:Int),l.filter (U (pts++[(k:Int)]))) else acc
def bestFrom (n:Nat) (pts:List Int) (l:List α) (k:Nat) (acc:Int×List α):Int×List α:=(List.range' k (n - k)).foldl (stepG U pts l) acc
def bestG (n:Nat) (pts:List Int) (l:List α):Int×List α:=bestFrom U n pts l 0 (0,l)
def greedyL (n:Nat):Nat→List Int→List α→List Int
 | 0,pts,_=>pts
 | f+1,pts,l=>if l.length=0 then pts else greedyL n f (pts++[(bestG U n pts l).1]) (bestG U n pts l).2
def pruneL (all:List α):List Int→List Int→List Int
 | done,[]=>done
 | done,x :: r=>if (all.filter (U (done++r))).length=0 then pruneL all done r else pruneL all (done++[x]) r
variable {U}
theorem Ztu {n:Nat} {pts:List Int} {l:List α} {acc:Int×List α} :bestFrom U n pts l n acc=acc:=by unfold bestFrom;rw[Nat.sub_self];rfl
theorem Zrn {n:Nat} {pts:List Int} {l:List α} {k:Nat} (hk:k < n) {acc:Int×List α} :bestFrom U n pts l k acc=bestFrom U n pts l (k+1) (stepG U pts l acc k):=by
 unfold bestFrom
 rw[show n - k=(n - (k+1))+1 by omega,List.range'_succ,List.foldl_cons]
theorem ZKv {n:Nat} {pts:List Int} {l:List α} :∀(m k:Nat),k+m=n→∀acc:Int×List α,
  ((bestFrom U n pts l k acc)=acc∨∃j:Nat,k≤j∧j < n∧(bestFrom U n pts l k acc).1=(j:Int)∧(bestFrom U n pts l k acc).2=l.filter (U (pts++[(j:Int)]))∧(bestFrom U n pts l k acc).2.length < acc.2.length)∧
  (bestFrom U n pts l k acc).2.length≤acc.2.length∧∀j:Nat,k≤j→j < n→(bestFrom U n pts l k acc).2.length≤(l.filter (U (pts++[(j:Int)]))).length:=by
 intro m
 induction m with
 | zero=>
  intro k hk acc
  have:k=n:=by omega
  subst this
  rw[Ztu]
  exact ⟨.inl rfl,Nat.le_refl _,fun j h1 h2=>by omega⟩
 | succ m ih=>
  intro k hk acc
  rw[Zrn (by omega)]
  obtain ⟨h1,h2,h3⟩:=ih (k+1) (by omega) (stepG U pts l acc k)
  unfold stepG at h1 h2 h3 ⊢
  by_cases hc:(l.filter (U (pts++[(k:Int)]))).length < acc.2.length
  ·rw[if_pos hc] at h1 h2 h3 ⊢
   refine ⟨.inr ?_,by simp only at h2;omega,fun j j1 j2=>?_⟩
   ·rcases h1 with h1 | ⟨j,j1,j2,j3,j4,j5⟩
    ·rw[h1];exact ⟨k,Nat.le_refl _,by omega,rfl,rfl,hc⟩
    ·exact ⟨j,by omega,j2,j3,j4,by simp only at j5;omega⟩
   ·by_cases e:j=k
    ·subst e;exact h2
    ·exact h3 j (by omega) j2
  ·rw[if_neg hc] at h1 h2 h3 ⊢
   refine ⟨?_,h2,fun j j1 j2=>?_⟩
   ·rcases h1 with h1 | ⟨j,j1,j2,j3⟩
    ·exact .inl h1
    ·exact .inr ⟨j,by omega,j2,j3⟩
   ·by_cases e:j=k
    ·subst e;omega
    ·exact h3 j (by omega) j2
def Cuts (U:List Int→α→Bool) (n:Nat) (l:List α):Prop:=∀x∈l,∃k:Nat,k < n∧∀pts:List Int,U (pts++[(k:Int)]) x=false
theorem ZQ4 {p:α→Bool} {l:List α} {x:α} (hx:x∈l) (hp:p x=false):(l.filter p).length < l.length:=by
 induction l with
 | nil=>cases hx
 | cons y r ih=>
  rw[List.filter_cons]
  rcases List.mem_cons.1 hx with rfl | hx
  ·rw[hp,if_neg Bool.false_ne_true]
   have:=List.length_filter_le p r
   show (List.filter p r).length < r.length+1
   omega
  ·have:=ih hx
   split
   ·show (List.filter p r).length+1 < r.length+1
    omega
   ·show (List.filter p r).length < r.length+1
    omega
theorem Zy3 {n:Nat} {pts:List Int} {l:List α} (hc:Cuts U n l) (hl:0 < l.length):
  ∃j:Nat,j < n∧(bestG U n pts l).1=(j:Int)∧(bestG U n pts l).2=l.filter (U (pts++[(j:Int)]))∧(bestG U n pts l).2.length < l.length:=by
 obtain ⟨h1,h2,h3⟩:=ZKv (U:=U) (n:=n) (pts:=pts) (l:=l) n 0 (by omega) (0,l)
 have hx:l[0]∈l:=List.getElem_mem hl
 obtain ⟨k,hk,hU⟩:=hc _ hx
 have h4:=h3 k (Nat.zero_le _) hk
 have h5:=ZQ4 hx (hU pts)
 unfold bestG
 rcases h1 with h1 | ⟨j,_,j2,j3,j4,j5⟩
 ·rw[h1] at h4
  simp only at h4
  omega
 ·exact ⟨j,j2,j3,j4,j5⟩
theorem ZGx {n:Nat} {l m:List α} (h:Cuts U n l) (hs:∀x∈m,x∈l):Cuts U n m:=fun x hx=>h x (hs x hx)
def Mem (U:List Int→α→Bool):Prop:=∀ {p q:List Int},(∀k,k∈p↔k∈q)→∀x,U p x=U q x
def stepR (U:List Int→α→Bool) (pts:List Int) (l:List α) (acc:Int×Nat) (k:Nat):Int×Nat:=if (l.filter (U (putL (k:Int) pts))).length < acc.2 then ((k:Int),(l.filter (U (putL (k:Int) pts))).length) else acc
def bestFromR (U:List Int→α→Bool) (n:Nat) (pts:List Int) (l:List α) (k:Nat) (acc:Int×Nat):Int×Nat:=(List.range' k (n - k)).foldl (stepR U pts l) acc
def bestR (U:List Int→α→Bool) (n:Nat) (pts:List Int) (l:List α):Int×Nat:=bestFromR U n pts l 0 (0,l.length)
def greedyR (U:List Int→α→Bool) (n:Nat):Nat→List Int→List α→List Int
 | 0,pts,_=>pts
 | f+1,pts,l=>if l.length=0 then pts else greedyR U n f (putL (bestR U n pts l).1 pts) (l.filter (U (putL (bestR U n pts l).1 pts)))
theorem ZyJ {n:Nat} {pts:List Int} {l:List α} {acc:Int×Nat} :bestFromR U n pts l n acc=acc:=by unfold bestFromR;rw[Nat.sub_self];rfl
theorem ZvO {n:Nat} {pts:List Int} {l:List α} {k:Nat} (hk:k < n) {acc:Int×Nat} :bestFromR U n pts l k acc=bestFromR U n pts l (k+1) (stepR U pts l acc k):=by
 unfold bestFromR
 rw[show n - k=(n - (k+1))+1 by omega,List.range'_succ,List.foldl_cons]
theorem ZIr {p q:List Int} (h:∀k,k∈p↔k∈q) (n k:Int):k∈putL n q↔k∈p++[n]:=by
 rw[ZBu,List.mem_append,List.mem_singleton,h]
 exact Or.comm
theorem ZOr (hU:Mem U) {n:Nat} {p q:List Int} (h:∀k,k∈p↔k∈q) {l:List α} :∀(m k:Nat),k+m=n→∀(acc:Int×List α) (acc':Int×Nat),acc'=(acc.1,acc.2.length)→
  bestFromR U n q l k acc'=((bestFrom U n p l k acc).1,(bestFrom U n p l k acc).2.length):=by
 intro m
 induction m with
 | zero=>
  intro k hk acc acc' he
  have:k=n:=by omega
  subst this
  rw[Ztu,ZyJ,he]
 | succ m ih=>
  intro k hk acc acc' he
  rw[Zrn (by omega),ZvO (by omega)]
  refine ih (k+1) (by omega) _ _ ?_
  have e:U (putL (k:Int) q)=U (p++[(k:Int)]):=funext fun x=>hU (ZIr h (k:Int)) x
  unfold stepR stepG
  rw[e,he]
  try simp only
  split <;> rfl
theorem ZJK (hU:Mem U) {n:Nat} :∀ {f:Nat} {p q:List Int} {l:List α},Cuts U n l→l.length≤f→(∀k,k∈p↔k∈q)→q.Pairwise (· < ·)→
  (greedyR U n f q l).Pairwise (· < ·)∧∀k,k∈greedyL U n f p l↔k∈greedyR U n f q l
 | 0,p,q,l,_,_,h,hq=>⟨hq,h⟩
 | f+1,p,q,l,hc,hf,h,hq=>by
  unfold greedyR greedyL
  by_cases h0:l.length=0
  ·rw[if_pos h0,if_pos h0];exact ⟨hq,h⟩
  ·rw[if_neg h0,if_neg h0]
   obtain ⟨j,_,e1,e2,e3⟩:=Zy3 (pts:=p) hc (by omega)
   have eb:bestR U n q l=((bestG U n p l).1,(bestG U n p l).2.length):=ZOr hU h n 0 (by omega) (0,l) (0,l.length) rfl
   rw[eb,e2,e1]
   try simp only
   have e:U (putL (j:Int) q)=U (p++[(j:Int)]):=funext fun x=>hU (ZIr h (j:Int)) x
   rw[e]
   rw[e2] at e3
   exact ZJK hU (ZGx hc fun x hx=>(List.mem_filter.1 hx).1) (by omega) (fun k=>(ZIr h _ k).symm) (ZwN hq)
def without (l:List Int) (n:Int):List Int:=l.filter fun x=>x !=n
def pruneStep (U:List Int→α→Bool) (all:List α) (l:List Int) (i:Nat):List Int:=if l.contains (i:Int)=true∧(all.filter (U (without l (i:Int)))).length=0 then without l (i:Int) else l
def pruneFrom (U:List Int→α→Bool) (all:List α) (n i:Nat) (l:List Int):List Int:=(List.range' i (n - i)).foldl (pruneStep U all) l
theorem Zyr {all:List α} {n:Nat} {l:List Int} :pruneFrom U all n n l=l:=by unfold pruneFrom;rw[Nat.sub_self];rfl
theorem Zv0 {all:List α} {n i:Nat} (hi:i < n) {l:List Int} :pruneFrom U all n i l=pruneFrom U all n (i+1) (pruneStep U all l i):=by
 unfold pruneFrom
 rw[show n - i=(n - (i+1))+1 by omega,List.range'_succ,List.foldl_cons]
theorem ZzK {l:List Int} {n:Int} (h:n∉l):without l n=l:=List.filter_eq_self.2 fun x hx=>by simp;rintro rfl;exact h hx
theorem ZMT {done r:List Int} {n:Int} (h1:n∉done) (h2:n∉r):without (done++n :: r) n=done++r:=by
 unfold without
 rw[List.filter_append,List.filter_cons]
 simp only[bne_self_eq_false,Bool.false_eq_true,if_false]
 have e1:done.filter (fun x=>x !=n)=done:=ZzK h1
 have e2:r.filter (fun x=>x !=n)=r:=ZzK h2
 rw[e1,e2]
theorem ZRx {all:List α} {n:Nat} :∀(m i:Nat),i+m=n→∀done rest:List Int,(∀x∈done,x < (i:Int))→(∀x∈rest,(i:Int)≤x∧x < (n:Int))→rest.Pairwise (· < ·)→pruneFrom U all n i (done++rest)=pruneL U all done rest:=by
 intro m
 induction m with
 | zero=>
  intro i hi done rest h1 h2 h3
  have:i=n:=by omega
  subst this
  rw[Zyr]
  cases rest with
  | nil=>simp[pruneL]
  | cons x r=>have:=h2 x (by simp);omega
 | succ m ih=>
  intro i hi done rest h1 h2 h3
  rw[Zv0 (by omega)]
  have hdi:(i:Int)∉done:=fun h=>by have:=h1 _ h;omega
  cases rest with
  | nil=>
   have:pruneStep U all (done++[]) i=done++[]:=by
    unfold pruneStep
    rw[if_neg]
    rintro ⟨h,_⟩
    rw[List.append_nil,List.contains_iff_mem] at h
    exact hdi h
   rw[this]
   exact ih (i+1) (by omega) done [] (fun x hx=>by have:=h1 x hx;omega) (fun x hx=>by cases hx) .nil
  | cons x r=>
   obtain ⟨p1,p2⟩:=List.pairwise_cons.1 h3
   have hx:=h2 x (by simp)
   by_cases hxi:x=(i:Int)
   ·subst hxi
    have hri:(i:Int)∉r:=fun h=>by have:=p1 _ h;omega
    have hw:=ZMT hdi hri
    have hr':∀y∈r,((i+1:Nat):Int)≤y∧y < (n:Int):=fun y hy=>by have:=p1 y hy;have:=h2 y (by simp[hy]);omega
    unfold pruneStep
    rw[hw,pruneL]
    by_cases hc:(all.filter (U (done++r))).length=0
    ·rw[if_pos ⟨by rw[List.contains_iff_mem];simp,hc⟩,if_pos hc]
     exact ih (i+1) (by omega) done r (fun y hy=>by have:=h1 y hy;omega) hr' p2
    ·rw[if_neg fun h=>hc h.2,if_neg hc]
     have:=ih (i+1) (by omega) (done++[(i:Int)]) r (fun y hy=>by
      rcases List.mem_append.1 hy with hy | hy
      ·have:=h1 y hy;omega
      ·rw[List.mem_singleton] at hy;omega) hr' p2
     rw[List.append_assoc] at this
     exact this
   ·have hni:(i:Int)∉done++x :: r:=fun h=>by
     rcases List.mem_append.1 h with h | h
     ·exact hdi h
     ·rcases List.mem_cons.1 h with h | h
      ·exact hxi h.symm
      ·have:=p1 _ h;omega
    have:pruneStep U all (done++x :: r) i=done++x :: r:=by
     unfold pruneStep
     rw[if_neg]
     rintro ⟨h,_⟩
     rw[List.contains_iff_mem] at h
     exact hni h
    rw[this]
    refine ih (i+1) (by omega) done (x :: r) (fun y hy=>by have:=h1 y hy;omega) (fun y hy=>?_) h3
    have hy2:=h2 y hy
    refine ⟨?_,hy2.2⟩
    rcases List.mem_cons.1 hy with rfl | hy
    ·omega
    ·have:=p1 y hy;omega
theorem Zzr {all:List α} :∀(done rest:List Int),(pruneL U all done rest).length≤done.length+rest.length∧∀x∈pruneL U all done rest,x∈done∨x∈rest
 | done,[]=>by simp[pruneL]
 | done,x :: r=>by
  unfold pruneL
  split
  ·obtain ⟨h1,h2⟩:=Zzr (all:=all) done r
   exact ⟨by simp;omega,fun y hy=>(h2 y hy).imp id fun h=>by simp[h]⟩
  ·obtain ⟨h1,h2⟩:=Zzr (all:=all) (done++[x]) r
   refine ⟨by simp at h1 ⊢;omega,fun y hy=>?_⟩
   rcases h2 y hy with h | h
   ·rcases List.mem_append.1 h with h | h
    ·exact .inl h
    ·rw[List.mem_singleton] at h;simp[h]
   ·simp[h]
end
end Go.Ev
end

section
open Go
namespace Go.Ev
abbrev PairD:=El Zd
theorem ZC8 {a b:Nat} (h:a < b):decide (Int.ofNat a < Int.ofNat b)=true:=decide_eq_true (Int.ofNat_lt.2 h)
theorem Zyh {a b:Nat} (h:¬a < b):decide (Int.ofNat a < Int.ofNat b)=false:=decide_eq_false fun h'=>h (Int.ofNat_lt.1 h')
theorem ZP4 {y:Int} {n:Nat} (h0:0≤y) (h:y < (n:Int)):y.toNat < n:=by omega
noncomputable def uB (t:List (El Za)) (pts:List Int) (x:PairD):Bool:=decide ((0:Int)≤x.2.2∧(show Int from x.2.2) < (t.length:Int))&&endsB t pts x.2.1 (Int.toNat x.2.2)
def uX (t:List (El Za)) (pts:List Int) (x:PairD):Bool:=decide ((0:Int)≤x.2.2∧(show Int from x.2.2) < (t.length:Int))&&endsX t pts x.2.1 (Int.toNat x.2.2)
theorem ZSm (t:List (El Za)):uB t=uX t:=by
 funext pts x
 unfold uB uX
 rw[ZN7]
theorem ZvB {p q:List Int} (h:∀k,k∈p↔k∈q) (j:Int):p.contains j=q.contains j:=by
 rw[Bool.eq_iff_iff,List.contains_iff_mem,List.contains_iff_mem,h]
theorem ZR9 (t:List (El Za)):Mem (uB t):=fun {p q} h x=>by
 unfold uB endsB
 have e1:stepB t p=stepB t q:=by
  funext k j
  unfold stepB
  rw[ZvB h]
 have e2:firstB t p x.2.1=firstB t q x.2.1:=by
  funext j
  unfold firstB
  rw[ZvB h]
 rw[e1,e2]
theorem ZSe {t:List (El Za)} {pts:List Int} {x:PairD} (h:(show Int from x.2.2)∈pts):uB t pts x=false:=by
 unfold uB
 by_cases hr:(0:Int)≤x.2.2∧(show Int from x.2.2) < (t.length:Int)
 ·rw[decide_eq_true hr,Bool.true_and,Bool.eq_false_iff]
  intro he
  unfold endsB at he
  have hc:∀j,pts.contains ((j:Nat):Int)=true→firstB t pts x.2.1 j=false∧∀k,stepB t pts k j=false:=fun j hj=>by
   unfold firstB stepB
   rw[hj]
   simp
  have hj:pts.contains (((Int.toNat x.2.2:Nat)):Int)=true:=by
   rw[List.contains_iff_mem,Int.toNat_of_nonneg hr.1]
   exact h
  cases Zee.1 he with
  | start h=>rw[(hc _ hj).1] at h;cases h
  | step _ h=>rw[(hc _ hj).2] at h;cases h
 ·rw[decide_eq_false hr,Bool.false_and]
theorem ZDJ (l:List Int):risL l=putsL [] l:=Zjk ZCH (Zfr .nil) fun x=>by rw[ZOt,Zkh];simp
theorem ZPy {l m:List Int} (h:∀x,x∈l↔x∈m):putsL [] l=putsL [] m:=Zjk (Zfr .nil) (Zfr .nil) fun x=>by rw[Zkh,Zkh,h]
def ofB (t:Int) (x:PairD):Bool:=(show Int from x.1)==t
def missL (U:List Int→PairD→Bool) (pts:List Int) (l:List PairD):List PairD:=l.filter (U pts)
def inR (n:Nat) (k:Int):Bool:=decide (0≤k)&&decide (k < (n:Int))
def pruneV (U:List Int→PairD→Bool) (n:Nat) (all:List PairD) (pts:List Int):List Int:=pruneL U all [] (putsL [] (pts.filter (inR n)))
def greedyV (U:List Int→PairD→Bool) (n:Nat) (l:List PairD):List Int:=putsL [] (greedyL U n l.length [] l)
def shorter (a b:List Int):List Int:=if b.length < a.length then b else a
def pointsV (U:List Int→PairD→Bool) (n:Nat) (all op:List PairD):List Int:=
 shorter (shorter (pruneV U n all (greedyV U n op)) (pruneV U n all (op.map fun x=>(show Int from x.2.1)+1))) (pruneV U n all (op.map fun x=>x.2.2))
def cutOK (p:El Zc):Bool:=smallAll p&&(decide ((ofC p).length≤20000)&&decide (p.2.length≤100))
def thrT (p:El Zc) (t:Int):List (El Za):=List.getD p.2 (Int.toNat t) (dflt (.sl Za))
def rightT (p:El Zc) (t:Int):Bool:=decide ((0:Int)≤t)&&(decide (t < (p.2.length:Int))&&decide (checkC p=0))
end Go.Ev
end

section
open Go
namespace Go.Ev
def ZU (l:List (El Zd)) (t:Int):List (El Zd):=l.filter (ofB t)
def Zcd (l:List (El Zd)) (t:Int):Bool:=decide (l.length < 1000000000000)
theorem ZRo (l:List (El Zd)) (t:Int) (hk:Zcd l t=true):Goes (ZyQ l t) (ZLi l t) (ZU l t):=by
 have hN:=of_decide_eq_true hk
 have loop:∀k,k≤l.length→∀out:List (El Zd),out.length≤k→Goes (ZyQ l t) (.jmp (.l4 (k:Int) out)) (out++(l.drop k).filter (ofB t)):=by
  refine down ?_ fun k hk ih=>?_
  ·intro out ho
   rw[Zh,ZyQ,Ze,if_neg (by rw[Zw (Nat.lt_irrefl _)];decide),List.drop_length]
   simp only[List.filter_nil,List.append_nil]
   exact .leaf
  ·intro out ho
   have b1:Nat.ble ((out.length+1)*24) limit=true:=Nat.ble_eq_true_of_le (by unfold limit;omega)
   rw[Zh,ZyQ,ZM hk,List.filter_cons]
   simp only[Ze,ZK hk,nng,Bool.and_self,if_true,Int.toNat_natCast,ZG hk,b1,Zo (k:=k) (by omega)]
   by_cases c:ofB t l[k]=true
   ·have c':=c
    unfold ofB at c'
    rw[if_pos c',if_pos c]
    have:=ih (out++[l[k]]) (by simp;omega)
    rw[List.append_assoc] at this
    exact this
   ·have c':=c
    unfold ofB at c'
    rw[if_neg c',if_neg c]
    exact ih out (by omega)
 have:=loop 0 (Nat.zero_le _) [] (Nat.zero_le _)
 rw[List.nil_append,List.drop_zero] at this
 exact this
end Go.Ev
end

section
open Go Go.Ev
namespace Go.Ev
noncomputable section
noncomputable def ZuI:Run:=entG ZpC ZBC (fun a=>Zcd a.1 a.2.1) (fun a=>ZU a.1 a.2.1)
theorem Ztc:EntOK Go.Proofs.Tryz.prog 21 ZuI:=ZH (tb:=ZCk) (c:=ZBp) ZP0 (by kernel_rfl) (by kernel_rfl) (by kernel_rfl) (fun a=>by kernel_rfl) fun ⟨l,t,_⟩ hk=>Zm (c:=ZBp) (K:=fun v=>(ZBC v,tps (toForms ZpC (l,t,())))) (S:=Zr8 l t) (by kernel_rfl) (ZQb l t) (ZQP l t) (ZRo l t hk)
end
end Go.Ev
end

section
open Go Go.Ev
namespace Go.Ev
def renComp:Go.Shelf.Ren:=⟨fun n=>if n=20 then 43 else n,
 fun n=>if n=22 then 29 else n,
 fun n=>n⟩
theorem ZzY:Go.Proofs.Lays2.n20 Go.Proofs.Tryz.prog renComp where
 mixed:=by kernel_rfl
 f20:=by kernel_rfl
 t0:=by kernel_rfl
 a0:=fun w=>by kernel_rfl
 z0:=fun w=>by kernel_rfl
 v0:=fun w=>by kernel_rfl
 t3:=by kernel_rfl
 a3:=fun w=>by kernel_rfl
 z3:=fun w=>by kernel_rfl
 v3:=fun w=>by kernel_rfl
 t4:=by kernel_rfl
 a4:=fun w=>by kernel_rfl
 z4:=fun w=>by kernel_rfl
 v4:=fun w=>by kernel_rfl
 t22:=by kernel_rfl
 a22:=fun w=>by kernel_rfl
 z22:=fun w=>by kernel_rfl
 v22:=fun w=>by kernel_rfl
 i3:=by kernel_rfl
theorem compOK:CompactOK Go.Proofs.Tryz.prog 43:=⟨fun blk off cap zs w h1 h2 h3=>Go.Proofs.Any.slices_Compact_int ZzY blk off cap zs w h1 h2 h3,fun a cap w=>Go.Proofs.Any.slices_Compact_int_empty ZzY a cap w⟩
noncomputable section
noncomputable def ZFx:Run:=rowRun (entO [.row 3 (.int .i64)] (fun (r:List Int)=>(.rw 3 (.int .i64) r,[.top])) (fun _=>true) (fun a=>Go.Lib.compact a.1))
theorem ZM1:EntOK Go.Proofs.Tryz.prog 43 ZFx:=ZB7 (Zxc (ZqM (ZjR (fn:=Go.Proofs.Tryz.f43) (c:=Go.Proofs.Tryz.f43.body.getD .skip) (by kernel_rfl) (by kernel_rfl) (by kernel_rfl))) fun a _=>ZKk compOK a.1)
noncomputable def Zxq:PSig:=[.row 3 (.int .i64)]
def ZfB (l:List Int):List Int:=putsL [] l
noncomputable def ZtD:List Int→Ans:=fun r=>(.rw 3 (.int .i64) r,[.top])
noncomputable def riB:Code:=Go.Proofs.Tryz.f23.body.getD .skip
noncomputable def ri1:Code:=fstC riB
noncomputable def ri2:Code:=fstC (sndC riB)
noncomputable def ri3:Code:=sndC (sndC riB)
noncomputable def riT:Tbl:=[(43,ZFx)]
theorem ZSO:∀p∈riT,EntOK Go.Proofs.Tryz.prog p.1 p.2:=Zg ZM1 Zt
theorem ZS7:riB=.seq ri1 (.seq (.region (ridC ri2) (ropsC ri2) false) ri3):=by kernel_rfl
noncomputable def riS (l:List Int):St:=⟨mkTm 7 [(0,.own 1 0 none)],[(1,0,.row 3 (.int .i64) l false)]⟩
theorem ri_1 (l:List Int) (L:Lt) (k:Kt) (x:Nat→Kt) (r:Kt):evC Go.Proofs.Tryz.prog (clOf riT) [] L ri1 0 (fun t=>k (norm Go.Proofs.Tryz.prog ⟨[0],[]⟩ t)) x r (riS l)=k (riS l):=by kernel_rfl
theorem ri_3 (l:List Int) (L:Lt):evC Go.Proofs.Tryz.prog (clOf riT) [] L ri3 0 (finA Go.Proofs.Tryz.prog [] Go.Proofs.Tryz.f23 [.rw 3 (.int .i64) l]) (fun _ _=>none) (finA Go.Proofs.Tryz.prog [] Go.Proofs.Tryz.f23 [.rw 3 (.int .i64) l]) (riS (sorted l))=some (.rw 3 (.int .i64) (risL l),[.top]):=by kernel_rfl
theorem ZPZ (l:List Int):risL l=putsL [] l:=Zjk ZCH (Zfr .nil) fun x=>by rw[ZOt,Zkh];simp
def Zck (l:List Int):Bool:=decide (l.length < 4611686018427387904)
theorem ZyT (l:List Int) (hk:Zck l=true):CallOK Go.Proofs.Tryz.prog 23 (toPs Zxq (l,())) (ZtD (ZfB l)):=by
 obtain ⟨hcl,hdet⟩:=ZqZ ZSO
 refine ZnP (tb:=[]) (fn:=Go.Proofs.Tryz.f23) (c:=riB) (vs:=[.own 1 0 none]) (st:=⟨[],[(1,0,.row 3 (.int .i64) l false)]⟩) (by kernel_rfl) (by kernel_rfl) (by kernel_rfl) ?_
 intro _ Mod F0 w0 a w hr
 have hr:Rel Mod F0 w0 (riS l) a w:=hr
 rw[ZS7]
 refine wp_seq (piece hcl hdet (norm Go.Proofs.Tryz.prog ⟨[0],[]⟩) (fun h=>Z4 h) (ri_1 l) hr fun a w hr=>?_)
 refine wp_seq (wp_region ?_)
 rw[show List.range (ropsC ri2).size=[0,1] from by kernel_rfl]
 refine evOp hcl (o:=opC ri2 0) (st1:=(riS l).put (some 3) (.own 1 0 none)) (by kernel_rfl) (by kernel_rfl) (fun k=>by kernel_rfl) hr fun a w hr=>?_
 refine handOp (o:=opC ri2 1) (by kernel_rfl) (by kernel_rfl) ?_
 refine sortStep (ts:=3) (id:=1) (ver:=0) (E:=3) (l:=l) (c:=(match (opC ri2 1).op with |.call c=>c | _=>default)) (fn:=Go.Proofs.Tryz.f42) (body:=Go.Proofs.Tryz.f42.body.getD .skip) (by kernel_rfl) (by kernel_rfl) (by kernel_rfl) (by kernel_rfl) (by kernel_rfl) (by kernel_rfl) (by kernel_rfl) (by kernel_rfl) sortOK (of_decide_eq_true hk) hr fun a w hr=>?_
 have hr:Rel Mod F0 w0 (riS (sorted l)) a w:=Z4 (P:=Go.Proofs.Tryz.prog) (lab:=⟨[0],[]⟩) hr
 unfold ZtD ZfB
 rw[←ZPZ]
 exact endStep hcl hdet (ri_3 l) hr
noncomputable def Zkc:Run:=rowRun (entO Zxq ZtD (fun a=>Zck a.1) (fun a=>ZfB a.1))
theorem Zlf:EntOK Go.Proofs.Tryz.prog 23 Zkc:=ZB7 (Zxc (ZqM (ZjR (fn:=Go.Proofs.Tryz.f23) (c:=riB) (by kernel_rfl) (by kernel_rfl) (by kernel_rfl))) fun a h=>ZyT a.1 h)
end
end Go.Ev
end

section
open Go Go.Ev
namespace Go.Ev
noncomputable section
def ZhK:Sig:=[(true,Zc),(false,(.int .i64))]
noncomputable def Zwa:Tbl:=[(20,Zjg),(22,Zh3),(21,ZuI),(23,Zkc)]
theorem ZKZ:∀p∈Zwa,EntOK Go.Proofs.Tryz.prog p.1 p.2:=Zg Zkl (Zg ZiC (Zg Ztc (Zg Zlf (Zt))))
noncomputable def Zse:Code:=Go.Proofs.Tryz.f6.body.getD .skip
def ZsV:Tb:=[(7,⟨[5,15,16,17],[(6,58)]⟩),(hintK,⟨[],[(1,58)]⟩)]
inductive Zm3 where | l7 (h:Int) (out:List Int)
def ZmJ (p:El Zc) (t:Int):Zm3→JT Zm3 (List Int) |.l7 h out=>.br (decide (h < (Int.ofNat (List.length (ZU (Zn p) t))))) (.br ((decide ((0:Int)≤h))&&(decide (h < (Int.ofNat (List.length (ZU (Zn p) t)))))) (.br (Nat.ble (((List.length out)+1)*8) limit) (.jmp (.l7 (IntKind.i64.wrap (h+(1:Int))) (out++[(IntKind.i64.wrap ((List.getD (ZU (Zn p) t) (Int.toNat h) (dflt Zd)).2.1+(1:Int)))]))) (.no)) (.no)) (.br (Zck out) (.leaf (ZfB out)) (.no))
def Zs7 (p:El Zc) (t:Int):JT Zm3 (List Int):=.br (Za1 p t) (.br (! (ZaZ p t)) (.leaf []) (.br (ZaI p) (.br (Zcd (Zn p) t) (.jmp (.l7 (0:Int) [])) (.no)) (.no))) (.no)
def ZrI:List Int→AV:=fun (r:List Int)=>.rw 3 (.int .i64) r
def Zhc (p:El Zc) (t:Int):Zm3→Nat×St |.l7 h out=>(7,⟨mkTm 30 [(5,.own 6 0 none),(15,.own 16 0 none),(16,.d (.int .i64) (Int.ofNat (List.length (ZU (Zn p) t)))),(17,.d (.int .i64) h)],[(6,0,.row 3 (.int .i64) out false),(16,0,.row 57 Zd (ZU (Zn p) t) false)]⟩)
theorem ZKy (p:El Zc) (t:Int) (L:Lt):entryA Go.Proofs.Tryz.prog (clOf Zwa) ZsV Go.Proofs.Tryz.f6 Zse L (toForms ZhK (p,t,()))=(Zs7 p t).run (fun v=>some (ZrI v,tps (toForms ZhK (p,t,())))) fun j=>L (Zhc p t j).1 (Zhc p t j).2:=by kernel_rfl
theorem ZLu (p:El Zc) (t:Int):∀(L:Lt) (j:Zm3),procOf (procsF Go.Proofs.Tryz.prog (clOf Zwa) ZsV Go.Proofs.Tryz.f6 Zse (toForms ZhK (p,t,()))) (Zhc p t j).1 L (Zhc p t j).2=(ZmJ p t j).run (fun v=>some (ZrI v,tps (toForms ZhK (p,t,())))) fun j=>L (Zhc p t j).1 (Zhc p t j).2 | L,.l7 h out=>by kernel_rfl
end
end Go.Ev
end

section
open Go
namespace Go.Ev
noncomputable def allT (p:El Zc) (t:Int):List PairD:=(Zl p).filter (ofB t)
noncomputable def opT (p:El Zc) (t:Int):List PairD:=(Zn p).filter (ofB t)
structure PairIn (p:El Zc) (x:PairD):Prop where
 th0:0≤(show Int from x.1)
 th1:(show Int from x.1) < (p.2.length:Int)
 flow:flowOK (thrT p x.1)=true
 st0:0≤(show Int from x.2.1)
 st1:(show Int from x.2.1) < ((thrT p x.1).length:Int)
 ld0:0≤(show Int from x.2.2)
 ld1:(show Int from x.2.2) < ((thrT p x.1).length:Int)
structure CutF (p:El Zc):Prop where
 small:smallAll p=true
 kp:Z6 p=true
 ko:ZaI p=true
 eq:Zx p=Zl p
 opq:Z1 p=Zn p
 kd:ZbP p=true
 kro:Zdc p=true
 lp:(Zl p).length≤400000000
 lo:(Zn p).length≤400000000
 pin:∀x∈Zl p,PairIn p x
 osub:∀x∈Zn p,x∈Zl p∧openB p x=true
 oin:∀x∈Zl p,openB p x=true→x∈Zn p
 right:∀t,Za1 p t=true∧ZaZ p t=rightT p t
 flow:∀t,rightT p t=true→flowOK (thrT p t)=true∧(decide ((0:Int)≤t)&&decide (t < Int.ofNat p.2.length))=true∧checkC p=0
 thr:p.2.length≤100
theorem ZP6 {p:El Zc} (h:smallProg p=true) (t:Int):Za1 p t=true∧ZaZ p t=rightT p t:=by
 have hk:Zbf p=true:=h
 have hv:ZbO p=checkC p:=rfl
 unfold Za1 ZaZ rightT
 rw[hk,hv]
 by_cases h0:(0:Int)≤t
 ·rw[decide_eq_true (show t≥0 from h0)]
  by_cases h1:t < (p.2.length:Int)
  ·rw[decide_eq_true (show t < Int.ofNat p.2.length from h1),decide_eq_true h1]
   refine ⟨rfl,?_⟩
   show (checkC p==0)=(true&&(true&&decide (checkC p=0)))
   rw[Bool.true_and,Bool.true_and,Bool.eq_iff_iff,beq_iff_eq,decide_eq_true_eq]
  ·rw[decide_eq_false (show ¬t < Int.ofNat p.2.length from h1),decide_eq_false h1]
   exact ⟨rfl,rfl⟩
 ·rw[decide_eq_false (show ¬t≥0 from h0)]
  exact ⟨rfl,rfl⟩
theorem ZfT {p:El Zc} (h:cutOK p=true):CutF p:=by
 unfold cutOK at h
 rw[Bool.and_eq_true,Bool.and_eq_true,decide_eq_true_eq,decide_eq_true_eq] at h
 obtain ⟨hs,hN,hT⟩:=h
 obtain ⟨a1,a2,a3,_,a5,a6,a7,_⟩:=ZPa hs hN hT
 have hA:=smallA hs
 have hl:=ZN4 p
 have hNN:(ofC p).length*(ofC p).length≤20000*20000:=Nat.mul_le_mul hN hN
 have hlp:(Zl p).length≤400000000:=by rw[←a3];omega
 have hlo:(Zn p).length≤(Zl p).length:=by unfold Zn;exact List.length_filter_le _ _
 refine ⟨hs,a1,a5,a3,a7,a2,a6,hlp,by omega,fun x hx=>?_,fun x hx=>?_,fun x hx ho=>?_,fun t=>ZP6 hA.prog t,fun t ht=>?_,hT⟩
 ·rw[←a3] at hx
  obtain ⟨s,r,s1,r1,_,hd,rfl⟩:=ZBF hx
  obtain ⟨t0,t1,f1,i0,i1⟩:=ZgK hs s1
  obtain ⟨_,_,f2,j0,j1⟩:=ZgK hs r1
  unfold delB at hd
  simp only[Bool.and_eq_true,beq_iff_eq] at hd
  have hth:=hd.1.1
  have e:thrOf p (ofC p) r=thrOf p (ofC p) s:=by unfold thrOf;rw[hth]
  rw[e] at j1
  exact ⟨t0,t1,f1,i0,i1,j0,j1⟩
 ·unfold Zn at hx
  exact List.mem_filter.1 hx
 ·unfold Zn
  exact List.mem_filter.2 ⟨hx,ho⟩
 ·unfold rightT at ht
  rw[Bool.and_eq_true,Bool.and_eq_true,decide_eq_true_eq,decide_eq_true_eq,decide_eq_true_eq] at ht
  obtain ⟨h0,h1,h2⟩:=ht
  refine ⟨?_,?_,h2⟩
  ·obtain ⟨n,rfl⟩:=Int.eq_ofNat_of_zero_le h0
   have hn:n < p.2.length:=by omega
   unfold thrT
   rw[Int.toNat_natCast,ZG hn]
   exact ZuO (hA.thr _ (List.getElem_mem hn))
  ·rw[decide_eq_true h0,decide_eq_true (show t < Int.ofNat p.2.length from h1)];rfl
theorem ZFQ {p:El Zc} (hF:CutF p) {t:Int} {x:PairD} (hx:x∈opT p t):PairIn p x∧(show Int from x.1)=t:=by
 obtain ⟨h1,h2⟩:=List.mem_filter.1 hx
 exact ⟨hF.pin x (hF.osub x h1).1,by unfold ofB at h2;simpa using h2⟩
theorem ZwO {p:El Zc} {x:PairD} (h:PairIn p x):0≤(show Int from x.2.1)∧(show Int from x.2.1) < 1099511627776:=by
 have h1:=h.st1
 have h2:=Zbx h.flow
 refine ⟨h.st0,?_⟩
 generalize (show Int from x.2.1)=y at*
 omega
theorem Zrj {p:El Zc} (hF:CutF p) (t:Int):(opT p t).length≤400000000:=Nat.le_trans (List.length_filter_le _ _) hF.lo
theorem ZOx {p:El Zc} (hF:CutF p) (t:Int):(allT p t).length≤400000000:=Nat.le_trans (List.length_filter_le _ _) hF.lp
end Go.Ev
end

section
open Go
namespace Go.Ev
noncomputable def ZaQ (p:El Zc) (t:Int):List Int:=if rightT p t=true then putsL [] ((opT p t).map fun x=>(show Int from x.2.1)+1) else []
def Zfh (p:El Zc) (t:Int):Bool:=cutOK p
theorem ZN2 (p:El Zc) (t:Int) (hk:Zfh p t=true):Goes (ZmJ p t) (Zs7 p t) (ZaQ p t):=by
 have hF:=ZfT hk
 obtain ⟨r1,r2⟩:=hF.right t
 unfold Zs7 ZaQ
 rw[Ze,if_pos r1,r2,Ze]
 by_cases hr:¬rightT p t=true
 ·rw[if_pos (by simpa using hr),if_neg hr]
  exact .leaf
 have hr:=Decidable.not_not.1 hr
 rw[if_neg (by rw[hr];decide),if_pos hr,Ze,if_pos hF.ko,Ze,if_pos (show Zcd (Zn p) t=true from decide_eq_true (by have:=hF.lo;omega))]
 have hv:ZU (Zn p) t=opT p t:=rfl
 have hN:=Zrj hF t
 have hs:∀x∈opT p t,0≤(show Int from x.2.1)∧(show Int from x.2.1) < 1099511627776:=fun x hx=>ZwO (ZFQ hF hx).1
 obtain ⟨O,hO⟩:∃O,opT p t=O:=⟨_,rfl⟩
 rw[hO] at hN hs hv ⊢
 have loop:∀k,k≤O.length→Goes (ZmJ p t) (.jmp (.l7 (k:Int) ((O.take k).map fun x=>(show Int from x.2.1)+1))) (putsL [] (O.map fun x=>(show Int from x.2.1)+1)):=by
  refine down ?_ fun k hk ih=>?_
  ·rw[Zh,ZmJ,hv,Ze,if_neg (by rw[Zw (Nat.lt_irrefl _)];decide),List.take_length,Ze,if_pos (show Zck _=true from decide_eq_true (by rw[List.length_map];omega))]
   exact .leaf
  ·have b1:Nat.ble ((((O.take k).map fun x=>(show Int from x.2.1)+1).length+1)*8) limit=true:=Nat.ble_eq_true_of_le (by rw[List.length_map,List.length_take];unfold limit;omega)
   obtain ⟨s0,s1⟩:=hs _ (List.getElem_mem hk)
   have hw:IntKind.i64.wrap (O[k].2.1+(1:Int))=(show Int from O[k].2.1)+1:=by
    show IntKind.i64.wrap ((show Int from O[k].2.1)+(1:Int))=_
    generalize (show Int from O[k].2.1)=y at*
    exact wrap_i64 (by omega) (by omega)
   rw[List.take_succ_eq_append_getElem hk,List.map_append] at ih
   rw[Zh,ZmJ,hv,Ze,if_pos (ZK hk),Ze,if_pos (by rw[nng,ZK hk];rfl),Ze,if_pos b1,Int.toNat_natCast,ZG hk,Zo (by omega),hw]
   exact ih
 exact loop 0 (Nat.zero_le _)
end Go.Ev
end

section
open Go Go.Ev
namespace Go.Ev
noncomputable section
noncomputable def ZwF:Run:=entG ZhK ZrI (fun a=>Zfh a.1 a.2.1) (fun a=>ZaQ a.1 a.2.1)
theorem ZAJ:EntOK Go.Proofs.Tryz.prog 6 ZwF:=ZH (tb:=ZsV) (c:=Zse) ZKZ (by kernel_rfl) (by kernel_rfl) (by kernel_rfl) (fun a=>by kernel_rfl) fun ⟨p,t,_⟩ hk=>Zm (c:=Zse) (K:=fun v=>(ZrI v,tps (toForms ZhK (p,t,())))) (S:=Zhc p t) (by kernel_rfl) (ZKy p t) (ZLu p t) (ZN2 p t hk)
end
end Go.Ev
end

section
open Go Go.Ev
namespace Go.Ev
noncomputable section
noncomputable def Zqk:Run:=entG ZhR ZrW (fun a=>Zdc a.1) (fun a=>Z1 a.1)
theorem ZuB:EntOK Go.Proofs.Tryz.prog 25 Zqk:=ZH (tb:=ZuD) (c:=Zr0) ZLe (by kernel_rfl) (by kernel_rfl) (by kernel_rfl) (fun a=>by kernel_rfl) fun ⟨p,_⟩ hk=>Zm (c:=Zr0) (K:=fun v=>(ZrW v,tps (toForms ZhR (p,())))) (S:=Zht p) (by kernel_rfl) (ZK5 p) (ZMm p) (ZMX p hk)
end
end Go.Ev
end

section
open Go Go.Ev
namespace Go.Ev
noncomputable section
def ZlZ:Sig:=[(false,(.sl Zd)),(false,(.int .i64))]
noncomputable def ZC7:Tbl:=[]
theorem ZOY:∀p∈ZC7,EntOK Go.Proofs.Tryz.prog p.1 p.2:=Zt
noncomputable def Zx3:Code:=Go.Proofs.Tryz.f24.body.getD .skip
def Zzw:Tb:=[(4,⟨[0,1,5,6],[(6,106)]⟩)]
inductive Zta where | l4 (i:Int) (out:List (El Zd))
def ZsG (l:List (El Zd)) (t:Int):Zta→JT Zta (List (El Zd)) |.l4 i out=>.br (decide (i < (Int.ofNat (List.length l)))) (.br ((decide ((0:Int)≤i))&&(decide (i < (Int.ofNat (List.length l))))) (.br ((List.getD l (Int.toNat i) (dflt Zd)).1==t) (.br ((decide ((0:Int)≤i))&&(decide (i < (Int.ofNat (List.length l))))) (.br (Nat.ble (((List.length out)+1)*24) limit) (.jmp (.l4 (IntKind.i64.wrap (i+(1:Int))) (out++[(List.getD l (Int.toNat i) (dflt Zd))]))) (.no)) (.no)) (.jmp (.l4 (IntKind.i64.wrap (i+(1:Int))) out))) (.no)) (.leaf out)
def ZFH (l:List (El Zd)) (t:Int):JT Zta (List (El Zd)):=.jmp (.l4 (0:Int) [])
def Zxb:List (El Zd)→AV:=fun (r:List (El Zd))=>.rw 57 Zd r
def ZmI (l:List (El Zd)) (t:Int):Zta→Nat×St |.l4 i out=>(4,⟨mkTm 28 [(0,.d (.sl Zd) l),(1,.d (.int .i64) t),(5,.own 6 0 none),(6,.d (.int .i64) i)],[(6,0,.row 57 Zd out false)]⟩)
theorem ZPf (l:List (El Zd)) (t:Int) (L:Lt):entryA Go.Proofs.Tryz.prog (clOf ZC7) Zzw Go.Proofs.Tryz.f24 Zx3 L (toForms ZlZ (l,t,()))=(ZFH l t).run (fun v=>some (Zxb v,tps (toForms ZlZ (l,t,())))) fun j=>L (ZmI l t j).1 (ZmI l t j).2:=by kernel_rfl
theorem ZPl (l:List (El Zd)) (t:Int):∀(L:Lt) (j:Zta),procOf (procsF Go.Proofs.Tryz.prog (clOf ZC7) Zzw Go.Proofs.Tryz.f24 Zx3 (toForms ZlZ (l,t,()))) (ZmI l t j).1 L (ZmI l t j).2=(ZsG l t j).run (fun v=>some (Zxb v,tps (toForms ZlZ (l,t,())))) fun j=>L (ZmI l t j).1 (ZmI l t j).2 | L,.l4 i out=>by kernel_rfl
end
end Go.Ev
end

section
open Go
namespace Go.Ev
def Zbj (l:List (El Zd)) (t:Int):List (El Zd):=l.filter (ofB t)
def ZgR (l:List (El Zd)) (t:Int):Bool:=decide (l.length < 1000000000000)
theorem ZPS (l:List (El Zd)) (t:Int) (hk:ZgR l t=true):Goes (ZsG l t) (ZFH l t) (Zbj l t):=by
 have hN:=of_decide_eq_true hk
 have loop:∀k,k≤l.length→∀out:List (El Zd),out.length≤k→Goes (ZsG l t) (.jmp (.l4 (k:Int) out)) (out++(l.drop k).filter (ofB t)):=by
  refine down ?_ fun k hk ih=>?_
  ·intro out ho
   rw[Zh,ZsG,Ze,if_neg (by rw[Zw (Nat.lt_irrefl _)];decide),List.drop_length]
   simp only[List.filter_nil,List.append_nil]
   exact .leaf
  ·intro out ho
   have b1:Nat.ble ((out.length+1)*24) limit=true:=Nat.ble_eq_true_of_le (by unfold limit;omega)
   rw[Zh,ZsG,ZM hk,List.filter_cons]
   simp only[Ze,ZK hk,nng,Bool.and_self,if_true,Int.toNat_natCast,ZG hk,b1,Zo (k:=k) (by omega)]
   by_cases c:ofB t l[k]=true
   ·have c':=c
    unfold ofB at c'
    rw[if_pos c',if_pos c]
    have:=ih (out++[l[k]]) (by simp;omega)
    rw[List.append_assoc] at this
    exact this
   ·have c':=c
    unfold ofB at c'
    rw[if_neg c',if_neg c]
    exact ih out (by omega)
 have:=loop 0 (Nat.zero_le _) [] (Nat.zero_le _)
 rw[List.nil_append,List.drop_zero] at this
 exact this
end Go.Ev
end

section
open Go Go.Ev
namespace Go.Ev
noncomputable section
noncomputable def ZsD:Run:=entG ZlZ Zxb (fun a=>ZgR a.1 a.2.1) (fun a=>Zbj a.1 a.2.1)
theorem ZuX:EntOK Go.Proofs.Tryz.prog 24 ZsD:=ZH (tb:=Zzw) (c:=Zx3) ZOY (by kernel_rfl) (by kernel_rfl) (by kernel_rfl) (fun a=>by kernel_rfl) fun ⟨l,t,_⟩ hk=>Zm (c:=Zx3) (K:=fun v=>(Zxb v,tps (toForms ZlZ (l,t,())))) (S:=ZmI l t) (by kernel_rfl) (ZPf l t) (ZPl l t) (ZPS l t hk)
end
end Go.Ev
end

section
open Go Go.Ev
namespace Go.Ev
noncomputable section
def Zjn:Sig:=[(false,(.sl (.int .i64))),(false,(.int .i64))]
noncomputable def ZyV:Tbl:=[]
theorem ZNy:∀p∈ZyV,EntOK Go.Proofs.Tryz.prog p.1 p.2:=Zt
noncomputable def Zu8:Code:=Go.Proofs.Tryz.f26.body.getD .skip
def Zwq:Tb:=[(3,⟨[0,1,5],[]⟩),(7,⟨[0,1,5,31],[]⟩),(hintK,⟨[1],[]⟩)]
inductive ZpN where | l3 (k:Int) | l7 (h:Bool) (k:Int)
def Zja (l:List Int) (n:Int):ZpN→JT ZpN (List Int) |.l3 k=>.br (decide (k < (Int.ofNat (List.length l)))) (.br ((decide ((0:Int)≤k))&&(decide (k < (Int.ofNat (List.length l))))) (.br (decide ((List.getD l (Int.toNat k) (dflt (.int .i64))) < n)) (.jmp (.l3 (IntKind.i64.wrap (k+(1:Int))))) (.br (decide (k < (Int.ofNat (List.length l)))) (.br ((decide ((0:Int)≤k))&&(decide (k < (Int.ofNat (List.length l))))) (.jmp (.l7 ((List.getD l (Int.toNat k) (dflt (.int .i64)))==n) k)) (.no)) (.jmp (.l7 false k)))) (.no)) (.br (decide (k < (Int.ofNat (List.length l)))) (.br ((decide ((0:Int)≤k))&&(decide (k < (Int.ofNat (List.length l))))) (.jmp (.l7 ((List.getD l (Int.toNat k) (dflt (.int .i64)))==n) k)) (.no)) (.jmp (.l7 false k))) |.l7 h k=>.br h (.leaf l) (.br ((((decide ((0:Int)≤k))&&(decide (k≤(Int.ofNat (List.length l)))))&&true)&&(decide ((0:Int)≤k))) (.br (Nat.ble ((List.length (List.take (Int.toNat k) l))*8) limit) (.br (Nat.ble (((List.length (List.take (Int.toNat k) l))+1)*8) limit) (.br ((((decide ((0:Int)≤(Int.ofNat (List.length l))))&&(decide ((Int.ofNat (List.length l))≤(Int.ofNat (List.length l)))))&&(decide ((0:Int)≤k)))&&(decide (k≤(Int.ofNat (List.length l))))) (.br (Nat.ble (((List.length ((List.take (Int.toNat k) l)++[n]))+(List.length (List.drop (Int.toNat k) (List.take (List.length l) l))))*8) limit) (.leaf (((List.take (Int.toNat k) l)++[n])++(List.drop (Int.toNat k) (List.take (List.length l) l)))) (.no)) (.no)) (.no)) (.no)) (.no))
def ZDa (l:List Int) (n:Int):JT ZpN (List Int):=.jmp (.l3 (0:Int))
def ZuU:List Int→AV:=fun (r:List Int)=>.d (.sl (.int .i64)) r
def Zju (l:List Int) (n:Int):ZpN→Nat×St |.l3 k=>(3,⟨mkTm 44 [(0,.d (.sl (.int .i64)) l),(1,.d (.int .i64) n),(5,.d (.int .i64) k)],[]⟩) |.l7 h k=>(7,⟨mkTm 44 [(0,.d (.sl (.int .i64)) l),(1,.d (.int .i64) n),(5,.d (.int .i64) k),(31,.d .bool h)],[]⟩)
theorem ZNW (l:List Int) (n:Int) (L:Lt):entryA Go.Proofs.Tryz.prog (clOf ZyV) Zwq Go.Proofs.Tryz.f26 Zu8 L (toForms Zjn (l,n,()))=(ZDa l n).run (fun v=>some (ZuU v,tps (toForms Zjn (l,n,())))) fun j=>L (Zju l n j).1 (Zju l n j).2:=by kernel_rfl
theorem ZMI (l:List Int) (n:Int):∀(L:Lt) (j:ZpN),procOf (procsF Go.Proofs.Tryz.prog (clOf ZyV) Zwq Go.Proofs.Tryz.f26 Zu8 (toForms Zjn (l,n,()))) (Zju l n j).1 L (Zju l n j).2=(Zja l n j).run (fun v=>some (ZuU v,tps (toForms Zjn (l,n,())))) fun j=>L (Zju l n j).1 (Zju l n j).2 | L,.l3 k=>by kernel_rfl | L,.l7 h k=>by kernel_rfl
end
end Go.Ev
end

section
open Go
namespace Go.Ev
def ZbJ (l:List Int) (n:Int):List Int:=putL n l
def Zdp (l:List Int) (n:Int):Bool:=decide (l.length < 1000000000000)
theorem ZNL {n:Int} :∀ {l:List Int} {k:Nat},k≤l.length→(∀j (h:j < l.length),j < k→l[j] < n)→(∀h:k < l.length,¬l[k] < n)→
  putL n l=if h:k < l.length then (if l[k]=n then l else l.take k++n :: l.drop k) else l++[n]
 | [],k,hk,_,_=>by
  have:k=0:=by simpa using hk
  subst this
  rfl
 | x :: r,0,hk,h1,h2=>by
  have h2:¬x < n:=h2 (by simp)
  unfold putL
  rw[if_neg h2,dif_pos (by simp)]
  rfl
 | x :: r,k+1,hk,h1,h2=>by
  have hx:x < n:=h1 0 (by simp) (by omega)
  have ih:=ZNL (n:=n) (l:=r) (k:=k) (by simpa using hk) (fun j h hj=>by
   have:=h1 (j+1) (by simpa using h) (by omega)
   simpa using this) (fun h=>by
   have:=h2 (by simpa using h)
   simpa using this)
  unfold putL
  rw[if_pos hx,ih]
  by_cases hkl:k < r.length
  ·have hkl':k+1 < (x :: r).length:=by simpa using hkl
   rw[dif_pos hkl,dif_pos hkl']
   have:(x :: r)[k+1]=r[k]:=rfl
   rw[this]
   split <;> rfl
  ·rw[dif_neg hkl,dif_neg (by simpa using hkl)]
   rfl
theorem ZPb (l:List Int) (n:Int) (hk:Zdp l n=true):Goes (Zja l n) (ZDa l n) (ZbJ l n):=by
 have hN:=of_decide_eq_true hk
 have fin:∀(k:Nat) (e:Bool),k≤l.length→(e=false→l.take k++n :: l.drop k=putL n l)→(e=true→l=putL n l)→Goes (Zja l n) (.jmp (.l7 e (k:Int))) (putL n l):=by
  intro k e hkl h1 h2
  rw[Zh,Zja,Ze]
  cases e with
  | true=>rw[if_pos rfl,←h2 rfl];exact .leaf
  | false=>
   have e1:decide ((k:Int)≤Int.ofNat l.length)=true:=decide_eq_true (by simp;omega)
   have e2:decide ((0:Int)≤Int.ofNat l.length)=true:=decide_eq_true (by simp)
   have b1:Nat.ble ((l.take k).length*8) limit=true:=Nat.ble_eq_true_of_le (by rw[List.length_take];unfold limit;omega)
   have b2:Nat.ble (((l.take k).length+1)*8) limit=true:=Nat.ble_eq_true_of_le (by rw[List.length_take];unfold limit;omega)
   have b3:Nat.ble (((l.take k++[n]).length+(l.drop k).length)*8) limit=true:=Nat.ble_eq_true_of_le (by rw[List.length_append,List.length_take,List.length_drop,List.length_singleton];unfold limit;omega)
   rw[if_neg (by decide)]
   simp only[Ze,nng,e1,e2,Int.le_refl,decide_true,Bool.and_self,if_true,Int.toNat_natCast,List.take_length,b1,b2,b3]
   rw[←h1 rfl,List.append_assoc]
   exact .leaf
 have loop:∀k,k≤l.length→(∀j (h:j < l.length),j < k→l[j] < n)→Goes (Zja l n) (.jmp (.l3 (k:Int))) (putL n l):=by
  refine down ?_ fun k hk ih=>?_
  ·intro h1
   rw[Zh,Zja,Ze,if_neg (by rw[Zw (Nat.lt_irrefl _)];decide),Ze,if_neg (by rw[Zw (Nat.lt_irrefl _)];decide)]
   refine fin _ false (Nat.le_refl _) (fun _=>?_) (fun h=>by cases h)
   rw[ZNL (Nat.le_refl _) h1 (fun h=>absurd h (Nat.lt_irrefl _)),dif_neg (Nat.lt_irrefl _),List.take_length,List.drop_length]
  ·intro h1
   rw[Zh,Zja]
   simp only[Ze,ZK hk,nng,Bool.and_self,if_true,Int.toNat_natCast,ZG hk,Zo (k:=k) (by omega)]
   by_cases c:l[k] < n
   ·rw[if_pos (decide_eq_true c)]
    refine ih fun j h hj=>?_
    by_cases e:j=k
    ·subst e;exact c
    ·exact h1 j h (by omega)
   ·rw[if_neg (by simpa using c)]
    have hp:=ZNL (Nat.le_of_lt hk) h1 (fun _=>c)
    rw[dif_pos hk] at hp
    refine fin k _ (Nat.le_of_lt hk) (fun h=>?_) (fun h=>?_)
    ·rw[hp,if_neg (by simpa using h)]
    ·rw[hp,if_pos (by simpa using h)]
 exact loop 0 (Nat.zero_le _) fun j h hj=>absurd hj (Nat.not_lt_zero _)
end Go.Ev
end

section
open Go Go.Ev
namespace Go.Ev
noncomputable section
noncomputable def ZpB:Run:=entG Zjn ZuU (fun a=>Zdp a.1 a.2.1) (fun a=>ZbJ a.1 a.2.1)
theorem ZrB:EntOK Go.Proofs.Tryz.prog 26 ZpB:=ZH (tb:=Zwq) (c:=Zu8) ZNy (by kernel_rfl) (by kernel_rfl) (by kernel_rfl) (fun a=>by kernel_rfl) fun ⟨l,n,_⟩ hk=>Zm (c:=Zu8) (K:=fun v=>(ZuU v,tps (toForms Zjn (l,n,())))) (S:=Zju l n) (by kernel_rfl) (ZNW l n) (ZMI l n) (ZPb l n hk)
end
end Go.Ev
end

section
open Go Go.Ev
namespace Go.Ev
noncomputable section
def ZfX:Sig:=[(true,Zc),(false,(.int .i64))]
noncomputable def ZsH:Tbl:=[(25,Zqk),(24,ZsD),(26,ZpB)]
theorem ZHC:∀p∈ZsH,EntOK Go.Proofs.Tryz.prog p.1 p.2:=Zg ZuB (Zg ZuX (Zg ZrB (Zt)))
noncomputable def Zny:Code:=Go.Proofs.Tryz.f7.body.getD .skip
def Zp9:Tb:=[(5,⟨[5,6,7],[(6,59)]⟩)]
inductive Zkz where | l5 (out:List Int) (i:Int)
def Zj8 (p:El Zc) (t:Int):Zkz→JT Zkz (List Int) |.l5 out i=>.br (decide (i < (Int.ofNat (List.length (Zbj (Z1 p) t))))) (.br ((decide ((0:Int)≤i))&&(decide (i < (Int.ofNat (List.length (Zbj (Z1 p) t)))))) (.br (Zdp out (IntKind.i64.wrap ((List.getD (Zbj (Z1 p) t) (Int.toNat i) (dflt Zd)).2.1+(1:Int)))) (.jmp (.l5 (ZbJ out (IntKind.i64.wrap ((List.getD (Zbj (Z1 p) t) (Int.toNat i) (dflt Zd)).2.1+(1:Int)))) (IntKind.i64.wrap (i+(1:Int))))) (.no)) (.no)) (.leaf out)
def Zqj (p:El Zc) (t:Int):JT Zkz (List Int):=.br (Zdc p) (.br (ZgR (Z1 p) t) (.jmp (.l5 [] (0:Int))) (.no)) (.no)
def ZnE:List Int→AV:=fun (r:List Int)=>.d (.sl (.int .i64)) r
def ZfK (p:El Zc) (t:Int):Zkz→Nat×St |.l5 out i=>(5,⟨mkTm 27 [(5,.d (.sl (.int .i64)) out),(6,.own 7 0 none),(7,.d (.int .i64) i)],[(7,0,.row 57 Zd (Zbj (Z1 p) t) false)]⟩)
theorem ZI1 (p:El Zc) (t:Int) (L:Lt):entryA Go.Proofs.Tryz.prog (clOf ZsH) Zp9 Go.Proofs.Tryz.f7 Zny L (toForms ZfX (p,t,()))=(Zqj p t).run (fun v=>some (ZnE v,tps (toForms ZfX (p,t,())))) fun j=>L (ZfK p t j).1 (ZfK p t j).2:=by kernel_rfl
theorem ZIz (p:El Zc) (t:Int):∀(L:Lt) (j:Zkz),procOf (procsF Go.Proofs.Tryz.prog (clOf ZsH) Zp9 Go.Proofs.Tryz.f7 Zny (toForms ZfX (p,t,()))) (ZfK p t j).1 L (ZfK p t j).2=(Zj8 p t j).run (fun v=>some (ZnE v,tps (toForms ZfX (p,t,())))) fun j=>L (ZfK p t j).1 (ZfK p t j).2 | L,.l5 out i=>by kernel_rfl
end
end Go.Ev
end

section
open Go Go.Ev
namespace Go.Ev
noncomputable section
def Zcn:Sig:=[(false,(.int .i64))]
noncomputable def ZkY:Tbl:=[]
theorem Zza:∀p∈ZkY,EntOK Go.Proofs.Tryz.prog p.1 p.2:=Zt
noncomputable def Zg4:Code:=Go.Proofs.Tryz.f138.body.getD .skip
def Zjl:Tb:=[]
def Zsu (x:Int):Empty→JT Empty (Bool):=fun j=>nomatch j
def Zpz (x:Int):JT Empty (Bool):=.leaf (x !=x)
def Zb6 (x:Int):Bool:=(x !=x)
theorem ZBn (x:Int):Goes (Zsu x) (Zpz x) (Zb6 x):=Goes.leaf
def Zg5:Bool→AV:=fun (r:Bool)=>.d .bool r
def Zb4 (x:Int):Empty→Nat×St:=fun j=>nomatch j
theorem Zy7 (x:Int) (L:Lt):entryA Go.Proofs.Tryz.prog (clOf ZkY) Zjl Go.Proofs.Tryz.f138 Zg4 L (toForms Zcn (x,()))=(Zpz x).run (fun v=>some (Zg5 v,tps (toForms Zcn (x,())))) fun j=>L (Zb4 x j).1 (Zb4 x j).2:=by kernel_rfl
theorem Zzp (x:Int):∀(L:Lt) (j:Empty),procOf (procsF Go.Proofs.Tryz.prog (clOf ZkY) Zjl Go.Proofs.Tryz.f138 Zg4 (toForms Zcn (x,()))) (Zb4 x j).1 L (Zb4 x j).2=(Zsu x j).run (fun v=>some (Zg5 v,tps (toForms Zcn (x,())))) fun j=>L (Zb4 x j).1 (Zb4 x j).2:=fun L j=>nomatch j
noncomputable def Zss:Run:=entT Zcn Zg5 (fun a=>Zb6 a.1)
theorem ZyU:EntOK Go.Proofs.Tryz.prog 138 Zss:=Zav (tb:=Zjl) (c:=Zg4) Zza (by kernel_rfl) (by kernel_rfl) (by kernel_rfl) (fun a=>by kernel_rfl) fun ⟨x,_⟩=>Zm (c:=Zg4) (K:=fun v=>(Zg5 v,tps (toForms Zcn (x,())))) (S:=Zb4 x) (by kernel_rfl) (Zy7 x) (Zzp x) (ZBn x)
end
end Go.Ev
end

section
open Go Go.Ev
namespace Go.Ev
noncomputable section
def ZcL:Sig:=[(false,(.int .i64)),(false,(.int .i64))]
noncomputable def Zl1:Tbl:=[(138,Zss)]
theorem ZAX:∀p∈Zl1,EntOK Go.Proofs.Tryz.prog p.1 p.2:=Zg ZyU (Zt)
noncomputable def ZiE:Code:=Go.Proofs.Tryz.f107.body.getD .skip
def ZkU:Tb:=[]
def ZtH (x:Int) (y:Int):Empty→JT Empty (Bool):=fun j=>nomatch j
def Zsl (x:Int) (y:Int):JT Empty (Bool):=.br (Zb6 x) (.br (! (Zb6 y)) (.leaf true) (.leaf (decide (x < y)))) (.leaf (decide (x < y)))
def Zfm (x:Int) (y:Int):Bool:=bif (Zb6 x) then bif (! (Zb6 y)) then true else (decide (x < y)) else (decide (x < y))
theorem ZBX (x:Int) (y:Int):Goes (ZtH x y) (Zsl x y) (Zfm x y):=Goes.br (Goes.br (Goes.leaf) (Goes.leaf)) (Goes.leaf)
def Ziu:Bool→AV:=fun (r:Bool)=>.d .bool r
def Zcr (x:Int) (y:Int):Empty→Nat×St:=fun j=>nomatch j
theorem ZAZ (x:Int) (y:Int) (L:Lt):entryA Go.Proofs.Tryz.prog (clOf Zl1) ZkU Go.Proofs.Tryz.f107 ZiE L (toForms ZcL (x,y,()))=(Zsl x y).run (fun v=>some (Ziu v,tps (toForms ZcL (x,y,())))) fun j=>L (Zcr x y j).1 (Zcr x y j).2:=by kernel_rfl
theorem ZBl (x:Int) (y:Int):∀(L:Lt) (j:Empty),procOf (procsF Go.Proofs.Tryz.prog (clOf Zl1) ZkU Go.Proofs.Tryz.f107 ZiE (toForms ZcL (x,y,()))) (Zcr x y j).1 L (Zcr x y j).2=(ZtH x y j).run (fun v=>some (Ziu v,tps (toForms ZcL (x,y,())))) fun j=>L (Zcr x y j).1 (Zcr x y j).2:=fun L j=>nomatch j
noncomputable def Zuc:Run:=entT ZcL Ziu (fun a=>Zfm a.1 a.2.1)
theorem ZA4:EntOK Go.Proofs.Tryz.prog 107 Zuc:=Zav (tb:=ZkU) (c:=ZiE) ZAX (by kernel_rfl) (by kernel_rfl) (by kernel_rfl) (fun a=>by kernel_rfl) fun ⟨x,y,_⟩=>Zm (c:=ZiE) (K:=fun v=>(Ziu v,tps (toForms ZcL (x,y,())))) (S:=Zcr x y) (by kernel_rfl) (ZAZ x y) (ZBl x y) (ZBX x y)
end
end Go.Ev
end

section
open Go Go.Ev
namespace Go.Ev
noncomputable section
def Zby:Sig:=[(false,(.int .i64))]
noncomputable def Zhw:Tbl:=[]
theorem Zvk:∀p∈Zhw,EntOK Go.Proofs.Tryz.prog p.1 p.2:=Zt
noncomputable def ZdZ:Code:=Go.Proofs.Tryz.f119.body.getD .skip
def ZgE:Tb:=[]
def Zl3 (x:Int):Empty→JT Empty (Bool):=fun j=>nomatch j
def Zk1 (x:Int):JT Empty (Bool):=.leaf (x !=x)
def ZbG (x:Int):Bool:=(x !=x)
theorem ZwX (x:Int):Goes (Zl3 x) (Zk1 x) (ZbG x):=Goes.leaf
def ZdR:Bool→AV:=fun (r:Bool)=>.d .bool r
def Zbh (x:Int):Empty→Nat×St:=fun j=>nomatch j
theorem Zvm (x:Int) (L:Lt):entryA Go.Proofs.Tryz.prog (clOf Zhw) ZgE Go.Proofs.Tryz.f119 ZdZ L (toForms Zby (x,()))=(Zk1 x).run (fun v=>some (ZdR v,tps (toForms Zby (x,())))) fun j=>L (Zbh x j).1 (Zbh x j).2:=by kernel_rfl
theorem Zvl (x:Int):∀(L:Lt) (j:Empty),procOf (procsF Go.Proofs.Tryz.prog (clOf Zhw) ZgE Go.Proofs.Tryz.f119 ZdZ (toForms Zby (x,()))) (Zbh x j).1 L (Zbh x j).2=(Zl3 x j).run (fun v=>some (ZdR v,tps (toForms Zby (x,())))) fun j=>L (Zbh x j).1 (Zbh x j).2:=fun L j=>nomatch j
noncomputable def Zmq:Run:=entT Zby ZdR (fun a=>ZbG a.1)
theorem Zvj:EntOK Go.Proofs.Tryz.prog 119 Zmq:=Zav (tb:=ZgE) (c:=ZdZ) Zvk (by kernel_rfl) (by kernel_rfl) (by kernel_rfl) (fun a=>by kernel_rfl) fun ⟨x,_⟩=>Zm (c:=ZdZ) (K:=fun v=>(ZdR v,tps (toForms Zby (x,())))) (S:=Zbh x) (by kernel_rfl) (Zvm x) (Zvl x) (ZwX x)
end
end Go.Ev
end

section
open Go Go.Ev
namespace Go.Ev
noncomputable section
def Z5:Sig:=[(false,(.sl (.int .i64))),(false,(.int .i64))]
noncomputable def ZbD:Tbl:=[(107,Zuc),(119,Zmq)]
theorem ZiL:∀p∈ZbD,EntOK Go.Proofs.Tryz.prog p.1 p.2:=Zg ZA4 (Zg Zvj (Zt))
noncomputable def ZaO:Code:=Go.Proofs.Tryz.f70.body.getD .skip
def Zbp:Tb:=[(4,⟨[0,1,6,7,8,42,48,50,51],[]⟩)]
inductive Zat where | l4 (i:Int) (j_:Int)
def Zaa (x:List Int) (target:Int):Zat→JT Zat (Int×Bool) |.l4 i j_=>.br (decide (i < j_)) (.br ((decide ((0:Int)≤(IntKind.i64.wrap (Int.fdiv (IntKind.u64.wrap (IntKind.i64.wrap (i+j_))) (2 ^ (min 1 (IntKind.u64).bits))))))&&(decide ((IntKind.i64.wrap (Int.fdiv (IntKind.u64.wrap (IntKind.i64.wrap (i+j_))) (2 ^ (min 1 (IntKind.u64).bits)))) < (Int.ofNat (List.length x))))) (.br (Zfm (List.getD x (Int.toNat (IntKind.i64.wrap (Int.fdiv (IntKind.u64.wrap (IntKind.i64.wrap (i+j_))) (2 ^ (min 1 (IntKind.u64).bits))))) (dflt (.int .i64))) target) (.jmp (.l4 (IntKind.i64.wrap ((IntKind.i64.wrap (Int.fdiv (IntKind.u64.wrap (IntKind.i64.wrap (i+j_))) (2 ^ (min 1 (IntKind.u64).bits))))+(1:Int))) j_)) (.jmp (.l4 i (IntKind.i64.wrap (Int.fdiv (IntKind.u64.wrap (IntKind.i64.wrap (i+j_))) (2 ^ (min 1 (IntKind.u64).bits))))))) (.no)) (.br (decide (i < (Int.ofNat (List.length x)))) (.br ((decide ((0:Int)≤i))&&(decide (i < (Int.ofNat (List.length x))))) (.br ((List.getD x (Int.toNat i) (dflt (.int .i64)))==target) (.leaf (i,true)) (.br ((decide ((0:Int)≤i))&&(decide (i < (Int.ofNat (List.length x))))) (.br (ZbG (List.getD x (Int.toNat i) (dflt (.int .i64)))) (.leaf (i,(ZbG target))) (.leaf (i,false))) (.no))) (.no)) (.leaf (i,false)))
def ZcW (x:List Int) (target:Int):JT Zat (Int×Bool):=.jmp (.l4 (0:Int) (Int.ofNat (List.length x)))
def ZaP:Int×Bool→AV:=fun (r:Int×Bool)=>.tu [.d (.int .i64) r.1,.d .bool r.2]
def ZV (x:List Int) (target:Int):Zat→Nat×St |.l4 i j_=>(4,⟨mkTm 54 [(0,.d (.sl (.int .i64)) x),(1,.d (.int .i64) target),(6,.d (.int .i64) (Int.ofNat (List.length x))),(7,.d (.int .i64) i),(8,.d (.int .i64) j_)],[]⟩)
theorem ZiP (x:List Int) (target:Int) (L:Lt):entryA Go.Proofs.Tryz.prog (clOf ZbD) Zbp Go.Proofs.Tryz.f70 ZaO L (toForms Z5 (x,target,()))=(ZcW x target).run (fun v=>some (ZaP v,tps (toForms Z5 (x,target,())))) fun j=>L (ZV x target j).1 (ZV x target j).2:=by kernel_rfl
theorem Zi3 (x:List Int) (target:Int):∀(L:Lt) (j:Zat),procOf (procsF Go.Proofs.Tryz.prog (clOf ZbD) Zbp Go.Proofs.Tryz.f70 ZaO (toForms Z5 (x,target,()))) (ZV x target j).1 L (ZV x target j).2=(Zaa x target j).run (fun v=>some (ZaP v,tps (toForms Z5 (x,target,())))) fun j=>L (ZV x target j).1 (ZV x target j).2 | L,.l4 i j_=>by kernel_rfl
end
end Go.Ev
end

section
open Go
namespace Go.Ev
def ZO (x:List Int) (target:Int):Int×Bool:=(((x.countP fun y=>decide (y < target)):Nat),x.contains target)
def Z9 (x:List Int) (target:Int):Bool:=decide (x.Pairwise (· < ·))&&decide (x.length < 4611686018427387904)
theorem ZSW {a b:Nat} (h:a+b < 9223372036854775807):IntKind.i64.wrap (Int.fdiv (IntKind.u64.wrap (IntKind.i64.wrap ((a:Int)+(b:Int)))) (2 ^ (min 1 (IntKind.u64).bits)))=(((a+b) / 2:Nat):Int):=by
 have e1:IntKind.i64.wrap ((a:Int)+(b:Int))=((a+b:Nat):Int):=by rw[wrap_i64 (by omega) (by omega)];omega
 have e2:IntKind.u64.wrap ((a+b:Nat):Int)=((a+b:Nat):Int):=ZBq (by omega)
 have e3:(2:Int) ^ (min 1 (IntKind.u64).bits)=2:=by decide
 rw[e1,e2,e3,Int.fdiv_eq_ediv_of_nonneg _ (by decide),wrap_i64 (by omega) (by omega)]
 omega
theorem ZJv {x:List Int} {t:Int} {lo:Nat} (hlo:lo≤x.length) (h1:∀j (h:j < x.length),j < lo→x[j] < t) (h2:∀j (h:j < x.length),lo≤j→t≤x[j]):(x.countP fun y=>decide (y < t))=lo:=by
 have e:x=x.take lo++x.drop lo:=(List.take_append_drop lo x).symm
 rw[e,List.countP_append]
 have a:(x.take lo).countP (fun y=>decide (y < t))=lo:=by
  have:(x.take lo).countP (fun y=>decide (y < t))=(x.take lo).length:=List.countP_eq_length.2 fun y hy=>by
   obtain ⟨j,hj,rfl⟩:=List.mem_iff_getElem.1 hy
   rw[List.getElem_take]
   rw[List.length_take] at hj
   exact decide_eq_true (h1 j (by omega) (by omega))
  rw[this,List.length_take];omega
 have b:(x.drop lo).countP (fun y=>decide (y < t))=0:=List.countP_eq_zero.2 fun y hy=>by
  obtain ⟨j,hj,rfl⟩:=List.mem_iff_getElem.1 hy
  rw[List.getElem_drop]
  rw[List.length_drop] at hj
  have:=h2 (lo+j) (by omega) (by omega)
  simpa using this
 rw[a,b,Nat.add_zero]
theorem Zi5 (x:List Int) (target:Int) (hk:Z9 x target=true):Goes (Zaa x target) (ZcW x target) (ZO x target):=by
 unfold Z9 at hk
 rw[Bool.and_eq_true,decide_eq_true_eq,decide_eq_true_eq] at hk
 obtain ⟨hp,hn⟩:=hk
 have hg:=List.pairwise_iff_getElem.1 hp
 have vless:∀a b:Int,Zfm a b=decide (a < b):=fun a b=>by
  unfold Zfm Zb6
  simp
 have vnan:∀a:Int,ZbG a=false:=fun a=>by unfold ZbG;simp
 have fin:∀lo:Nat,lo≤x.length→(∀j (h:j < x.length),j < lo→x[j] < target)→(∀j (h:j < x.length),lo≤j→target≤x[j])→Goes (Zaa x target) (.jmp (.l4 (lo:Int) (lo:Int))) (ZO x target):=by
  intro lo hlo h1 h2
  have hc:=ZJv hlo h1 h2
  have hv:ZO x target=((lo:Int),x.contains target):=by unfold ZO;rw[hc]
  rw[hv,Zh,Zaa,Ze,if_neg (by simp),Ze]
  have hcon:∀h:lo < x.length,x[lo]≠target→x.contains target=false:=fun h hne=>by
   rw[Bool.eq_false_iff]
   intro hm
   rw[List.contains_iff_mem] at hm
   obtain ⟨j,hj,he⟩:=List.mem_iff_getElem.1 hm
   rcases Nat.lt_trichotomy j lo with hjl | rfl | hjl
   ·have:=h1 j hj hjl;omega
   ·exact hne he
   ·have:=hg lo j h hj hjl
    have:=h2 lo h (Nat.le_refl _)
    omega
  by_cases hl:lo < x.length
  ·rw[if_pos (ZK hl)]
   simp only[Ze,nng,ZK hl,Bool.and_self,if_true,Int.toNat_natCast,ZG hl,vnan]
   by_cases he:x[lo]=target
   ·rw[if_pos (by simpa using he),show x.contains target=true from List.contains_iff_mem.2 (he▸List.getElem_mem hl)]
    exact .leaf
   ·rw[if_neg (by simpa using he),if_neg (by decide),hcon hl he]
    exact .leaf
  ·have:lo=x.length:=by omega
   subst this
   rw[if_neg (by rw[Zw (Nat.lt_irrefl _)];decide)]
   have:x.contains target=false:=by
    rw[Bool.eq_false_iff]
    intro hm
    rw[List.contains_iff_mem] at hm
    obtain ⟨j,hj,he⟩:=List.mem_iff_getElem.1 hm
    have:=h1 j hj hj
    omega
   rw[this]
   exact .leaf
 have loop:∀m lo hi:Nat,hi - lo≤m→lo≤hi→hi≤x.length→(∀j (h:j < x.length),j < lo→x[j] < target)→(∀j (h:j < x.length),hi≤j→target≤x[j])→Goes (Zaa x target) (.jmp (.l4 (lo:Int) (hi:Int))) (ZO x target):=by
  intro m
  induction m with
  | zero=>
   intro lo hi hm hlh hhi h1 h2
   have:lo=hi:=by omega
   subst this
   exact fin lo hhi h1 h2
  | succ m ih=>
   intro lo hi hm hlh hhi h1 h2
   by_cases he:lo=hi
   ·subst he
    exact fin lo hhi h1 h2
   have hlt:lo < hi:=by omega
   have hM:(lo+hi) / 2 < x.length:=by omega
   rw[Zh,Zaa,ZSW (by omega),Ze,if_pos (decide_eq_true (by omega))]
   simp only[Ze,nng,ZK hM,Bool.and_self,if_true,Int.toNat_natCast,ZG hM,vless]
   by_cases c:x[(lo+hi) / 2] < target
   ·rw[if_pos (decide_eq_true c),Zo (by omega)]
    refine ih _ _ (by omega) (by omega) hhi (fun j h hj=>?_) h2
    by_cases e:j=(lo+hi) / 2
    ·subst e;exact c
    ·have:=hg j ((lo+hi) / 2) h hM (by omega)
     omega
   ·rw[if_neg (by simpa using c)]
    refine ih _ _ (by omega) (by omega) (by omega) h1 (fun j h hj=>?_)
    by_cases e:j=(lo+hi) / 2
    ·subst e;omega
    ·have:=hg ((lo+hi) / 2) j hM h (by omega)
     omega
 exact loop x.length 0 x.length (by omega) (by omega) (Nat.le_refl _) (fun j h hj=>absurd hj (Nat.not_lt_zero _)) (fun j h hj=>absurd h (by omega))
end Go.Ev
end

section
open Go Go.Ev
namespace Go.Ev
noncomputable section
noncomputable def Zdm:Run:=entG Z5 ZaP (fun a=>Z9 a.1 a.2.1) (fun a=>ZO a.1 a.2.1)
theorem Zim:EntOK Go.Proofs.Tryz.prog 70 Zdm:=ZH (tb:=Zbp) (c:=ZaO) ZiL (by kernel_rfl) (by kernel_rfl) (by kernel_rfl) (fun a=>by kernel_rfl) fun ⟨x,target,_⟩ hk=>Zm (c:=ZaO) (K:=fun v=>(ZaP v,tps (toForms Z5 (x,target,())))) (S:=ZV x target) (by kernel_rfl) (ZiP x target) (Zi3 x target) (Zi5 x target hk)
end
end Go.Ev
end

section
open Go Go.Ev
namespace Go.Ev
noncomputable section
abbrev mProg:Program:=Go.Proofs.Tryz.prog
noncomputable def msB:Code:=Go.Proofs.Tryz.f46.body.getD .skip
noncomputable def mlR1 (K:Code):Code:=fstC (innC (innC K))
noncomputable def mlB (K:Code):Code:=innC (fstC (sndC (sndC (innC (innC K)))))
noncomputable def mlR2 (K:Code):Code:=sndC (sndC (sndC (innC (innC K))))
noncomputable def ms0:Code:=fstC msB
noncomputable def ms1:Code:=fstC (sndC msB)
noncomputable def ms2:Code:=fstC (sndC (sndC msB))
noncomputable def ms3:Code:=fstC (fstC (sndC (sndC (sndC msB))))
noncomputable def msK:Code:=sndC (fstC (sndC (sndC (sndC msB))))
noncomputable def msE:Code:=fstC (sndC (sndC (sndC (sndC msB))))
noncomputable def msT:Tbl:=[(63,Zxa),(70,Zdm)]
theorem ZSZ:∀p∈msT,EntOK Go.Proofs.Tryz.prog p.1 p.2:=Zg ZAu (Zg Zim Zt)
theorem mcl:Spec mProg (clOf msT)∧DetC (clOf msT):=ZqZ ZSZ
theorem ZSU:msB=.seq ms0 (.seq ms1 (.seq (.region (ridC ms2) (ropsC ms2) false) (.seq (.seq ms3 msK) (.seq msE .ret)))):=by kernel_rfl
theorem ZS9:msK=.block 0 (.loop (.seq (mlR1 msK) (.seq (.cond (.tmp 19) .skip (.exit 0)) (.seq (.block 1 (mlB msK)) (mlR2 msK))))):=by kernel_rfl
noncomputable def ms4:Code:=fstC (mlB msK)
noncomputable def ms5:Code:=fstC (sndC (mlB msK))
noncomputable def ms6:Code:=fstC (fstC (sndC (sndC (mlB msK))))
noncomputable def msX:Code:=thenC (sndC (fstC (sndC (sndC (mlB msK)))))
noncomputable def ms7:Code:=fstC msX
noncomputable def ms8:Code:=sndC msX
noncomputable def ms9:Code:=sndC (sndC (sndC (mlB msK)))
theorem ZSY:mlB msK=.seq ms4 (.seq (.region (ridC ms5) (ropsC ms5) false) (.seq (.seq ms6 (.cond (.tmp 30) (.seq ms7 (.region (ridC ms8) (ropsC ms8) false)) .skip)) ms9)):=by kernel_rfl
def mOb (t:List (El Za)):Id×Nat×Obj:=(4,0,.box 42 [.d (.sl Za) t] none)
def mOut (out:List (El Zd)):Id×Nat×Obj:=(8,0,.row 57 Zd out false)
def mX (x:El Zd):Id×Nat×Obj:=(11,0,.box 57 [.d (.int .i64) x.1,.d (.int .i64) x.2.1,.d (.int .i64) x.2.2] none)
section
variable (t:List (El Za)) (l:List (El Zd)) (pts:List Int) (out:List (El Zd)) (m:Nat) (k:Int) (x:El Zd) (e:List Int) (b:Bool)
def mS0:St:=⟨.ag [.d (.sl Za) t] :: .d (.sl Zd) l :: .d (.sl (.int .i64)) pts :: tops 51,[]⟩
def mS1:St:=⟨mkTm 54 [(1,.d (.sl Zd) l),(2,.d (.sl (.int .i64)) pts),(3,.pt 4 0 0)],[mOb t]⟩
def mS2:St:=⟨mkTm 54 [(1,.d (.sl Zd) l),(2,.d (.sl (.int .i64)) pts),(3,.pt 4 0 0),(7,.own 8 0 none)],[mOb t,mOut []]⟩
def mS3:St:=((mS2 t l pts).put (some 15) (.cst (.map (some m)))).put (some 8) (.cst (.map (some m)))
def mSA:St:=⟨mkTm 54 [(2,.d (.sl (.int .i64)) pts),(3,.pt 4 0 0),(7,.own 8 0 none),(8,.cst (.map (some m))),(16,.d (.sl Zd) l),(17,.d (.int .i64) (Int.ofNat (List.length l))),(18,.d (.int .i64) k)],[mOb t,mOut out]⟩
def mLA:Lab:=⟨[2,3,7,8,16,17,18],[(8,106)]⟩
def mSB:St:=⟨mkTm 54 [(2,.d (.sl (.int .i64)) pts),(3,.pt 4 0 0),(7,.own 8 0 none),(8,.cst (.map (some m))),(10,.pt 11 0 0),(16,.d (.sl Zd) l),(17,.d (.int .i64) (Int.ofNat (List.length l))),(18,.d (.int .i64) k)],[mOb t,mOut out,mX x]⟩
def mLB:Lab:=⟨[2,3,7,8,10,16,17,18],[(8,106)]⟩
def mSC:St:=⟨mkTm 54 [(2,.d (.sl (.int .i64)) pts),(3,.pt 4 0 0),(7,.own 8 0 none),(8,.cst (.map (some m))),(10,.pt 11 0 0),(11,.d (.sl (.int .i64)) e),(12,.d .bool b),(16,.d (.sl Zd) l),(17,.d (.int .i64) (Int.ofNat (List.length l))),(18,.d (.int .i64) k)],[mOb t,mOut out,mX x]⟩
def mLC:Lab:=⟨[2,3,7,8,10,11,12,16,17,18],[(8,106)]⟩
def mLC30:Lab:=⟨[2,3,7,8,10,11,16,17,18,30],[(8,106)]⟩
def mSD:St:=⟨mkTm 54 [(2,.d (.sl (.int .i64)) pts),(3,.pt 4 0 0),(7,.own 8 0 none),(8,.cst (.map (some m))),(10,.pt 11 0 0),(11,.d (.sl (.int .i64)) e),(16,.d (.sl Zd) l),(17,.d (.int .i64) (Int.ofNat (List.length l))),(18,.d (.int .i64) k)],[mOb t,mOut out,mX x]⟩
def mLD:Lab:=⟨[2,3,7,8,10,11,16,17,18],[(8,106)]⟩
def mSO:St:=⟨mkTm 54 [(2,.d (.sl (.int .i64)) pts),(3,.pt 4 0 0),(7,.own 8 0 none),(8,.cst (.map (some m))),(10,.pt 11 0 0),(11,.own 12 0 none),(16,.d (.sl Zd) l),(17,.d (.int .i64) (Int.ofNat (List.length l))),(18,.d (.int .i64) k)],[mOb t,mOut out,mX x,(12,0,.row 3 (.int .i64) e false)]⟩
@[reducible] def inM (i:Int) (n:Nat):Bool:=decide ((0:Int)≤i)&&decide (i < Int.ofNat n)
abbrev mEv (c:Code) (lab:Lab) (s s':St):Prop:=∀(L:Lt) (k:Kt) (x:Nat→Kt) (r:Kt),evC mProg (clOf msT) [] L c 0 (fun t=>k (norm mProg lab t)) x r s=k s'
abbrev mEvI (c:Code) (s s':St):Prop:=∀(L:Lt) (k:Kt) (x:Nat→Kt) (r:Kt),evC mProg (clOf msT) [] L c 0 (fun t=>k t) x r s=k s'
abbrev mEvG (c:Code) (lab:Lab) (s s':St) (b:Bool):Prop:=∀(L:Lt) (k:Kt) (x:Nat→Kt) (r:Kt),evC mProg (clOf msT) [] L c 0 (fun t=>k (norm mProg lab t)) x r s=bif b then k s' else none
theorem mEvG.ok {c:Code} {lab:Lab} {s s':St} {b:Bool} (h:mEvG c lab s s' b) (hb:b=true):mEv c lab s s':=fun L k x r=>by rw[h,hb];rfl
theorem m_0:mEv ms0 ⟨[1,2,3],[]⟩ (mS0 t l pts) (mS1 t l pts):=fun L k x r=>by kernel_rfl
theorem m_1:mEv ms1 ⟨[1,2,3,7],[(8,106)]⟩ (mS1 t l pts) (mS2 t l pts):=fun L k x r=>by kernel_rfl
theorem m_3:mEv ms3 mLA (mS3 t l pts m) (mSA t l pts [] m 0):=fun L k x r=>by kernel_rfl
theorem m_R1:mEvI (mlR1 msK) (mSA t l pts out m k) ((mSA t l pts out m k).put (some 19) (.d .bool (decide (k < Int.ofNat (List.length l))))):=fun L k x r=>by kernel_rfl
theorem m_4:mEvG ms4 mLB ((mSA t l pts out m k).put (some 19) (.d .bool b)) (mSB t l pts out m k (List.getD l (Int.toNat k) (dflt Zd))) (inM k (List.length l)):=fun L k x r=>by kernel_rfl
theorem m_6:mEv ms6 mLC30 (mSC t l pts out m k x e b) ((mSD t l pts out m k x e).put (some 30) (.d .bool (! b))):=fun L k x r=>by kernel_rfl
theorem m_7:mEvG ms7 mLD ((mSD t l pts out m k x e).put (some 30) (.d .bool b)) (mSO t l pts out m k x (ZQ t pts x.2.1)) (Zb5 t pts x.2.1):=fun L k x r=>by kernel_rfl
theorem ZTu:norm mProg mLD ((mSD t l pts out m k x e).put (some 30) (.d .bool b))=mSD t l pts out m k x e:=by kernel_rfl
theorem m_9 (L:Lt) (kk:Kt) (xx:Nat→Kt) (r:Kt):evC mProg (clOf msT) [] L ms9 0 (fun t=>kk (norm mProg mLA t)) xx r (mSD t l pts out m k x e)=
  bif Z9 e x.2.2 then (bif (ZO e x.2.2).2 then (bif Nat.ble ((List.length out+1)*24) limit then kk (mSA t l pts (out++[x]) m k) else none) else kk (mSA t l pts out m k)) else none:=by kernel_rfl
theorem m_R2:mEv (mlR2 msK) mLA (mSA t l pts out m k) (mSA t l pts out m (IntKind.i64.wrap (k+1))):=fun L k x r=>by kernel_rfl
theorem m_E:mEvI msE ((mSA t l pts out m k).put (some 19) (.d .bool b)) ((((mSA t l pts out m k).put (some 19) (.d .bool b)).put (some 53) (.own 8 0 none)).put (some 6) (.own 8 0 none)):=fun L k x r=>by kernel_rfl
def mSB5 (e:List Int) (b:Bool):St:=((((mSB t l pts out m k x).put (some 23) (.cst (.map (some m)))).put (some 24) (.pt 11 0 1)).put (some 25) (.d (.int .i64) x.2.1)).put (some 26) (.tu [.d (.sl (.int .i64)) e,.d .bool b])
def mSB9 (e:List Int) (b:Bool):St:=(((((mSB5 t l pts out m k x e b).put (some 22) (.tu [.d (.sl (.int .i64)) e,.d .bool b])).put (some 27) (.d (.sl (.int .i64)) e)).put (some 28) (.d .bool b)).put (some 11) (.d (.sl (.int .i64)) e)).put (some 12) (.d .bool b)
theorem m_n9:norm mProg mLC (mSB9 t l pts out m k x e b)=mSC t l pts out m k x e b:=by kernel_rfl
def mSO4:St:=((((mSO t l pts out m k x e).put (some 36) (.cst (.map (some m)))).put (some 37) (.pt 11 0 1)).put (some 38) (.d (.int .i64) x.2.1)).put (some 39) (.own 12 0 none)
theorem m_n8 (o:Option Nat) (ho:o=none):norm mProg ⟨[2,3,7,8,10,11,16,17,18],[(8,106),(12+lockK,1)]⟩ (((mSO4 t l pts out m k x e).lock [12]).put o .top)=mSD t l pts out m k x e:=by
 subst ho
 kernel_rfl
end
section
variable [Orgs] {Mod F0:Nat→Prop} {w0:World} {a:Act} {w:World} {Q:Exit→Act→World→Prop}
variable {t:List (El Za)} {l:List (El Zd)} {pts:List Int} {out:List (El Zd)} {m:Nat} {k:Int} {x:El Zd} {ms:MapD}
theorem mw_2 (hr:Rel Mod F0 w0 (mS2 t l pts) a w) (hQ:∀m a' w',RelX (mapHid m []) Mod F0 w0 (mS3 t l pts m) a' w'→Q .normal a' w'):(Code.region (ridC ms2) (ropsC ms2) false).wp mProg Q a w:=by
 refine wp_region ?_
 rw[show List.range (ropsC ms2).size=[0,1] from by kernel_rfl]
 refine handOp (o:=opC ms2 0) (by kernel_rfl) (by kernel_rfl) ?_
 refine makeMapX (TM:=97) (by kernel_rfl) hr fun m a w hr=>?_
 rw[show (opC ms2 0).dst=some 15 from by kernel_rfl] at hr
 refine evOpX mcl.1 (o:=opC ms2 1) (st1:=mS3 t l pts m) (by kernel_rfl) (by kernel_rfl) (fun k=>by kernel_rfl) hr fun a w hr=>?_
 exact hQ m a w hr
theorem mw_5 (hr:RelX (mapHid m ms) Mod F0 w0 (mSB t l pts out m k x) a w) (hQ:∀a' w',RelX (mapHid m ms) Mod F0 w0 (mSC t l pts out m k x ((getM ms x.2.1).getD []) (getM ms x.2.1).isSome) a' w'→Q .normal a' w'):(Code.region (ridC ms5) (ropsC ms5) false).wp mProg Q a w:=by
 refine wp_region ?_
 rw[show List.range (ropsC ms5).size=[0,1,2,3,4,5,6,7,8] from by kernel_rfl]
 refine evOpX mcl.1 (o:=opC ms5 0) (st1:=(mSB t l pts out m k x).put (some 23) (.cst (.map (some m)))) (by kernel_rfl) (by kernel_rfl) (fun k=>by kernel_rfl) hr fun a w hr=>?_
 refine evOpX mcl.1 (o:=opC ms5 1) (st1:=((mSB t l pts out m k x).put (some 23) (.cst (.map (some m)))).put (some 24) (.pt 11 0 1)) (by kernel_rfl) (by kernel_rfl) (fun k=>by kernel_rfl) hr fun a w hr=>?_
 refine evOpX mcl.1 (o:=opC ms5 2) (st1:=(((mSB t l pts out m k x).put (some 23) (.cst (.map (some m)))).put (some 24) (.pt 11 0 1)).put (some 25) (.d (.int .i64) x.2.1)) (by kernel_rfl) (by kernel_rfl) (fun k=>by kernel_rfl) hr fun a w hr=>?_
 refine handOp (o:=opC ms5 3) (by kernel_rfl) (by kernel_rfl) ?_
 refine lookupX (TM:=97) (K:=3) (V:=29) (x:=.tmp 23) (k:=.tmp 25) (key:=x.2.1) (by kernel_rfl) (by kernel_rfl) (by kernel_rfl) (by kernel_rfl) (by kernel_rfl) (by kernel_rfl) hr fun a w hr=>?_
 rw[show (opC ms5 3).dst=some 26 from by kernel_rfl] at hr
 generalize (getM ms x.2.1).getD []=e at hr hQ
 generalize (getM ms x.2.1).isSome=b at hr hQ
 refine evOpX mcl.1 (o:=opC ms5 4) (st1:=(mSB5 t l pts out m k x e b).put (some 22) (.tu [.d (.sl (.int .i64)) e,.d .bool b])) (by kernel_rfl) (by kernel_rfl) (fun k=>by kernel_rfl) hr fun a w hr=>?_
 refine evOpX mcl.1 (o:=opC ms5 5) (st1:=((mSB5 t l pts out m k x e b).put (some 22) (.tu [.d (.sl (.int .i64)) e,.d .bool b])).put (some 27) (.d (.sl (.int .i64)) e)) (by kernel_rfl) (by kernel_rfl) (fun k=>by kernel_rfl) hr fun a w hr=>?_
 refine evOpX mcl.1 (o:=opC ms5 6) (st1:=(((mSB5 t l pts out m k x e b).put (some 22) (.tu [.d (.sl (.int .i64)) e,.d .bool b])).put (some 27) (.d (.sl (.int .i64)) e)).put (some 28) (.d .bool b)) (by kernel_rfl) (by kernel_rfl) (fun k=>by kernel_rfl) hr fun a w hr=>?_
 refine evOpX mcl.1 (o:=opC ms5 7) (st1:=((((mSB5 t l pts out m k x e b).put (some 22) (.tu [.d (.sl (.int .i64)) e,.d .bool b])).put (some 27) (.d (.sl (.int .i64)) e)).put (some 28) (.d .bool b)).put (some 11) (.d (.sl (.int .i64)) e)) (by kernel_rfl) (by kernel_rfl) (fun k=>by kernel_rfl) hr fun a w hr=>?_
 refine evOpX mcl.1 (o:=opC ms5 8) (st1:=mSB9 t l pts out m k x e b) (by kernel_rfl) (by kernel_rfl) (fun k=>by kernel_rfl) hr fun a w hr=>?_
 exact hQ a w (RelX.norm (P:=mProg) (m_n9 t l pts out m k x e b) hr)
theorem mw_8 {e:List Int} (hn:getM ms x.2.1=none) (hr:RelX (mapHid m ms) Mod F0 w0 (mSO t l pts out m k x e) a w) (hQ:∀a' w',RelX (mapHid m (ms++[((show Int from x.2.1),e)])) Mod F0 w0 (mSD t l pts out m k x e) a' w'→Q .normal a' w'):(Code.region (ridC ms8) (ropsC ms8) false).wp mProg Q a w:=by
 refine wp_region ?_
 rw[show List.range (ropsC ms8).size=[0,1,2,3,4] from by kernel_rfl]
 refine evOpX mcl.1 (o:=opC ms8 0) (st1:=(mSO t l pts out m k x e).put (some 36) (.cst (.map (some m)))) (by kernel_rfl) (by kernel_rfl) (fun k=>by kernel_rfl) hr fun a w hr=>?_
 refine evOpX mcl.1 (o:=opC ms8 1) (st1:=((mSO t l pts out m k x e).put (some 36) (.cst (.map (some m)))).put (some 37) (.pt 11 0 1)) (by kernel_rfl) (by kernel_rfl) (fun k=>by kernel_rfl) hr fun a w hr=>?_
 refine evOpX mcl.1 (o:=opC ms8 2) (st1:=(((mSO t l pts out m k x e).put (some 36) (.cst (.map (some m)))).put (some 37) (.pt 11 0 1)).put (some 38) (.d (.int .i64) x.2.1)) (by kernel_rfl) (by kernel_rfl) (fun k=>by kernel_rfl) hr fun a w hr=>?_
 refine evOpX mcl.1 (o:=opC ms8 3) (st1:=mSO4 t l pts out m k x e) (by kernel_rfl) (by kernel_rfl) (fun k=>by kernel_rfl) hr fun a w hr=>?_
 refine handOp (o:=opC ms8 4) (by kernel_rfl) (by kernel_rfl) ?_
 refine updateX (TM:=97) (K:=3) (V:=29) (E:=3) (x:=.tmp 36) (k:=.tmp 38) (v:=.tmp 39) (key:=x.2.1) (id:=12) (ver:=0) (r:=e) (lk:=false) (by kernel_rfl) (by kernel_rfl) (by kernel_rfl) (by kernel_rfl) (by kernel_rfl) (by kernel_rfl) (by kernel_rfl) hn hr fun a w hr=>?_
 exact hQ a w (RelX.norm (P:=mProg) (m_n8 t l pts out m k x e _ (by kernel_rfl)) hr)
def OkM (t:List (El Za)) (pts:List Int) (ms:MapD):Prop:=∀s r,getM ms s=some r→r=ZQ t pts s
theorem ZSx {s:Int} (h:OkM t pts ms):OkM t pts (ms++[(s,ZQ t pts s)]):=fun s' r hr=>by
 unfold getM at hr
 rw[List.find?_append] at hr
 cases hf:ms.find? (fun e=>e.1==s') with
 | some y=>
  rw[hf] at hr
  exact h s' r (by unfold getM;rw[hf];exact hr)
 | none=>
  rw[hf] at hr
  simp only[Option.none_or,List.find?_cons,List.find?_nil] at hr
  split at hr
  ·rename_i hs
   have hs:s=s':=by simpa using hs
   subst hs
   cases hr
   rfl
  ·cases hr
theorem ZQ9 (hf:flowOK t=true) (hp:pts.length < 4611686018427387904) (x:El Zd):Z9 (ZQ t pts x.2.1) x.2.2=true∧(ZO (ZQ t pts x.2.1) x.2.2).2=uB t pts x:=by
 have hl:=Zbx hf
 have h1:(ZQ t pts x.2.1).length≤t.length:=ZC3
 refine ⟨?_,?_⟩
 ·unfold Z9
  rw[Bool.and_eq_true,decide_eq_true_eq,decide_eq_true_eq]
  exact ⟨ZqG,by omega⟩
 ·show (ZQ t pts x.2.1).contains x.2.2=_
  unfold ZQ uB
  exact Ztz
theorem ZSN {n j:Nat} (h:j < n):inM (j:Int) n=true:=by
 unfold inM
 rw[Bool.and_eq_true,decide_eq_true_eq,decide_eq_true_eq]
 exact ⟨Int.natCast_nonneg j,Int.ofNat_lt.2 h⟩
theorem mw_L (hf:flowOK t=true) (hp:pts.length < 4611686018427387904) {j:Nat} (hj:j < l.length) {b:Bool} (hlim:(out.length+1)*24≤limit) (ho:OkM t pts ms) (hr:RelX (mapHid m ms) Mod F0 w0 ((mSA t l pts out m (j:Int)).put (some 19) (.d .bool b)) a w):
  (mlB msK).wp mProg (fun e a' w'=>(e=.normal∨e=.exit 1)∧∃ms',OkM t pts ms'∧RelX (mapHid m ms') Mod F0 w0 (mSA t l pts (out++if uB t pts l[j]=true then [l[j]] else []) m (j:Int)) a' w') a w:=by
 rw[ZSY]
 refine wp_seq (pieceX mcl.1 mcl.2 (norm mProg mLB) (fun h=>Z4 h) ((m_4 t l pts out m (j:Int) b).ok (ZSN hj)) hr fun a w hr=>?_)
 rw[Int.toNat_natCast,ZG hj] at hr
 generalize l[j]=x at hr
 have kE:Zb5 t pts x.2.1=true:=by unfold Zb5;rw[hf,decide_eq_true hp];rfl
 obtain ⟨q1,q2⟩:=ZQ9 hf hp x
 have last:∀(ms':MapD),OkM t pts ms'→∀a w,RelX (mapHid m ms') Mod F0 w0 (mSD t l pts out m (j:Int) x (ZQ t pts x.2.1)) a w→ms9.wp mProg (fun e a' w'=>(e=.normal∨e=.exit 1)∧∃ms',OkM t pts ms'∧RelX (mapHid m ms') Mod F0 w0 (mSA t l pts (out++if uB t pts x=true then [x] else []) m (j:Int)) a' w') a w:=by
  intro ms' ho' a w hr
  by_cases hu:uB t pts x=true
  ·refine pieceX mcl.1 mcl.2 (norm mProg mLA) (fun h=>Z4 h) (st1:=mSA t l pts (out++[x]) m (j:Int)) (fun L k xx r=>by rw[m_9,q1,q2,hu,Nat.ble_eq_true_of_le hlim];rfl) hr fun a w hr=>?_
   rw[if_pos hu]
   exact ⟨.inl rfl,ms',ho',hr⟩
  ·have hu':uB t pts x=false:=by simpa using hu
   refine pieceX mcl.1 mcl.2 (norm mProg mLA) (fun h=>Z4 h) (st1:=mSA t l pts out m (j:Int)) (fun L k xx r=>by rw[m_9,q1,q2,hu'];rfl) hr fun a w hr=>?_
   rw[if_neg hu,List.append_nil]
   exact ⟨.inl rfl,ms',ho',hr⟩
 refine wp_seq (mw_5 hr fun a w hr=>?_)
 refine wp_seq (wp_seq (pieceX mcl.1 mcl.2 (norm mProg mLC30) (fun h=>Z4 h) (m_6 t l pts out m (j:Int) x _ _) hr fun a w hr=>?_))
 have ht:=hr.evb (x:=.tmp 30) (b:=! (getM ms x.2.1).isSome) (by kernel_rfl)
 cases hg:getM ms x.2.1 with
 | none=>
  rw[hg] at ht hr
  refine wp_cond_true ht ?_
  refine wp_seq (pieceX mcl.1 mcl.2 (norm mProg mLD) (fun h=>Z4 h) ((m_7 t l pts out m (j:Int) x _ _).ok kE) hr fun a w hr=>?_)
  exact mw_8 hg hr fun a w hr=>last _ (ZSx ho) a w hr
 | some e=>
  rw[hg] at ht hr
  refine wp_cond_false ht (wp_skip ?_)
  have:=RelX.norm (P:=mProg) (ZTu t l pts out m (j:Int) x _ _) hr
  have he:=ho _ _ hg
  subst he
  exact last _ ho a w this
end
def ZoD:Sig:=[(true,(.sl Za)),(false,(.sl Zd)),(false,(.sl (.int .i64)))]
noncomputable def ZbM (t:List (El Za)) (l:List (El Zd)) (points:List Int):List (El Zd):=missL (uB t) points l
def ZaC (t:List (El Za)) (l:List (El Zd)) (points:List Int):Bool:=flowOK t&&(decide (points.length < 4611686018427387904)&&decide (l.length < 1000000000000))
def ZxF:List (El Zd)→AV:=fun r=>.rw 57 Zd r
theorem ZQc {U:El Zd→Bool} {l:List (El Zd)} {j:Nat} (hj:j < l.length):(l.take (j+1)).filter U=(l.take j).filter U++if U l[j]=true then [l[j]] else []:=by
 rw[List.take_succ_eq_append_getElem hj,List.filter_append,List.filter_cons,List.filter_nil]
theorem Zxs (t:List (El Za)) (l:List (El Zd)) (pts:List Int) (hk:ZaC t l pts=true):CallOK mProg 46 (toForms ZoD (t,l,pts,())) (ZxF (ZbM t l pts),tps (toForms ZoD (t,l,pts,()))):=by
 unfold ZaC at hk
 rw[Bool.and_eq_true,Bool.and_eq_true,decide_eq_true_eq,decide_eq_true_eq] at hk
 obtain ⟨hf,hp,hN⟩:=hk
 refine ZnP (tb:=[]) (fn:=Go.Proofs.Tryz.f46) (c:=msB) (vs:=[.ag [.d (.sl Za) t],.d (.sl Zd) l,.d (.sl (.int .i64)) pts]) (st:=⟨[],[]⟩) (by kernel_rfl) (by kernel_rfl) (by kernel_rfl) ?_
 intro _ Mod F0 w0 a w hr
 have hr:Rel Mod F0 w0 (mS0 t l pts) a w:=hr
 rw[ZSU]
 refine wp_seq (piece mcl.1 mcl.2 (norm mProg ⟨[1,2,3],[]⟩) (fun h=>Z4 h) (m_0 t l pts) hr fun a w hr=>?_)
 refine wp_seq (piece mcl.1 mcl.2 (norm mProg ⟨[1,2,3,7],[(8,106)]⟩) (fun h=>Z4 h) (m_1 t l pts) hr fun a w hr=>?_)
 refine wp_seq (mw_2 hr fun m a w hr=>?_)
 refine wp_seq (wp_seq (pieceX mcl.1 mcl.2 (norm mProg mLA) (fun h=>Z4 h) (m_3 t l pts m) hr fun a w hr=>?_))
 rw[ZS9]
 refine forLoop (fun j a w=>∃ms,OkM t pts ms∧RelX (mapHid m ms) Mod F0 w0 (mSA t l pts ((l.take j).filter (uB t pts)) m (j:Int)) a w)
  (fun j a w=>∃ms,OkM t pts ms∧RelX (mapHid m ms) Mod F0 w0 ((mSA t l pts ((l.take j).filter (uB t pts)) m (j:Int)).put (some 19) (.d .bool (decide ((j:Int) < Int.ofNat (List.length l))))) a w)
  (fun j a w=>∃ms,OkM t pts ms∧RelX (mapHid m ms) Mod F0 w0 (mSA t l pts ((l.take (j+1)).filter (uB t pts)) m (j:Int)) a w)
  l.length (toGo 18 l.length) ?_ ?_ ?_ ?_ ?_ ⟨[],fun s r h=>(by cases h),hr⟩ ?_
 ·intro j a w hj ⟨ms,ho,hr⟩
  exact pieceX mcl.1 mcl.2 (fun s=>s) (fun h=>h) (m_R1 _ _ _ _ _ _) hr fun a' w' hr'=>⟨rfl,ms,ho,hr'⟩
 ·intro j a w hj ⟨ms,ho,hr⟩
  rw[hr.evb (x:=.tmp 19) (b:=decide ((j:Int) < Int.ofNat (List.length l))) (by kernel_rfl)]
  exact congrArg Value.bool (by rw[Bool.eq_iff_iff,decide_eq_true_eq,decide_eq_true_eq];exact Int.ofNat_lt)
 ·intro j a w hj ⟨ms,ho,hr⟩
  rw[ZQc hj]
  refine mw_L hf hp hj ?_ ho hr
  have h1:=List.length_filter_le (uB t pts) (l.take j)
  rw[List.length_take] at h1
  unfold limit
  omega
 ·intro j a w hj ⟨ms,ho,hr⟩
  have e:=m_R2 t l pts ((l.take (j+1)).filter (uB t pts)) m (j:Int)
  rw[Zo (by omega)] at e
  exact pieceX mcl.1 mcl.2 (norm mProg mLA) (fun h=>Z4 h) e hr fun a' w' hr'=>⟨rfl,ms,ho,hr'⟩
 ·intro j a w hj ⟨ms,ho,hr⟩
  unfold toGo
  rw[hr.ev (x:=.tmp 18) (k:=.i64) (n:=(j:Int)) (by kernel_rfl)]
  rfl
 ·intro a w ⟨ms,ho,hr⟩
  rw[List.take_length] at hr
  have hr:=hr.out
  refine wp_seq (piece mcl.1 mcl.2 (fun s=>s) (fun h=>h) (m_E t l pts (l.filter (uB t pts)) m _ _) hr fun a w hr=>?_)
  exact wp_ret ⟨.inr rfl,_,hr,by kernel_rfl⟩
noncomputable def Zk3:Run:=entG ZoD ZxF (fun a=>ZaC a.1 a.2.1 a.2.2.1) (fun a=>ZbM a.1 a.2.1 a.2.2.1)
theorem Zpa:EntOK mProg 46 Zk3:=ZDF (ZjR (fn:=Go.Proofs.Tryz.f46) (c:=msB) (by kernel_rfl) (by kernel_rfl) (by kernel_rfl)) fun a h=>Zxs a.1 a.2.1 a.2.2.1 h
end
end Go.Ev
end

section
open Go Go.Ev
namespace Go.Ev
noncomputable section
def Zf4:Sig:=[(true,Zc),(false,(.int .i64)),(false,(.sl (.int .i64)))]
noncomputable def ZtM:Tbl:=[(20,Zjg),(31,ZiH),(21,ZuI),(46,Zk3)]
theorem ZGv:∀p∈ZtM,EntOK Go.Proofs.Tryz.prog p.1 p.2:=Zg Zkl (Zg Zj6 (Zg Ztc (Zg Zpa (Zt))))
noncomputable def Znu:Code:=Go.Proofs.Tryz.f36.body.getD .skip
def ZrS:Tb:=[]
def Zz8 (p:El Zc) (t:Int) (points:List Int):Empty→JT Empty (Bool):=fun j=>nomatch j
def ZxN (p:El Zc) (t:Int) (points:List Int):JT Empty (Bool):=.br (Za1 p t) (.br (ZaZ p t) (.br ((decide ((0:Int)≤t))&&(decide (t < (Int.ofNat (List.length p.2))))) (.br (Z6 p) (.br (Zcd (Zl p) t) (.br (ZaC (List.getD p.2 (Int.toNat t) (dflt (.sl Za))) (ZU (Zl p) t) points) (.leaf ((Int.ofNat (List.length (ZbM (List.getD p.2 (Int.toNat t) (dflt (.sl Za))) (ZU (Zl p) t) points)))==(0:Int))) (.no)) (.no)) (.no)) (.no)) (.leaf false)) (.no)
def Za4 (p:El Zc) (t:Int) (points:List Int):Bool:=bif (Za1 p t) then bif (ZaZ p t) then bif ((decide ((0:Int)≤t))&&(decide (t < (Int.ofNat (List.length p.2))))) then bif (Z6 p) then bif (Zcd (Zl p) t) then bif (ZaC (List.getD p.2 (Int.toNat t) (dflt (.sl Za))) (ZU (Zl p) t) points) then ((Int.ofNat (List.length (ZbM (List.getD p.2 (Int.toNat t) (dflt (.sl Za))) (ZU (Zl p) t) points)))==(0:Int)) else false else false else false else false else false else false
def Zbi (p:El Zc) (t:Int) (points:List Int):Bool:=bif (Za1 p t) then bif (ZaZ p t) then bif ((decide ((0:Int)≤t))&&(decide (t < (Int.ofNat (List.length p.2))))) then bif (Z6 p) then bif (Zcd (Zl p) t) then bif (ZaC (List.getD p.2 (Int.toNat t) (dflt (.sl Za))) (ZU (Zl p) t) points) then true else false else false else false else false else true else false
theorem ZK6 (p:El Zc) (t:Int) (points:List Int) (hk:Zbi p t points=true):Goes (Zz8 p t points) (ZxN p t points) (Za4 p t points):=Goes.brk hk (fun hk=>Goes.brk hk (fun hk=>Goes.brk hk (fun hk=>Goes.brk hk (fun hk=>Goes.brk hk (fun hk=>Goes.brk hk (fun hk=>Goes.leaf) (fun hk=>Goes.nok hk)) (fun hk=>Goes.nok hk)) (fun hk=>Goes.nok hk)) (fun hk=>Goes.nok hk)) (fun hk=>Goes.leaf)) (fun hk=>Goes.nok hk)
def Zn5:Bool→AV:=fun (r:Bool)=>.d .bool r
def Zfl (p:El Zc) (t:Int) (points:List Int):Empty→Nat×St:=fun j=>nomatch j
theorem ZIs (p:El Zc) (t:Int) (points:List Int) (L:Lt):entryA Go.Proofs.Tryz.prog (clOf ZtM) ZrS Go.Proofs.Tryz.f36 Znu L (toForms Zf4 (p,t,points,()))=(ZxN p t points).run (fun v=>some (Zn5 v,tps (toForms Zf4 (p,t,points,())))) fun j=>L (Zfl p t points j).1 (Zfl p t points j).2:=by kernel_rfl
theorem ZG1 (p:El Zc) (t:Int) (points:List Int):∀(L:Lt) (j:Empty),procOf (procsF Go.Proofs.Tryz.prog (clOf ZtM) ZrS Go.Proofs.Tryz.f36 Znu (toForms Zf4 (p,t,points,()))) (Zfl p t points j).1 L (Zfl p t points j).2=(Zz8 p t points j).run (fun v=>some (Zn5 v,tps (toForms Zf4 (p,t,points,())))) fun j=>L (Zfl p t points j).1 (Zfl p t points j).2:=fun L j=>nomatch j
noncomputable def ZAL:Run:=entG Zf4 Zn5 (fun a=>Zbi a.1 a.2.1 a.2.2.1) (fun a=>Za4 a.1 a.2.1 a.2.2.1)
theorem ZHJ:EntOK Go.Proofs.Tryz.prog 36 ZAL:=ZH (tb:=ZrS) (c:=Znu) ZGv (by kernel_rfl) (by kernel_rfl) (by kernel_rfl) (fun a=>by kernel_rfl) fun ⟨p,t,points,_⟩ hk=>Zm (c:=Znu) (K:=fun v=>(Zn5 v,tps (toForms Zf4 (p,t,points,())))) (S:=Zfl p t points) (by kernel_rfl) (ZIs p t points) (ZG1 p t points) (ZK6 p t points hk)
end
end Go.Ev
end

section
open Go Go.Ev
namespace Go.Ev
def renClo:Go.Shelf.Ren:=⟨fun n=>if n=15 then 47 else n,
 fun n=>if n=22 then 29 else n,
 fun n=>n⟩
theorem Zwd:Go.Proofs.Lays2.n15 Go.Proofs.Tryz.prog renClo where
 mixed:=by kernel_rfl
 f15:=by kernel_rfl
 t3:=by kernel_rfl
 a3:=fun w=>by kernel_rfl
 z3:=fun w=>by kernel_rfl
 v3:=fun w=>by kernel_rfl
 t4:=by kernel_rfl
 a4:=fun w=>by kernel_rfl
 z4:=fun w=>by kernel_rfl
 v4:=fun w=>by kernel_rfl
 t22:=by kernel_rfl
 a22:=fun w=>by kernel_rfl
 z22:=fun w=>by kernel_rfl
 v22:=fun w=>by kernel_rfl
 i3:=by kernel_rfl
theorem cloOK:CloneOK Go.Proofs.Tryz.prog 47 3:=⟨fun b off n c zs w h1 h2 h3=>Go.Proofs.Any.slices_Clone_int Zwd b off n c zs w h1 h2 h3,fun n c w=>Go.Proofs.Any.slices_Clone_int_nil Zwd n c w,fun a c w=>Go.Proofs.Any.slices_Clone_int_zero Zwd a c w⟩
noncomputable section
def Zm8:Sig:=[(false,.sl (.int .i64))]
def ZN (l:List Int):List Int:=l
def Zbe (l:List Int):Bool:=decide (l.length*8≤140737488355328)
def ZoR:List Int→AV:=fun r=>.rw 3 (.int .i64) r
def Zc6:Run:=entG Zm8 ZoR (fun a=>Zbe a.1) (fun a=>ZN a.1)
theorem ZgC:EntOK Go.Proofs.Tryz.prog 47 Zc6:=ZDF (ZjR (fn:=Go.Proofs.Tryz.f47) (c:=Go.Proofs.Tryz.f47.body.getD .skip) (by kernel_rfl) (by kernel_rfl) (by kernel_rfl)) fun a h=>ZPi cloOK a.1 (of_decide_eq_true h)
end
end Go.Ev
end

section
open Go Go.Ev
namespace Go.Ev
def renDel:Go.Shelf.Ren:=⟨fun n=>if n=23 then 71 else n,
 fun n=>if n=22 then 29 else n,
 fun n=>n⟩
theorem ZMD:Go.Proofs.Lays2.n23 Go.Proofs.Tryz.prog renDel where
 mixed:=by kernel_rfl
 f23:=by kernel_rfl
 t0:=by kernel_rfl
 a0:=fun w=>by kernel_rfl
 z0:=fun w=>by kernel_rfl
 v0:=fun w=>by kernel_rfl
 t3:=by kernel_rfl
 a3:=fun w=>by kernel_rfl
 z3:=fun w=>by kernel_rfl
 v3:=fun w=>by kernel_rfl
 t4:=by kernel_rfl
 a4:=fun w=>by kernel_rfl
 z4:=fun w=>by kernel_rfl
 v4:=fun w=>by kernel_rfl
 t22:=by kernel_rfl
 a22:=fun w=>by kernel_rfl
 z22:=fun w=>by kernel_rfl
 v22:=fun w=>by kernel_rfl
 i3:=by kernel_rfl
theorem delOK:DeleteOK Go.Proofs.Tryz.prog 71:=fun blk off cap i j zs w h1 h2 h3 h4 h5=>Go.Proofs.Any.slices_Delete_int ZMD blk off cap i j zs w h1 h2 h3 h4 h5
noncomputable section
def ZmD:PSig:=[.row 3 (.int .i64),.dat false (.int .i64),.dat false (.int .i64)]
def ZaA (l:List Int) (i j:Int):List Int:=l.take i.toNat++l.drop j.toNat
def ZcC (l:List Int) (i j:Int):Bool:=decide (0≤i∧i≤j∧j≤(l.length:Int)∧0 < l.length)
def Zm7:List Int→Ans:=fun r=>(.rw 3 (.int .i64) r,[.top,.top,.top])
def ZgB:Run:=rowRun (entO ZmD Zm7 (fun a=>ZcC a.1 a.2.1 a.2.2.1) (fun a=>ZaA a.1 a.2.1 a.2.2.1))
theorem ZmX:EntOK Go.Proofs.Tryz.prog 71 ZgB:=ZB7 (Zxc (ZqM (ZjR (fn:=Go.Proofs.Tryz.f71) (c:=Go.Proofs.Tryz.f71.body.getD .skip) (by kernel_rfl) (by kernel_rfl) (by kernel_rfl))) fun a h=>by
 obtain ⟨h1,h2,h3,h4⟩:=of_decide_eq_true h
 exact ZMW delOK a.1 h1 h2 h3 (List.length_pos_iff.1 h4))
end
end Go.Ev
end

section
open Go Go.Ev
namespace Go.Ev
noncomputable section
def ZhZ:Sig:=[(true,(.sl Za)),(false,(.sl Zd)),(false,(.sl (.int .i64)))]
noncomputable def Zw9:Tbl:=[(23,Zkc),(47,Zc6),(71,ZgB),(46,Zk3)]
theorem ZKg:∀p∈Zw9,EntOK Go.Proofs.Tryz.prog p.1 p.2:=Zg Zlf (Zg ZgC (Zg ZmX (Zg Zpa (Zt))))
noncomputable def Zqd:Code:=Go.Proofs.Tryz.f48.body.getD .skip
def ZtG:Tb:=[(4,⟨[1,3,7,12,13,14],[(8,58)]⟩),(13,⟨[1,3,7,10],[]⟩)]
inductive Zmu where | l4 (h:Int) (out:List Int) | l13 (out:List Int) (i:Int)
def Zfy (t:List (El Za)) (all:List (El Zd)) (points:List Int):Zmu→JT Zmu (List Int) |.l4 h out=>.br (decide (h < (Int.ofNat (List.length points)))) (.br ((decide ((0:Int)≤h))&&(decide (h < (Int.ofNat (List.length points))))) (.br (decide ((List.getD points (Int.toNat h) (dflt (.int .i64)))≥(0:Int))) (.br (decide ((List.getD points (Int.toNat h) (dflt (.int .i64))) < (Int.ofNat (List.length t)))) (.br (Nat.ble (((List.length out)+1)*8) limit) (.jmp (.l4 (IntKind.i64.wrap (h+(1:Int))) (out++[(List.getD points (Int.toNat h) (dflt (.int .i64)))]))) (.no)) (.jmp (.l4 (IntKind.i64.wrap (h+(1:Int))) out))) (.jmp (.l4 (IntKind.i64.wrap (h+(1:Int))) out))) (.no)) (.br (Zck out) (.jmp (.l13 (ZfB out) (0:Int))) (.no)) |.l13 out i=>.br (decide (i < (Int.ofNat (List.length out)))) (.br (Zbe out) (.br (ZcC (ZN out) i (IntKind.i64.wrap (i+(1:Int)))) (.br (ZaC t all (ZaA (ZN out) i (IntKind.i64.wrap (i+(1:Int))))) (.br ((Int.ofNat (List.length (ZbM t all (ZaA (ZN out) i (IntKind.i64.wrap (i+(1:Int)))))))==(0:Int)) (.jmp (.l13 (ZaA (ZN out) i (IntKind.i64.wrap (i+(1:Int)))) i)) (.jmp (.l13 out (IntKind.i64.wrap (i+(1:Int)))))) (.no)) (.no)) (.no)) (.leaf out)
def Zz2 (t:List (El Za)) (all:List (El Zd)) (points:List Int):JT Zmu (List Int):=.jmp (.l4 (0:Int) [])
def ZqI:List Int→AV:=fun (r:List Int)=>.rw 3 (.int .i64) r
def Zha (t:List (El Za)) (all:List (El Zd)) (points:List Int):Zmu→Nat×St |.l4 h out=>(4,⟨mkTm 54 [(1,.d (.sl Zd) all),(3,.pt 4 0 0),(7,.own 8 0 none),(12,.d (.sl (.int .i64)) points),(13,.d (.int .i64) (Int.ofNat (List.length points))),(14,.d (.int .i64) h)],[(4,0,.box 42 [.d (.sl Za) t] none),(8,0,.row 3 (.int .i64) out false)]⟩) |.l13 out i=>(13,⟨mkTm 54 [(1,.d (.sl Zd) all),(3,.pt 4 0 0),(7,.own 8 0 none),(10,.d (.int .i64) i)],[(4,0,.box 42 [.d (.sl Za) t] none),(8,0,.row 3 (.int .i64) out false)]⟩)
theorem ZMe (t:List (El Za)) (all:List (El Zd)) (points:List Int) (L:Lt):entryA Go.Proofs.Tryz.prog (clOf Zw9) ZtG Go.Proofs.Tryz.f48 Zqd L (toForms ZhZ (t,all,points,()))=(Zz2 t all points).run (fun v=>some (ZqI v,tps (toForms ZhZ (t,all,points,())))) fun j=>L (Zha t all points j).1 (Zha t all points j).2:=by kernel_rfl
theorem ZKA (t:List (El Za)) (all:List (El Zd)) (points:List Int):∀(L:Lt) (j:Zmu),procOf (procsF Go.Proofs.Tryz.prog (clOf Zw9) ZtG Go.Proofs.Tryz.f48 Zqd (toForms ZhZ (t,all,points,()))) (Zha t all points j).1 L (Zha t all points j).2=(Zfy t all points j).run (fun v=>some (ZqI v,tps (toForms ZhZ (t,all,points,())))) fun j=>L (Zha t all points j).1 (Zha t all points j).2 | L,.l4 h out=>by kernel_rfl | L,.l13 out i=>by kernel_rfl
end
end Go.Ev
end

section
open Go
namespace Go.Ev
noncomputable def Zbt (t:List (El Za)) (all:List (El Zd)) (points:List Int):List Int:=pruneV (uB t) t.length all points
def Zec (t:List (El Za)) (all:List (El Zd)) (points:List Int):Bool:=flowOK t&&(decide (points.length < 1000000000000)&&decide (all.length < 1000000000000))
theorem ZOf {l:List Int} :(putsL [] l).length≤l.length:=by rw[←ZDJ];exact Zyo
theorem ZNS (t:List (El Za)) (all:List (El Zd)) (points:List Int) (hk:Zec t all points=true):Goes (Zfy t all points) (Zz2 t all points) (Zbt t all points):=by
 unfold Zec at hk
 rw[Bool.and_eq_true,Bool.and_eq_true,decide_eq_true_eq,decide_eq_true_eq] at hk
 obtain ⟨hf,hp,hN⟩:=hk
 have second:∀rest done:List Int,(done++rest).length < 1000000000000→Goes (Zfy t all points) (.jmp (.l13 (done++rest) (done.length:Int))) (pruneL (uB t) all done rest):=by
  intro rest
  induction rest with
  | nil=>
   intro done hl
   rw[Zh,Zfy,List.append_nil,Ze,if_neg (by rw[Zw (Nat.lt_irrefl _)];decide)]
   exact .leaf
  | cons x r ih=>
   intro done hl
   have hlt:done.length < (done++x :: r).length:=by simp
   rw[Zh,Zfy,Zo (by omega)]
   have hcl:Zbe (done++x :: r)=true:=decide_eq_true (by omega)
   have hvc:ZN (done++x :: r)=done++x :: r:=rfl
   rw[hvc]
   have hkd:ZcC (done++x :: r) (done.length:Int) ((done.length+1:Nat):Int)=true:=decide_eq_true ⟨by omega,by omega,by omega,by omega⟩
   have hvd:ZaA (done++x :: r) (done.length:Int) ((done.length+1:Nat):Int)=done++r:=by
    unfold ZaA
    rw[Int.toNat_natCast,Int.toNat_natCast,List.take_left' rfl,List.drop_append]
    simp
   rw[hvd]
   have hlr:(done++r).length < 1000000000000:=by simp at hl ⊢;omega
   have hkm:ZaC t all (done++r)=true:=by
    unfold ZaC
    rw[hf,decide_eq_true (show (done++r).length < 4611686018427387904 by omega),decide_eq_true hN];rfl
   have hvm:ZbM t all (done++r)=all.filter (uB t (done++r)):=rfl
   rw[Ze,if_pos (ZK hlt),Ze,if_pos hcl,Ze,if_pos hkd,Ze,if_pos hkm,hvm,Ze,pruneL]
   by_cases hz:(all.filter (uB t (done++r))).length=0
   ·rw[if_pos (by rw[hz];rfl),if_pos hz]
    exact ih done hlr
   ·rw[if_neg (by simp only[beq_iff_eq,Int.ofNat_eq_natCast];omega),if_neg hz]
    have:=ih (done++[x]) (by rw[List.append_assoc];exact hl)
    rw[List.append_assoc,List.length_append] at this
    exact this
 have first:∀k,k≤points.length→∀out:List Int,out.length≤k→Goes (Zfy t all points) (.jmp (.l4 (k:Int) out)) (pruneL (uB t) all [] (putsL [] (out++(points.drop k).filter (inR t.length)))):=by
  refine down ?_ fun k hk ih=>?_
  ·intro out ho
   rw[Zh,Zfy,Ze,if_neg (by rw[Zw (Nat.lt_irrefl _)];decide),List.drop_length,Ze,if_pos (show Zck out=true from decide_eq_true (by omega))]
   simp only[List.filter_nil,List.append_nil]
   have h1:(putsL [] out).length≤out.length:=ZOf
   exact second (putsL [] out) [] (by simp;omega)
  ·intro out ho
   have b1:Nat.ble ((out.length+1)*8) limit=true:=Nat.ble_eq_true_of_le (by unfold limit;omega)
   rw[Zh,Zfy,ZM hk,List.filter_cons]
   simp only[Ze,ZK hk,nng,Bool.and_self,if_true,Int.toNat_natCast,ZG hk,b1,Zo (k:=k) (by omega)]
   have e2:decide (points[k] < Int.ofNat t.length)=decide (points[k] < (t.length:Int)):=rfl
   have e1:inR t.length points[k]=(decide (points[k]≥0)&&decide (points[k] < (t.length:Int))):=rfl
   rw[e1,e2]
   cases c1:decide (points[k]≥0) with
   | true=>
    cases c2:decide (points[k] < (t.length:Int)) with
    | true=>
     have:=ih (out++[points[k]]) (by simp;omega)
     rw[List.append_assoc] at this
     exact this
    | false=>exact ih out (by omega)
   | false=>exact ih out (by omega)
 have:=first 0 (Nat.zero_le _) [] (Nat.zero_le _)
 rw[List.nil_append,List.drop_zero] at this
 exact this
end Go.Ev
end

section
open Go Go.Ev
namespace Go.Ev
noncomputable section
noncomputable def ZDg:Run:=entG ZhZ ZqI (fun a=>Zec a.1 a.2.1 a.2.2.1) (fun a=>Zbt a.1 a.2.1 a.2.2.1)
theorem ZJN:EntOK Go.Proofs.Tryz.prog 48 ZDg:=ZH (tb:=ZtG) (c:=Zqd) ZKg (by kernel_rfl) (by kernel_rfl) (by kernel_rfl) (fun a=>by kernel_rfl) fun ⟨t,all,points,_⟩ hk=>Zm (c:=Zqd) (K:=fun v=>(ZqI v,tps (toForms ZhZ (t,all,points,())))) (S:=Zha t all points) (by kernel_rfl) (ZMe t all points) (ZKA t all points) (ZNS t all points hk)
end
end Go.Ev
end

section
open Go Go.Ev
namespace Go.Ev
noncomputable section
end
end Go.Ev
end

section
open Go Go.Ev
namespace Go.Ev
noncomputable section
def Zgf:Sig:=[(true,(.sl Za)),(false,(.sl Zd))]
noncomputable def ZsX:Tbl:=[(47,Zc6),(46,Zk3),(23,Zkc)]
theorem ZHN:∀p∈ZsX,EntOK Go.Proofs.Tryz.prog p.1 p.2:=Zg ZgC (Zg Zpa (Zg Zlf (Zt)))
noncomputable def Zom:Code:=Go.Proofs.Tryz.f27.body.getD .skip
def ZrY:Tb:=[(3,⟨[1,2,5],[(6,58)]⟩),(9,⟨[1,2,5,6,7,16,17],[(10000000000000000000000000000000000000000000000000000000000008,1)]⟩)]
inductive Zki where | l3 (points:List Int) (open_1:List (El Zd)) | l9 (left:List (El Zd)) (h:Int) (best:Int) (points:List Int) (open_1:List (El Zd))
def ZcO (t:List (El Za)) (open_:List (El Zd)):Zki→JT Zki (List Int) |.l3 points open_1=>.br (decide ((Int.ofNat (List.length open_1)) > (0:Int))) (.jmp (.l9 open_1 (0:Int) (0:Int) points open_1)) (.br (Zck points) (.leaf (ZfB points)) (.no)) |.l9 left h best points open_1=>.br (decide (h < (Int.ofNat (List.length t)))) (.br (Zbe points) (.br (Nat.ble (((List.length (ZN points))+1)*8) limit) (.br (ZaC t open_1 ((ZN points)++[h])) (.br (decide ((Int.ofNat (List.length (ZbM t open_1 ((ZN points)++[h])))) < (Int.ofNat (List.length left)))) (.jmp (.l9 (ZbM t open_1 ((ZN points)++[h])) (IntKind.i64.wrap (h+(1:Int))) h points open_1)) (.jmp (.l9 left (IntKind.i64.wrap (h+(1:Int))) best points open_1))) (.no)) (.no)) (.no)) (.br (Nat.ble (((List.length points)+1)*8) limit) (.jmp (.l3 (points++[best]) left)) (.no))
def ZyA (t:List (El Za)) (open_:List (El Zd)):JT Zki (List Int):=.jmp (.l3 [] open_)
def Znh:List Int→AV:=fun (r:List Int)=>.rw 3 (.int .i64) r
def Zfv (t:List (El Za)) (open_:List (El Zd)):Zki→Nat×St |.l3 points open_1=>(3,⟨mkTm 43 [(1,.d (.sl Zd) open_1),(2,.pt 3 0 0),(5,.own 6 0 none)],[(3,0,.box 42 [.d (.sl Za) t] none),(6,0,.row 3 (.int .i64) points false)]⟩) |.l9 left h best points open_1=>(9,⟨mkTm 43 [(1,.d (.sl Zd) open_1),(2,.pt 3 0 0),(5,.own 6 0 none),(6,.d (.int .i64) best),(7,.d (.sl Zd) left),(16,.d (.int .i64) (Int.ofNat (List.length t))),(17,.d (.int .i64) h)],[(3,0,.box 42 [.d (.sl Za) t] none),(6,0,.row 3 (.int .i64) points false)]⟩)
theorem ZIg (t:List (El Za)) (open_:List (El Zd)) (L:Lt):entryA Go.Proofs.Tryz.prog (clOf ZsX) ZrY Go.Proofs.Tryz.f27 Zom L (toForms Zgf (t,open_,()))=(ZyA t open_).run (fun v=>some (Znh v,tps (toForms Zgf (t,open_,())))) fun j=>L (Zfv t open_ j).1 (Zfv t open_ j).2:=by kernel_rfl
theorem ZIo (t:List (El Za)) (open_:List (El Zd)):∀(L:Lt) (j:Zki),procOf (procsF Go.Proofs.Tryz.prog (clOf ZsX) ZrY Go.Proofs.Tryz.f27 Zom (toForms Zgf (t,open_,()))) (Zfv t open_ j).1 L (Zfv t open_ j).2=(ZcO t open_ j).run (fun v=>some (Znh v,tps (toForms Zgf (t,open_,())))) fun j=>L (Zfv t open_ j).1 (Zfv t open_ j).2 | L,.l3 points open_1=>by kernel_rfl | L,.l9 left h best points open_1=>by kernel_rfl
end
end Go.Ev
end

section
open Go
namespace Go.Ev
def loadIn (n:Nat) (x:PairD):Bool:=decide ((0:Int)≤x.2.2∧(show Int from x.2.2) < (n:Int))
theorem ZLv {t:List (El Za)} {l:List PairD} (h:l.all (loadIn t.length)=true):Cuts (uB t) t.length l:=fun x hx=>by
 obtain ⟨h1,h2⟩:=of_decide_eq_true (List.all_eq_true.1 h x hx)
 refine ⟨Int.toNat x.2.2,ZP4 h1 h2,fun pts=>ZSe ?_⟩
 rw[List.mem_append,List.mem_singleton,Int.toNat_of_nonneg h1]
 exact .inr rfl
noncomputable def Zch (t:List (El Za)) (open_:List (El Zd)):List Int:=greedyV (uB t) t.length open_
def ZbB (t:List (El Za)) (open_:List (El Zd)):Bool:=flowOK t&&(decide (open_.length < 1000000000)&&open_.all (loadIn t.length))
theorem ZKR (t:List (El Za)) (open_:List (El Zd)) (hk:ZbB t open_=true):Goes (ZcO t open_) (ZyA t open_) (Zch t open_):=by
 unfold ZbB at hk
 rw[Bool.and_eq_true,Bool.and_eq_true,decide_eq_true_eq] at hk
 obtain ⟨hf,hN,hall⟩:=hk
 have hlen:=Zbx hf
 have fin:∀(pts:List Int) (l:List PairD),l.length=0→pts.length≤1000000000→Goes (ZcO t open_) (.jmp (.l3 pts l)) (putsL [] pts):=by
  intro pts l h0 hp
  rw[Zh,ZcO,Ze,if_neg (by rw[h0];decide),Ze,if_pos (show Zck pts=true from decide_eq_true (by omega))]
  exact .leaf
 have outer:∀f:Nat,∀(pts:List Int) (l:List PairD),l.length≤f→f+pts.length≤1000000000→Cuts (uB t) t.length l→Goes (ZcO t open_) (.jmp (.l3 pts l)) (putsL [] (greedyL (uB t) t.length f pts l)):=by
  intro f
  induction f with
  | zero=>
   intro pts l hl hb hc
   exact fin pts l (by omega) (by omega)
  | succ f ih=>
   intro pts l hl hb hc
   by_cases h0:l.length=0
   ·have:=fin pts l h0 (by omega)
    rw[greedyL,if_pos h0]
    exact this
   ·rw[greedyL,if_neg h0]
    obtain ⟨j,hj,e1,e2,e3⟩:=Zy3 (pts:=pts) hc (by omega)
    have inner:∀k,k≤t.length→∀acc:Int×List PairD,bestFrom (uB t) t.length pts l k acc=bestG (uB t) t.length pts l→
      Goes (ZcO t open_) (.jmp (.l9 acc.2 (k:Int) acc.1 pts l)) (putsL [] (greedyL (uB t) t.length f (pts++[(bestG (uB t) t.length pts l).1]) (bestG (uB t) t.length pts l).2)):=by
     refine down ?_ fun k hk ihk=>?_
     ·intro acc ha
      rw[Ztu] at ha
      rw[Zh,ZcO,Ze,if_neg (by rw[Zw (Nat.lt_irrefl _)];decide),Ze,if_pos (Nat.ble_eq_true_of_le (by unfold limit;omega)),ha]
      exact ih _ _ (by omega) (by simp;omega) (ZGx hc fun x hx=>by rw[e2] at hx;exact (List.mem_filter.1 hx).1)
     ·intro acc ha
      rw[Zrn hk] at ha
      have hcl:Zbe pts=true:=decide_eq_true (by omega)
      have hvc:ZN pts=pts:=rfl
      have hkm:ZaC t l (pts++[(k:Int)])=true:=by
       unfold ZaC
       rw[hf,decide_eq_true (show (pts++[(k:Int)]).length < 4611686018427387904 by simp;omega),decide_eq_true (show l.length < 1000000000000 by omega)];rfl
      have hvm:ZbM t l (pts++[(k:Int)])=l.filter (uB t (pts++[(k:Int)])):=rfl
      rw[Zh,ZcO,hvc,hvm,Zo (by omega),Ze,if_pos (ZK hk),Ze,if_pos hcl,Ze,if_pos (Nat.ble_eq_true_of_le (by unfold limit;omega)),Ze,if_pos hkm,Ze]
      unfold stepG at ha
      by_cases hc2:(l.filter (uB t (pts++[(k:Int)]))).length < acc.2.length
      ·rw[if_pos hc2] at ha
       rw[if_pos (ZC8 hc2)]
       exact ihk _ ha
      ·rw[if_neg hc2] at ha
       rw[if_neg (by rw[Zyh hc2];decide)]
       exact ihk _ ha
    rw[Zh,ZcO,Ze,if_pos (decide_eq_true (by simp only[Int.ofNat_eq_natCast];omega))]
    exact inner 0 (Nat.zero_le _) (0,l) rfl
 exact outer open_.length [] open_ (Nat.le_refl _) (by simp;omega) (ZLv hall)
end Go.Ev
end

section
open Go Go.Ev
namespace Go.Ev
noncomputable section
noncomputable def ZsJ:Run:=entG Zgf Znh (fun a=>ZbB a.1 a.2.1) (fun a=>Zch a.1 a.2.1)
theorem Zx4:EntOK Go.Proofs.Tryz.prog 27 ZsJ:=ZH (tb:=ZrY) (c:=Zom) ZHN (by kernel_rfl) (by kernel_rfl) (by kernel_rfl) (fun a=>by kernel_rfl) fun ⟨t,open_,_⟩ hk=>Zm (c:=Zom) (K:=fun v=>(Znh v,tps (toForms Zgf (t,open_,())))) (S:=Zfv t open_) (by kernel_rfl) (ZIg t open_) (ZIo t open_) (ZKR t open_ hk)
end
end Go.Ev
end

section
open Go Go.Ev
namespace Go.Ev
noncomputable section
def ZfZ:Sig:=[(true,Zc),(false,(.int .i64)),(false,(.sl Zd)),(false,(.sl Zd))]
noncomputable def Zue:Tbl:=[(21,ZuI),(27,ZsJ),(48,ZDg)]
theorem ZGU:∀p∈Zue,EntOK Go.Proofs.Tryz.prog p.1 p.2:=Zg Ztc (Zg Zx4 (Zg ZJN (Zt)))
noncomputable def ZnF:Code:=Go.Proofs.Tryz.f30.body.getD .skip
def Zr1:Tb:=[(5,⟨[1,3,9,10,11,12,29,30,31],[(12,58),(13,58)]⟩),(13,⟨[9,10,15,57,58,59],[]⟩)]
inductive Zkm where | l5 (x:List (El Za)) (h:Int) (after:List Int) (ahead:List Int) | l13 (x:List (El Za)) (best:List Int) (h:List (List Int)) (h1:Int)
def ZbR (p:El Zc) (t:Int) (pairs:List (El Zd)) (open_:List (El Zd)):Zkm→JT Zkm (List Int) |.l5 x h after ahead=>.br (decide (h < (Int.ofNat (List.length (ZU open_ t))))) (.br ((decide ((0:Int)≤h))&&(decide (h < (Int.ofNat (List.length (ZU open_ t)))))) (.br (Nat.ble (((List.length after)+1)*8) limit) (.br (Nat.ble (((List.length ahead)+1)*8) limit) (.jmp (.l5 x (IntKind.i64.wrap (h+(1:Int))) (after++[(IntKind.i64.wrap ((List.getD (ZU open_ t) (Int.toNat h) (dflt Zd)).2.1+(1:Int)))]) (ahead++[(List.getD (ZU open_ t) (Int.toNat h) (dflt Zd)).2.2]))) (.no)) (.no)) (.no)) (.br (Zcd open_ t) (.br (ZbB x (ZU open_ t)) (.br (Zec x (ZU pairs t) (Zch x (ZU open_ t))) (.jmp (.l13 x (Zbt x (ZU pairs t) (Zch x (ZU open_ t))) [after,ahead] (0:Int))) (.no)) (.no)) (.no)) |.l13 x best h h1=>.br (decide (h1 < (2:Int))) (.br ((decide ((0:Int)≤h1))&&(decide (h1 < (Int.ofNat (List.length h))))) (.br (Zec x (ZU pairs t) (List.getD h (Int.toNat h1) (dflt (.sl (.int .i64))))) (.br (decide ((Int.ofNat (List.length (Zbt x (ZU pairs t) (List.getD h (Int.toNat h1) (dflt (.sl (.int .i64))))))) < (Int.ofNat (List.length best)))) (.jmp (.l13 x (Zbt x (ZU pairs t) (List.getD h (Int.toNat h1) (dflt (.sl (.int .i64))))) h (IntKind.i64.wrap (h1+(1:Int))))) (.jmp (.l13 x best h (IntKind.i64.wrap (h1+(1:Int)))))) (.no)) (.no)) (.leaf best)
def Zrk (p:El Zc) (t:Int) (pairs:List (El Zd)) (open_:List (El Zd)):JT Zkm (List Int):=.br ((decide ((0:Int)≤t))&&(decide (t < (Int.ofNat (List.length p.2))))) (.br (Zcd pairs t) (.br (Zcd open_ t) (.jmp (.l5 (List.getD p.2 (Int.toNat t) (dflt (.sl Za))) (0:Int) [] [])) (.no)) (.no)) (.no)
def Zn6:List Int→AV:=fun (r:List Int)=>.rw 3 (.int .i64) r
def Ze8 (p:El Zc) (t:Int) (pairs:List (El Zd)) (open_:List (El Zd)):Zkm→Nat×St |.l5 x h after ahead=>(5,⟨mkTm 75 [(1,.d (.int .i64) t),(3,.d (.sl Zd) open_),(9,.pt 10 0 0),(10,.own 11 0 none),(11,.own 12 0 none),(12,.own 13 0 none),(29,.own 30 0 none),(30,.d (.int .i64) (Int.ofNat (List.length (ZU open_ t)))),(31,.d (.int .i64) h)],[(10,0,.box 42 [.d (.sl Za) x] none),(11,0,.row 57 Zd (ZU pairs t) false),(12,0,.row 3 (.int .i64) after false),(13,0,.row 3 (.int .i64) ahead false),(30,0,.row 57 Zd (ZU open_ t) false)]⟩) |.l13 x best h h1=>(13,⟨mkTm 75 [(9,.pt 10 0 0),(10,.own 11 0 none),(15,.own 16 0 none),(57,.own 58 0 none),(58,.d (.int .i64) (2:Int)),(59,.d (.int .i64) h1)],[(10,0,.box 42 [.d (.sl Za) x] none),(11,0,.row 57 Zd (ZU pairs t) false),(16,0,.row 3 (.int .i64) best false),(58,0,.row 29 (.sl (.int .i64)) h false)]⟩)
theorem ZGE (p:El Zc) (t:Int) (pairs:List (El Zd)) (open_:List (El Zd)) (L:Lt):entryA Go.Proofs.Tryz.prog (clOf Zue) Zr1 Go.Proofs.Tryz.f30 ZnF L (toForms ZfZ (p,t,pairs,open_,()))=(Zrk p t pairs open_).run (fun v=>some (Zn6 v,tps (toForms ZfZ (p,t,pairs,open_,())))) fun j=>L (Ze8 p t pairs open_ j).1 (Ze8 p t pairs open_ j).2:=by kernel_rfl
theorem ZGL (p:El Zc) (t:Int) (pairs:List (El Zd)) (open_:List (El Zd)):∀(L:Lt) (j:Zkm),procOf (procsF Go.Proofs.Tryz.prog (clOf Zue) Zr1 Go.Proofs.Tryz.f30 ZnF (toForms ZfZ (p,t,pairs,open_,()))) (Ze8 p t pairs open_ j).1 L (Ze8 p t pairs open_ j).2=(ZbR p t pairs open_ j).run (fun v=>some (Zn6 v,tps (toForms ZfZ (p,t,pairs,open_,())))) fun j=>L (Ze8 p t pairs open_ j).1 (Ze8 p t pairs open_ j).2 | L,.l5 x h after ahead=>by kernel_rfl | L,.l13 x best h h1=>by kernel_rfl
end
end Go.Ev
end

section
open Go
namespace Go.Ev
def storeIn (x:PairD):Bool:=decide ((0:Int)≤x.2.1∧(show Int from x.2.1) < 1099511627776)
noncomputable def ZbA (p:El Zc) (t:Int) (pairs:List (El Zd)) (open_:List (El Zd)):List Int:=pointsV (uB (thrT p t)) (thrT p t).length (pairs.filter (ofB t)) (open_.filter (ofB t))
def ZcS (p:El Zc) (t:Int) (pairs:List (El Zd)) (open_:List (El Zd)):Bool:=
 (decide ((0:Int)≤t)&&decide (t < Int.ofNat p.2.length))&&(flowOK (thrT p t)&&(decide (pairs.length < 1000000000)&&(decide (open_.length < 1000000000)&&(open_.filter (ofB t)).all fun x=>loadIn (thrT p t).length x&&storeIn x)))
theorem ZOM {x:PairD} (h:storeIn x=true):IntKind.i64.wrap ((show Int from x.2.1)+1)=(show Int from x.2.1)+1:=by
 obtain ⟨h1,h2⟩:=of_decide_eq_true h
 have h1:(0:Int)≤(show Int from x.2.1):=h1
 generalize (show Int from x.2.1)=y at*
 exact wrap_i64 (by omega) (by omega)
theorem ZLz (p:El Zc) (t:Int) (pairs:List (El Zd)) (open_:List (El Zd)) (hk:ZcS p t pairs open_=true):Goes (ZbR p t pairs open_) (Zrk p t pairs open_) (ZbA p t pairs open_):=by
 unfold ZcS at hk
 rw[Bool.and_eq_true] at hk
 obtain ⟨hin,hk⟩:=hk
 rw[Bool.and_eq_true,Bool.and_eq_true,Bool.and_eq_true] at hk
 obtain ⟨hf,hP,hO,hall⟩:=hk
 have hP:=of_decide_eq_true hP
 have hO:=of_decide_eq_true hO
 have hall:=List.all_eq_true.1 hall
 have ho1:((open_.filter (ofB t)).all (loadIn (thrT p t).length))=true:=List.all_eq_true.2 fun x hx=>by
  have:=hall x hx
  rw[Bool.and_eq_true] at this
  exact this.1
 have hs:∀x∈open_.filter (ofB t),storeIn x=true:=fun x hx=>by
  have:=hall x hx
  rw[Bool.and_eq_true] at this
  exact this.2
 have hol:(open_.filter (ofB t)).length≤open_.length:=List.length_filter_le _ _
 have hpl:(pairs.filter (ofB t)).length≤pairs.length:=List.length_filter_le _ _
 have kof1:Zcd pairs t=true:=decide_eq_true (by omega)
 have kof2:Zcd open_ t=true:=decide_eq_true (by omega)
 have vof1:ZU pairs t=pairs.filter (ofB t):=rfl
 have vof2:ZU open_ t=open_.filter (ofB t):=rfl
 have kg:ZbB (thrT p t) (open_.filter (ofB t))=true:=by
  unfold ZbB
  rw[hf,decide_eq_true (show (open_.filter (ofB t)).length < 1000000000 by omega),ho1];rfl
 have kp:∀pts:List Int,pts.length < 1000000000000→Zec (thrT p t) (pairs.filter (ofB t)) pts=true:=fun pts h=>by
  unfold Zec
  rw[hf,decide_eq_true h,decide_eq_true (show (pairs.filter (ofB t)).length < 1000000000000 by omega)];rfl
 have hgl:∀(f:Nat) (pts:List Int) (l:List PairD),(greedyL (uB (thrT p t)) (thrT p t).length f pts l).length≤f+pts.length:=by
  intro f
  induction f with
  | zero=>intro pts l;rw[greedyL];omega
  | succ f ih=>
   intro pts l
   rw[greedyL]
   split
   ·omega
   ·have:=ih (pts++[(bestG (uB (thrT p t)) (thrT p t).length pts l).1]) (bestG (uB (thrT p t)) (thrT p t).length pts l).2
    rw[List.length_append,List.length_singleton] at this
    omega
 have hgv:(Zch (thrT p t) (open_.filter (ofB t))).length < 1000000000000:=by
  have h1:(Zch (thrT p t) (open_.filter (ofB t))).length≤(greedyL (uB (thrT p t)) (thrT p t).length (open_.filter (ofB t)).length [] (open_.filter (ofB t))).length:=ZOf
  have h2:=hgl (open_.filter (ofB t)).length [] (open_.filter (ofB t))
  simp only[List.length_nil,Nat.add_zero] at h2
  omega
 have hx:List.getD p.2 (Int.toNat t) (dflt (.sl Za))=thrT p t:=rfl
 have second:∀after ahead:List Int,after.length < 1000000000000→ahead.length < 1000000000000→∀b0:List Int,
   Goes (ZbR p t pairs open_) (.jmp (.l13 (thrT p t) b0 [after,ahead] (0:Int))) (shorter (shorter b0 (Zbt (thrT p t) (pairs.filter (ofB t)) after)) (Zbt (thrT p t) (pairs.filter (ofB t)) ahead)):=by
  intro after ahead h1 h2 b0
  have last:∀b:List Int,Goes (ZbR p t pairs open_) (.jmp (.l13 (thrT p t) b [after,ahead] (2:Int))) b:=fun b=>by
   rw[Zh,ZbR,Ze,if_neg (by decide)]
   exact .leaf
  have mid:∀b:List Int,Goes (ZbR p t pairs open_) (.jmp (.l13 (thrT p t) b [after,ahead] (1:Int))) (shorter b (Zbt (thrT p t) (pairs.filter (ofB t)) ahead)):=fun b=>by
   rw[Zh,ZbR,vof1,Ze,if_pos (by decide),Ze,if_pos (by rfl),Ze]
   have e:List.getD [after,ahead] (Int.toNat (1:Int)) (dflt (.sl (.int .i64)))=ahead:=rfl
   have w:IntKind.i64.wrap ((1:Int)+1)=2:=by decide
   rw[e,w,if_pos (kp _ h2),Ze]
   unfold shorter
   by_cases c:(Zbt (thrT p t) (pairs.filter (ofB t)) ahead).length < b.length
   ·rw[if_pos (ZC8 c),if_pos c];exact last _
   ·rw[if_neg (by rw[Zyh c];decide),if_neg c];exact last _
  rw[Zh,ZbR,vof1,Ze,if_pos (by decide),Ze,if_pos (by rfl),Ze]
  have e:List.getD [after,ahead] (Int.toNat (0:Int)) (dflt (.sl (.int .i64)))=after:=rfl
  have w:IntKind.i64.wrap ((0:Int)+1)=1:=by decide
  rw[e,w,if_pos (kp _ h1),Ze]
  have s1:shorter b0 (Zbt (thrT p t) (pairs.filter (ofB t)) after)=if (Zbt (thrT p t) (pairs.filter (ofB t)) after).length < b0.length then Zbt (thrT p t) (pairs.filter (ofB t)) after else b0:=rfl
  rw[s1]
  by_cases c:(Zbt (thrT p t) (pairs.filter (ofB t)) after).length < b0.length
  ·rw[if_pos (ZC8 c),if_pos c];exact mid _
  ·rw[if_neg (by rw[Zyh c];decide),if_neg c];exact mid _
 obtain ⟨O,hOe⟩:∃O,open_.filter (ofB t)=O:=⟨_,rfl⟩
 have first:∀k,k≤O.length→Goes (ZbR p t pairs open_) (.jmp (.l5 (thrT p t) (k:Int) ((O.take k).map fun x=>(show Int from x.2.1)+1) ((O.take k).map fun x=>x.2.2))) (ZbA p t pairs open_):=by
  rw[hOe] at hol hs vof2 kg hgv
  refine down ?_ fun k hk ih=>?_
  ·rw[Zh,ZbR,vof1,vof2,Ze,if_neg (by rw[Zw (Nat.lt_irrefl _)];decide),Ze,if_pos kof2,Ze,if_pos kg,Ze,if_pos (kp _ hgv),List.take_length]
   have:=second (O.map fun x=>(show Int from x.2.1)+1) (O.map fun x=>x.2.2) (by rw[List.length_map];omega) (by rw[List.length_map];omega) (Zbt (thrT p t) (pairs.filter (ofB t)) (Zch (thrT p t) O))
   unfold ZbA
   rw[hOe]
   exact this
  ·have b1:Nat.ble ((((O.take k).map fun x=>(show Int from x.2.1)+1).length+1)*8) limit=true:=Nat.ble_eq_true_of_le (by rw[List.length_map,List.length_take];unfold limit;omega)
   have b2:Nat.ble ((((O.take k).map fun x=>(show Int from x.2.2)).length+1)*8) limit=true:=Nat.ble_eq_true_of_le (by rw[List.length_map,List.length_take];unfold limit;omega)
   have hw:=ZOM (hs _ (List.getElem_mem hk))
   rw[List.take_succ_eq_append_getElem hk,List.map_append,List.map_append] at ih
   rw[Zh,ZbR,vof2,Ze,if_pos (ZK hk),Ze,if_pos (by rw[nng,ZK hk];rfl),Ze,if_pos b1,Ze,if_pos b2,Int.toNat_natCast,ZG hk,Zo (by omega)]
   have hw':IntKind.i64.wrap (O[k].2.1+(1:Int))=(show Int from O[k].2.1)+1:=hw
   rw[hw']
   exact ih
 unfold Zrk
 rw[Ze,if_pos hin,Ze,if_pos kof1,Ze,if_pos kof2,hx]
 exact first 0 (Nat.zero_le _)
end Go.Ev
end

section
open Go Go.Ev
namespace Go.Ev
noncomputable section
noncomputable def Zud:Run:=entG ZfZ Zn6 (fun a=>ZcS a.1 a.2.1 a.2.2.1 a.2.2.2.1) (fun a=>ZbA a.1 a.2.1 a.2.2.1 a.2.2.2.1)
theorem ZxO:EntOK Go.Proofs.Tryz.prog 30 Zud:=ZH (tb:=Zr1) (c:=ZnF) ZGU (by kernel_rfl) (by kernel_rfl) (by kernel_rfl) (fun a=>by kernel_rfl) fun ⟨p,t,pairs,open_,_⟩ hk=>Zm (c:=ZnF) (K:=fun v=>(Zn6 v,tps (toForms ZfZ (p,t,pairs,open_,())))) (S:=Ze8 p t pairs open_) (by kernel_rfl) (ZGE p t pairs open_) (ZGL p t pairs open_) (ZLz p t pairs open_ hk)
end
end Go.Ev
end

section
open Go Go.Ev
namespace Go.Ev
noncomputable section
def Zgs:Sig:=[(true,Zc),(false,(.int .i64))]
noncomputable def Zte:Tbl:=[(20,Zjg),(31,ZiH),(22,Zh3),(30,Zud)]
theorem ZGf:∀p∈Zte,EntOK Go.Proofs.Tryz.prog p.1 p.2:=Zg Zkl (Zg Zj6 (Zg ZiC (Zg ZxO (Zt))))
noncomputable def Zn2:Code:=Go.Proofs.Tryz.f12.body.getD .skip
def Zrc:Tb:=[(hintK,⟨[],[(1,58)]⟩)]
def ZzN (p:El Zc) (t:Int):Empty→JT Empty (List Int):=fun j=>nomatch j
def ZyG (p:El Zc) (t:Int):JT Empty (List Int):=.br (Za1 p t) (.br (! (ZaZ p t)) (.leaf []) (.br (Z6 p) (.br (ZaI p) (.br (ZcS p t (Zl p) (Zn p)) (.leaf (ZbA p t (Zl p) (Zn p))) (.no)) (.no)) (.no))) (.no)
def ZaS (p:El Zc) (t:Int):List Int:=bif (Za1 p t) then bif (! (ZaZ p t)) then [] else bif (Z6 p) then bif (ZaI p) then bif (ZcS p t (Zl p) (Zn p)) then (ZbA p t (Zl p) (Zn p)) else [] else [] else [] else []
def ZdD (p:El Zc) (t:Int):Bool:=bif (Za1 p t) then bif (! (ZaZ p t)) then true else bif (Z6 p) then bif (ZaI p) then bif (ZcS p t (Zl p) (Zn p)) then true else false else false else false else false
theorem ZKb (p:El Zc) (t:Int) (hk:ZdD p t=true):Goes (ZzN p t) (ZyG p t) (ZaS p t):=Goes.brk hk (fun hk=>Goes.brk hk (fun hk=>Goes.leaf) (fun hk=>Goes.brk hk (fun hk=>Goes.brk hk (fun hk=>Goes.brk hk (fun hk=>Goes.leaf) (fun hk=>Goes.nok hk)) (fun hk=>Goes.nok hk)) (fun hk=>Goes.nok hk))) (fun hk=>Goes.nok hk)
def ZnH:List Int→AV:=fun (r:List Int)=>.rw 3 (.int .i64) r
def Zfe (p:El Zc) (t:Int):Empty→Nat×St:=fun j=>nomatch j
theorem ZHA (p:El Zc) (t:Int) (L:Lt):entryA Go.Proofs.Tryz.prog (clOf Zte) Zrc Go.Proofs.Tryz.f12 Zn2 L (toForms Zgs (p,t,()))=(ZyG p t).run (fun v=>some (ZnH v,tps (toForms Zgs (p,t,())))) fun j=>L (Zfe p t j).1 (Zfe p t j).2:=by kernel_rfl
theorem ZF5 (p:El Zc) (t:Int):∀(L:Lt) (j:Empty),procOf (procsF Go.Proofs.Tryz.prog (clOf Zte) Zrc Go.Proofs.Tryz.f12 Zn2 (toForms Zgs (p,t,()))) (Zfe p t j).1 L (Zfe p t j).2=(ZzN p t j).run (fun v=>some (ZnH v,tps (toForms Zgs (p,t,())))) fun j=>L (Zfe p t j).1 (Zfe p t j).2:=fun L j=>nomatch j
noncomputable def Ztl:Run:=entG Zgs ZnH (fun a=>ZdD a.1 a.2.1) (fun a=>ZaS a.1 a.2.1)
theorem ZyR:EntOK Go.Proofs.Tryz.prog 12 Ztl:=ZH (tb:=Zrc) (c:=Zn2) ZGf (by kernel_rfl) (by kernel_rfl) (by kernel_rfl) (fun a=>by kernel_rfl) fun ⟨p,t,_⟩ hk=>Zm (c:=Zn2) (K:=fun v=>(ZnH v,tps (toForms Zgs (p,t,())))) (S:=Zfe p t) (by kernel_rfl) (ZHA p t) (ZF5 p t) (ZKb p t hk)
end
end Go.Ev
end

section
open Go Go.Ev
namespace Go.Ev
noncomputable section
def Zga:Sig:=[(true,Zc),(false,(.int .i64))]
noncomputable def ZsF:Tbl:=[(20,Zjg),(22,Zh3),(21,ZuI),(27,ZsJ)]
theorem ZHG:∀p∈ZsF,EntOK Go.Proofs.Tryz.prog p.1 p.2:=Zg Zkl (Zg ZiC (Zg Ztc (Zg Zx4 (Zt))))
noncomputable def Zon:Code:=Go.Proofs.Tryz.f10.body.getD .skip
def ZrJ:Tb:=[(hintK,⟨[],[(1,58)]⟩)]
def ZAe (p:El Zc) (t:Int):Empty→JT Empty (List Int):=fun j=>nomatch j
def ZyD (p:El Zc) (t:Int):JT Empty (List Int):=.br (Za1 p t) (.br (! (ZaZ p t)) (.leaf []) (.br ((decide ((0:Int)≤t))&&(decide (t < (Int.ofNat (List.length p.2))))) (.br (ZaI p) (.br (Zcd (Zn p) t) (.br (ZbB (List.getD p.2 (Int.toNat t) (dflt (.sl Za))) (ZU (Zn p) t)) (.leaf (Zch (List.getD p.2 (Int.toNat t) (dflt (.sl Za))) (ZU (Zn p) t))) (.no)) (.no)) (.no)) (.no))) (.no)
def ZdG (p:El Zc) (t:Int):List Int:=bif (Za1 p t) then bif (! (ZaZ p t)) then [] else bif ((decide ((0:Int)≤t))&&(decide (t < (Int.ofNat (List.length p.2))))) then bif (ZaI p) then bif (Zcd (Zn p) t) then bif (ZbB (List.getD p.2 (Int.toNat t) (dflt (.sl Za))) (ZU (Zn p) t)) then (Zch (List.getD p.2 (Int.toNat t) (dflt (.sl Za))) (ZU (Zn p) t)) else [] else [] else [] else [] else []
def Zkp (p:El Zc) (t:Int):Bool:=bif (Za1 p t) then bif (! (ZaZ p t)) then true else bif ((decide ((0:Int)≤t))&&(decide (t < (Int.ofNat (List.length p.2))))) then bif (ZaI p) then bif (Zcd (Zn p) t) then bif (ZbB (List.getD p.2 (Int.toNat t) (dflt (.sl Za))) (ZU (Zn p) t)) then true else false else false else false else false else false
theorem ZJW (p:El Zc) (t:Int) (hk:Zkp p t=true):Goes (ZAe p t) (ZyD p t) (ZdG p t):=Goes.brk hk (fun hk=>Goes.brk hk (fun hk=>Goes.leaf) (fun hk=>Goes.brk hk (fun hk=>Goes.brk hk (fun hk=>Goes.brk hk (fun hk=>Goes.brk hk (fun hk=>Goes.leaf) (fun hk=>Goes.nok hk)) (fun hk=>Goes.nok hk)) (fun hk=>Goes.nok hk)) (fun hk=>Goes.nok hk))) (fun hk=>Goes.nok hk)
def Zop:List Int→AV:=fun (r:List Int)=>.rw 3 (.int .i64) r
def Zft (p:El Zc) (t:Int):Empty→Nat×St:=fun j=>nomatch j
theorem ZH2 (p:El Zc) (t:Int) (L:Lt):entryA Go.Proofs.Tryz.prog (clOf ZsF) ZrJ Go.Proofs.Tryz.f10 Zon L (toForms Zga (p,t,()))=(ZyD p t).run (fun v=>some (Zop v,tps (toForms Zga (p,t,())))) fun j=>L (Zft p t j).1 (Zft p t j).2:=by kernel_rfl
theorem ZIk (p:El Zc) (t:Int):∀(L:Lt) (j:Empty),procOf (procsF Go.Proofs.Tryz.prog (clOf ZsF) ZrJ Go.Proofs.Tryz.f10 Zon (toForms Zga (p,t,()))) (Zft p t j).1 L (Zft p t j).2=(ZAe p t j).run (fun v=>some (Zop v,tps (toForms Zga (p,t,())))) fun j=>L (Zft p t j).1 (Zft p t j).2:=fun L j=>nomatch j
noncomputable def ZAc:Run:=entG Zga Zop (fun a=>Zkp a.1 a.2.1) (fun a=>ZdG a.1 a.2.1)
theorem ZGZ:EntOK Go.Proofs.Tryz.prog 10 ZAc:=ZH (tb:=ZrJ) (c:=Zon) ZHG (by kernel_rfl) (by kernel_rfl) (by kernel_rfl) (fun a=>by kernel_rfl) fun ⟨p,t,_⟩ hk=>Zm (c:=Zon) (K:=fun v=>(Zop v,tps (toForms Zga (p,t,())))) (S:=Zft p t) (by kernel_rfl) (ZH2 p t) (ZIk p t) (ZJW p t hk)
end
end Go.Ev
end

section
open Go Go.Ev
namespace Go.Ev
noncomputable section
def ZlV:Sig:=[(true,Zc)]
noncomputable def ZBZ:Tbl:=[(33,Zla),(31,ZiH),(22,Zh3),(30,Zud)]
theorem ZOZ:∀p∈ZBZ,EntOK Go.Proofs.Tryz.prog p.1 p.2:=Zg Zpi (Zg Zj6 (Zg ZiC (Zg ZxO (Zt))))
noncomputable def ZyK:Code:=Go.Proofs.Tryz.f15.body.getD .skip
def Zy5:Tb:=[(8,⟨[1,3,4,5,20,21],[]⟩),(hintK,⟨[],[(1,64)]⟩)]
inductive ZsM where | l8 (h:Int) (out:List (List Int))
def Ztq (p:El Zc):ZsM→JT ZsM (List (List Int)) |.l8 h out=>.br (decide (h < (Int.ofNat (List.length p.2)))) (.br (ZcS p h (Zl p) (Zn p)) (.br ((decide ((0:Int)≤h))&&(decide (h < (Int.ofNat (List.length out))))) (.jmp (.l8 (IntKind.i64.wrap (h+(1:Int))) (List.set out (Int.toNat h) (ZbA p h (Zl p) (Zn p))))) (.no)) (.no)) (.leaf out)
def Zzk (p:El Zc):JT ZsM (List (List Int)):=.br (Zbf p) (.br ((ZbO p) !=(0:Int)) (.leaf []) (.br (Z6 p) (.br (ZaI p) (.br ((((Int.ofNat (List.length p.2))==(Int.ofNat (List.length p.2)))&&(decide ((0:Int)≤(Int.ofNat (List.length p.2)))))&&(decide (((Int.ofNat (List.length p.2))*(24:Int))≤(limit:Int)))) (.jmp (.l8 (0:Int) (List.replicate (List.length p.2) []))) (.no)) (.no)) (.no))) (.no)
def Zxd:List (List Int)→AV:=fun (r:List (List Int))=>.rw 29 (.sl (.int .i64)) r
def Zmj (p:El Zc):ZsM→Nat×St |.l8 h out=>(8,⟨mkTm 34 [(1,.pt 2 0 0),(3,.own 4 0 none),(4,.own 5 0 none),(5,.own 6 0 none),(20,.d (.int .i64) (Int.ofNat (List.length p.2))),(21,.d (.int .i64) h)],[(2,0,.box 26 [.d (.sl Zy) p.1,.d (.sl (.sl Za)) p.2] none),(4,0,.row 57 Zd (Zl p) false),(5,0,.row 57 Zd (Zn p) false),(6,0,.row 29 (.sl (.int .i64)) out false)]⟩)
theorem ZOR (p:El Zc) (L:Lt):entryA Go.Proofs.Tryz.prog (clOf ZBZ) Zy5 Go.Proofs.Tryz.f15 ZyK L (toForms ZlV (p,()))=(Zzk p).run (fun v=>some (Zxd v,tps (toForms ZlV (p,())))) fun j=>L (Zmj p j).1 (Zmj p j).2:=by kernel_rfl
theorem ZO3 (p:El Zc):∀(L:Lt) (j:ZsM),procOf (procsF Go.Proofs.Tryz.prog (clOf ZBZ) Zy5 Go.Proofs.Tryz.f15 ZyK (toForms ZlV (p,()))) (Zmj p j).1 L (Zmj p j).2=(Ztq p j).run (fun v=>some (Zxd v,tps (toForms ZlV (p,())))) fun j=>L (Zmj p j).1 (Zmj p j).2 | L,.l8 h out=>by kernel_rfl
end
end Go.Ev
end

section
open Go
namespace Go.Ev
noncomputable def ZbW (p:El Zc):List (List Int):=if checkC p=0 then (List.range p.2.length).map fun t:Nat=>ZbA p (t:Int) (Zl p) (Zn p) else []
def Zkg (p:El Zc):Bool:=cutOK p
theorem Zz0 {p:El Zc} (hF:CutF p) {t:Int} (hr:rightT p t=true):ZcS p t (Zl p) (Zn p)=true:=by
 obtain ⟨f1,f2,_⟩:=hF.flow t hr
 have h1:=hF.lp
 have h2:=hF.lo
 unfold ZcS
 rw[f2,f1,decide_eq_true (show (Zl p).length < 1000000000 by omega),decide_eq_true (show (Zn p).length < 1000000000 by omega),Bool.true_and,Bool.true_and,Bool.true_and,Bool.true_and]
 refine List.all_eq_true.2 fun x hx=>?_
 obtain ⟨hp,ht⟩:=ZFQ hF hx
 have s:=ZwO hp
 have l0:=hp.ld0
 have l1:=hp.ld1
 have e:thrT p (show Int from x.1)=thrT p t:=by rw[ht]
 rw[show thrT p x.1=thrT p t from e] at l1
 unfold loadIn storeIn
 rw[Bool.and_eq_true,decide_eq_true_eq,decide_eq_true_eq]
 exact ⟨⟨l0,l1⟩,s⟩
theorem ZPB (p:El Zc) (hk:Zkg p=true):Goes (Ztq p) (Zzk p) (ZbW p):=by
 have hF:=ZfT hk
 have hA:=smallA hF.small
 have hT:=hF.thr
 have hkc:Zbf p=true:=hA.prog
 have hvc:ZbO p=checkC p:=rfl
 have hmk:((((Int.ofNat (List.length p.2))==(Int.ofNat (List.length p.2)))&&(decide ((0:Int)≤(Int.ofNat (List.length p.2)))))&&(decide (((Int.ofNat (List.length p.2))*(24:Int))≤(limit:Int))))=true:=by
  rw[beq_self_eq_true,decide_eq_true (show (0:Int)≤Int.ofNat (List.length p.2) from Int.natCast_nonneg _),Bool.true_and,Bool.true_and]
  refine decide_eq_true ?_
  show ((List.length p.2:Nat):Int)*24≤((35184372088832:Nat):Int)
  omega
 unfold Zzk ZbW
 rw[Ze,if_pos hkc,hvc,Ze]
 by_cases hc:checkC p=0
 ·rw[if_neg (by rw[hc];decide),if_pos hc,Ze,if_pos hF.kp,Ze,if_pos hF.ko,Ze,if_pos hmk]
  have hr:∀k,k < p.2.length→rightT p (k:Int)=true:=fun k hk=>by
   unfold rightT
   rw[decide_eq_true (Int.natCast_nonneg k),decide_eq_true (show (k:Int) < (p.2.length:Int) by omega),decide_eq_true hc];rfl
  obtain ⟨V,hV⟩:∃V:Nat→List Int,V=fun t:Nat=>ZbA p (t:Int) (Zl p) (Zn p):=⟨_,rfl⟩
  have loop:∀k,k≤p.2.length→Goes (Ztq p) (.jmp (.l8 (k:Int) ((List.range p.2.length).map fun t=>if t < k then V t else []))) ((List.range p.2.length).map V):=by
   refine down ?_ fun k hk ih=>?_
   ·rw[Zh,Ztq,Ze,if_neg (by rw[Zw (Nat.lt_irrefl _)];decide)]
    have:((List.range p.2.length).map fun t=>if t < p.2.length then V t else [])=(List.range p.2.length).map V:=List.map_congr_left fun t ht=>by rw[if_pos (List.mem_range.1 ht)]
    rw[this]
    exact .leaf
   ·have hlen:((List.range p.2.length).map fun t=>if t < k then V t else []).length=p.2.length:=by simp
    rw[Zh,Ztq,Ze,if_pos (ZK hk),Ze,if_pos (Zz0 hF (hr k hk)),Ze,if_pos (by rw[nng,hlen,ZK hk];rfl),Int.toNat_natCast,Zo (by omega)]
    have e:((List.range p.2.length).map fun t=>if t < k then V t else []).set k (ZbA p (k:Int) (Zl p) (Zn p))=(List.range p.2.length).map fun t=>if t < k+1 then V t else []:=by
     apply List.ext_getElem
     ·simp
     ·intro i h1 h2
      rw[List.getElem_set]
      simp only[List.getElem_map,List.getElem_range]
      by_cases e:k=i
      ·subst e
       rw[if_pos rfl,if_pos (by omega),hV]
      ·rw[if_neg e]
       by_cases e2:i < k
       ·rw[if_pos e2,if_pos (by omega)]
       ·rw[if_neg e2,if_neg (by omega)]
    rw[e]
    exact ih
  have:=loop 0 (Nat.zero_le _)
  have e0:((List.range p.2.length).map fun t=>if t < 0 then V t else ([]:List Int))=List.replicate p.2.length []:=by
   rw[show (fun t=>if t < 0 then V t else ([]:List Int))=fun _=>[] from funext fun t=>if_neg (Nat.not_lt_zero t),List.map_const',List.length_range]
  rw[e0] at this
  rw[hV] at this
  exact this
 ·rw[if_pos (by simpa using hc),if_neg hc]
  exact .leaf
end Go.Ev
end

section
open Go
namespace Go.Ev
theorem len0 {α:Type} (l:List α):((Int.ofNat l.length)==(0:Int))=decide (l.length=0):=by
 rw[Bool.eq_iff_iff,beq_iff_eq,decide_eq_true_eq]
 simp
section
variable {p:El Zc} (hF:CutF p) (t:Int)
include hF
theorem ZOc:Zcd (Zl p) t=true∧Zcd (Zn p) t=true:=⟨decide_eq_true (by have:=hF.lp;omega),decide_eq_true (by have:=hF.lo;omega)⟩
theorem ZS0 {pts:List Int} (hp:pts.length < 1000000000) (hr:rightT p t=true):ZaC (thrT p t) (allT p t) pts=true∧Zec (thrT p t) (allT p t) pts=true:=by
 obtain ⟨f1,f2,_⟩:=hF.flow t hr
 have hl:=ZOx hF t
 unfold ZaC Zec
 rw[f1,decide_eq_true (show pts.length < 4611686018427387904 by omega),decide_eq_true (show pts.length < 1000000000000 by omega),decide_eq_true (show (allT p t).length < 1000000000000 by omega)]
 exact ⟨rfl,rfl⟩
theorem Zzt {pts:List Int} (hp:pts.length < 1000000000):Zbi p t pts=true∧Za4 p t pts=(rightT p t&&decide (((allT p t).filter (uB (thrT p t) pts)).length=0)):=by
 obtain ⟨r1,r2⟩:=hF.right t
 unfold Zbi Za4
 rw[r1,r2]
 cases hr:rightT p t with
 | false=>exact ⟨rfl,rfl⟩
 | true=>
  obtain ⟨f1,f2,_⟩:=hF.flow t hr
  have h1:=(ZS0 hF t hp hr).1
  have h2:ZaC (List.getD p.2 (Int.toNat t) (dflt (.sl Za))) (ZU (Zl p) t) pts=true:=h1
  have hv:ZbM (List.getD p.2 (Int.toNat t) (dflt (.sl Za))) (ZU (Zl p) t) pts=(allT p t).filter (uB (thrT p t) pts):=rfl
  rw[f2,hF.kp,(ZOc hF t).1,h2,hv,len0]
  exact ⟨rfl,rfl⟩
theorem ZFs:ZdD p t=true∧ZaS p t=if rightT p t=true then pointsV (uB (thrT p t)) (thrT p t).length (allT p t) (opT p t) else []:=by
 obtain ⟨r1,r2⟩:=hF.right t
 unfold ZdD ZaS
 rw[r1,r2]
 cases hr:rightT p t with
 | false=>exact ⟨rfl,rfl⟩
 | true=>
  have hv:ZbA p t (Zl p) (Zn p)=pointsV (uB (thrT p t)) (thrT p t).length (allT p t) (opT p t):=rfl
  rw[hF.kp,hF.ko,Zz0 hF hr,hv]
  generalize pointsV (uB (thrT p t)) (thrT p t).length (allT p t) (opT p t)=X
  exact ⟨rfl,rfl⟩
theorem ZOQ:Zkp p t=true∧ZdG p t=if rightT p t=true then greedyV (uB (thrT p t)) (thrT p t).length (opT p t) else []:=by
 obtain ⟨r1,r2⟩:=hF.right t
 unfold Zkp ZdG
 rw[r1,r2]
 cases hr:rightT p t with
 | false=>exact ⟨rfl,rfl⟩
 | true=>
  obtain ⟨f1,f2,_⟩:=hF.flow t hr
  have hl:=Zrj hF t
  have ha:(opT p t).all (loadIn (thrT p t).length)=true:=List.all_eq_true.2 fun x hx=>by
   obtain ⟨hp,ht⟩:=ZFQ hF hx
   have l0:=hp.ld0
   have l1:=hp.ld1
   have e:thrT p (show Int from x.1)=thrT p t:=by rw[ht]
   rw[show thrT p x.1=thrT p t from e] at l1
   exact decide_eq_true ⟨l0,l1⟩
  have h2:ZbB (List.getD p.2 (Int.toNat t) (dflt (.sl Za))) (ZU (Zn p) t)=true:=by
   show ZbB (thrT p t) (opT p t)=true
   unfold ZbB
   rw[f1,ha,decide_eq_true (show (opT p t).length < 1000000000 by omega)];rfl
  have hv:Zch (List.getD p.2 (Int.toNat t) (dflt (.sl Za))) (ZU (Zn p) t)=greedyV (uB (thrT p t)) (thrT p t).length (opT p t):=rfl
  rw[f2,hF.ko,(ZOc hF t).2,h2,hv]
  generalize greedyV (uB (thrT p t)) (thrT p t).length (opT p t)=X
  exact ⟨rfl,rfl⟩
end
end Go.Ev
end

section
open Go
namespace Go.Ev
section
variable {α:Type} {U:List Int→α→Bool}
end
end Go.Ev
end

section
namespace Go.Ev
open Go
section
variable {p:El Zc} (hF:CutF p) {t:Int}
include hF
theorem ZBR (hr:rightT p t=true):Cuts (uB (thrT p t)) (thrT p t).length (opT p t):=by
 refine ZLv (List.all_eq_true.2 fun x hx=>?_)
 obtain ⟨hp,ht⟩:=ZFQ hF hx
 have l0:=hp.ld0
 have l1:=hp.ld1
 rw[show thrT p x.1=thrT p t from congrArg (thrT p) ht] at l1
 exact decide_eq_true ⟨l0,l1⟩
end
end Go.Ev
end

section
namespace Go.Ev
open Go
section
variable {t:List (El Za)} {all:List PairD}
end
theorem ZMw (a b:List Int):(shorter a b).length≤a.length∧(shorter a b).length≤b.length:=by
 unfold shorter
 split <;> omega
section
variable {p:El Zc} (hF:CutF p) {t:Int}
include hF
end
section
variable {p:El Zc} {t:Int}
end
end Go.Ev
end

section
namespace Go.Ev
open Go
theorem ZMC {U:List Int→PairD→Bool} {n:Nat} {all:List PairD} {pts:List Int} :(pruneV U n all pts).length≤pts.length:=by
 unfold pruneV
 have h1:=(Zzr (U:=U) (all:=all) [] (putsL [] (pts.filter (inR n)))).1
 have h2:(putsL [] (pts.filter (inR n))).length≤(pts.filter (inR n)).length:=by rw[←ZDJ];exact Zyo
 have h3:=List.length_filter_le (inR n) pts
 simp only[List.length_nil,Nat.zero_add] at h1
 omega
theorem ZKs {α:Type} (U:List Int→α→Bool) (n:Nat):∀(f:Nat) (pts:List Int) (l:List α),(greedyL U n f pts l).length≤f+pts.length:=by
 intro f
 induction f with
 | zero=>intro pts l;rw[greedyL];omega
 | succ f ih=>
  intro pts l
  rw[greedyL]
  split
  ·omega
  ·have:=ih (pts++[(bestG U n pts l).1]) (bestG U n pts l).2
   rw[List.length_append,List.length_singleton] at this
   omega
theorem Zm4 (l:List Int):(putsL [] l).length≤l.length:=by rw[←ZDJ];exact Zyo
theorem ZJ5 (U:List Int→PairD→Bool) (n:Nat) (l:List PairD):(greedyV U n l).length≤l.length:=by
 unfold greedyV
 have h1:=Zm4 (greedyL U n l.length [] l)
 have h2:=ZKs U n l.length [] l
 simp only[List.length_nil,Nat.add_zero] at h2
 omega
theorem ZAO (U:List Int→PairD→Bool) (n:Nat) (all op:List PairD):(pointsV U n all op).length≤op.length:=by
 unfold pointsV
 refine Nat.le_trans (ZMw _ _).2 (Nat.le_trans ZMC ?_)
 rw[List.length_map]
 exact Nat.le_refl _
end Go.Ev
end

section
namespace Go.Ev
open Go
theorem ZQQ {p:El Zc} (hF:CutF p) {t:Int} (hr:rightT p t=false):opT p t=[]:=by
 refine List.eq_nil_iff_forall_not_mem.2 fun x hx=>?_
 obtain ⟨hp,ht⟩:=ZFQ hF hx
 have h0:=hp.th0
 have h1:=hp.th1
 rw[ht] at h0 h1
 have hm:=(hF.osub x (List.mem_filter.1 hx).1).1
 rw[←hF.eq] at hm
 obtain ⟨s,r,s1,_⟩:=ZBF hm
 have hc:checkC p=0:=by
  refine Classical.byContradiction fun hn=>?_
  unfold ofC at s1
  rw[if_neg hn] at s1
  cases s1
 unfold rightT at hr
 rw[decide_eq_true h0,decide_eq_true h1,decide_eq_true hc] at hr
 cases hr
theorem ZCI {t:List (El Za)} {l:List PairD} (hc:Cuts (uB t) t.length l):greedyR (uB t) t.length l.length [] l=greedyV (uB t) t.length l:=by
 obtain ⟨h1,h2⟩:=ZJK (U:=uB t) (ZR9 t) (p:=[]) (q:=[]) hc (Nat.le_refl _) (fun k=>Iff.rfl) .nil
 exact Zjk h1 (Zfr .nil) fun x=>by unfold greedyV;rw[Zkh,←h2];simp
theorem ZDd {t:List (El Za)} {all:List PairD} {l:List Int} :pruneV (uB t) t.length all (putsL [] l)=pruneV (uB t) t.length all l:=by
 unfold pruneV
 rw[ZPy (m:=l.filter (inR t.length)) fun x=>by rw[List.mem_filter,List.mem_filter,Zkh];simp]
theorem ZFU (l:List Int) (x:Int):putsL [] (l++[x])=putL x (putsL [] l):=by unfold putsL;rw[List.foldl_append];rfl
theorem ZL9 {α:Type} (U:List Int→α→Bool) (n:Nat):∀(f:Nat) (pts:List Int) (l:List α),(greedyR U n f pts l).length≤f+pts.length:=by
 intro f
 induction f with
 | zero=>intro pts l;rw[greedyR];omega
 | succ f ih=>
  intro pts l
  rw[greedyR]
  split
  ·omega
  ·refine Nat.le_trans (ih _ _) ?_
   have:= @ZBw (bestR U n pts l).1 pts
   omega
end Go.Ev
end

section
open Go
namespace Go.Ev
noncomputable def Za3 (p:El Zc) (t:Int):List Int:=putsL [] ((opT p t).map fun x=>(show Int from x.2.1)+1)
def Zh1 (p:El Zc) (t:Int):Bool:=cutOK p
theorem ZJd (p:El Zc) (t:Int) (hk:Zh1 p t=true):Goes (Zj8 p t) (Zqj p t) (Za3 p t):=by
 have hF:=ZfT hk
 have hko:ZgR (Z1 p) t=true:=by rw[hF.opq];exact decide_eq_true (by have:=hF.lo;omega)
 have hv:Zbj (Z1 p) t=opT p t:=by rw[hF.opq];rfl
 have hN:=Zrj hF t
 have hs:∀x∈opT p t,0≤(show Int from x.2.1)∧(show Int from x.2.1) < 1099511627776:=fun x hx=>ZwO (ZFQ hF hx).1
 unfold Zqj Za3
 rw[Ze,if_pos hF.kro,Ze,if_pos hko]
 obtain ⟨O,hO⟩:∃O,opT p t=O:=⟨_,rfl⟩
 rw[hO] at hN hs hv ⊢
 have loop:∀k,k≤O.length→Goes (Zj8 p t) (.jmp (.l5 (putsL [] ((O.take k).map fun x=>(show Int from x.2.1)+1)) (k:Int))) (putsL [] (O.map fun x=>(show Int from x.2.1)+1)):=by
  refine down ?_ fun k hk ih=>?_
  ·rw[Zh,Zj8,hv,Ze,if_neg (by rw[Zw (Nat.lt_irrefl _)];decide),List.take_length]
   exact .leaf
  ·obtain ⟨s0,s1⟩:=hs _ (List.getElem_mem hk)
   have hw:IntKind.i64.wrap (O[k].2.1+(1:Int))=(show Int from O[k].2.1)+1:=by
    show IntKind.i64.wrap ((show Int from O[k].2.1)+(1:Int))=_
    generalize (show Int from O[k].2.1)=y at*
    exact wrap_i64 (by omega) (by omega)
   have hp:∀n:Int,Zdp (putsL [] ((O.take k).map fun x=>(show Int from x.2.1)+1)) n=true:=fun n=>decide_eq_true (by
    have:=Zm4 ((O.take k).map fun x=>(show Int from x.2.1)+1)
    rw[List.length_map,List.length_take] at this
    omega)
   rw[List.take_succ_eq_append_getElem hk,List.map_append,List.map_singleton,ZFU] at ih
   rw[Zh,Zj8,hv,Ze,if_pos (ZK hk),Ze,if_pos (by rw[nng,ZK hk];rfl),Int.toNat_natCast,ZG hk,hw,Ze,if_pos (hp _),Zo (by omega)]
   exact ih
 exact loop 0 (Nat.zero_le _)
end Go.Ev
end

section
open Go Go.Ev
namespace Go.Ev
noncomputable section
noncomputable def Zub:Run:=entG ZfX ZnE (fun a=>Zh1 a.1 a.2.1) (fun a=>Za3 a.1 a.2.1)
theorem Zxl:EntOK Go.Proofs.Tryz.prog 7 Zub:=ZH (tb:=Zp9) (c:=Zny) ZHC (by kernel_rfl) (by kernel_rfl) (by kernel_rfl) (fun a=>by kernel_rfl) fun ⟨p,t,_⟩ hk=>Zm (c:=Zny) (K:=fun v=>(ZnE v,tps (toForms ZfX (p,t,())))) (S:=ZfK p t) (by kernel_rfl) (ZI1 p t) (ZIz p t) (ZJd p t hk)
end
end Go.Ev
end

section
open Go Go.Ev
namespace Go.Ev
noncomputable section
noncomputable def ZiJ:Run:=entG ZcD ZiT (fun a=>Z0 a.1 a.2.1) (fun a=>ZP a.1 a.2.1)
theorem ZkJ:EntOK Go.Proofs.Tryz.prog 5 ZiJ:=ZH (tb:=ZkX) (c:=Zir) ZBd (by kernel_rfl) (by kernel_rfl) (by kernel_rfl) (fun a=>by kernel_rfl) fun ⟨a,b,_⟩ hk=>Zm (c:=Zir) (K:=fun v=>(ZiT v,tps (toForms ZcD (a,b,())))) (S:=Zcy a b) (by kernel_rfl) (ZBo a b) (ZBf a b) (ZCW a b hk)
end
end Go.Ev
end

/- Part of the proof of: What is left of points that are enough is enough, and none of it can go; of points that are not all is left: for every input the law answers true. -/
import Derived.Test.YtdbbaglblicoiaaGreatDoorCon1
set_option maxRecDepth 100000
set_option linter.unusedSectionVars false
set_option linter.unusedVariables false
set_option linter.unusedSimpArgs false
section
open Go Go.Ev
namespace Go.Ev
noncomputable section
def Zd9:Sig:=[(true,Za)]
noncomputable def Zpp:Tbl:=[(100,Zck),(105,ZhF)]
theorem ZCo:∀p∈Zpp,EntOK Go.Proofs.Tryz.prog p.1 p.2:=Zg Zcx (Zg Zi6 (Zu))
noncomputable def Zkm:Code:=Go.Proofs.Tryz.f73.body.getD .skip
def ZnW:Tb:=[]
def Zv1 (i:El Za):Empty→JT Empty ((El Zh)×Bool):=fun j=>nomatch j
def ZtR (i:El Za):JT Empty ((El Zh)×Bool):=.br (ZB i) (.br ((ZC i) !=(0:Int)) (.leaf (((0:Int),((0:Int),((0:Int),(0:Int)))),false)) (.br (decide (i.1 > (9:Int))) (.leaf (((0:Int),((0:Int),((0:Int),(0:Int)))),false)) (.br (i.1==(7:Int)) (.leaf (((0:Int),((0:Int),((0:Int),(0:Int)))),false)) (.br (! (ZE i.2.2.2.1)) (.leaf (((0:Int),((0:Int),((0:Int),(0:Int)))),false)) (.leaf (i.2.2.2.1,true)))))) (.no)
def Zcz (i:El Za):(El Zh)×Bool:=bif (ZB i) then bif ((ZC i) !=(0:Int)) then (((0:Int),((0:Int),((0:Int),(0:Int)))),false) else bif (decide (i.1 > (9:Int))) then (((0:Int),((0:Int),((0:Int),(0:Int)))),false) else bif (i.1==(7:Int)) then (((0:Int),((0:Int),((0:Int),(0:Int)))),false) else bif (! (ZE i.2.2.2.1)) then (((0:Int),((0:Int),((0:Int),(0:Int)))),false) else (i.2.2.2.1,true) else (((0:Int),((0:Int),((0:Int),(0:Int)))),false)
def ZhQ (i:El Za):Bool:=bif (ZB i) then bif ((ZC i) !=(0:Int)) then true else bif (decide (i.1 > (9:Int))) then true else bif (i.1==(7:Int)) then true else bif (! (ZE i.2.2.2.1)) then true else true else false
theorem ZEp (i:El Za) (hk:ZhQ i=true):Goes (Zv1 i) (ZtR i) (Zcz i):=Goes.brk hk (fun hk=>Goes.brk hk (fun hk=>Goes.leaf) (fun hk=>Goes.brk hk (fun hk=>Goes.leaf) (fun hk=>Goes.brk hk (fun hk=>Goes.leaf) (fun hk=>Goes.brk hk (fun hk=>Goes.leaf) (fun hk=>Goes.leaf))))) (fun hk=>Goes.nok hk)
def ZkD:(El Zh)×Bool→AV:=fun (r:(El Zh)×Bool)=>.tu [.ag [.d (.int .i64) r.1.1,.d (.int .i64) r.1.2.1,.d (.int .i64) r.1.2.2.1,.d (.int .i64) r.1.2.2.2],.d .bool r.2]
def ZdE (i:El Za):Empty→Nat×St:=fun j=>nomatch j
theorem ZBO (i:El Za) (L:Lt):entryA Go.Proofs.Tryz.prog (clOf Zpp) ZnW Go.Proofs.Tryz.f73 Zkm L (toForms Zd9 (i,()))=(ZtR i).run (fun v=>some (ZkD v,tps (toForms Zd9 (i,())))) fun j=>L (ZdE i j).1 (ZdE i j).2:=by kernel_rfl
theorem ZBK (i:El Za):∀(L:Lt) (j:Empty),procOf (procsF Go.Proofs.Tryz.prog (clOf Zpp) ZnW Go.Proofs.Tryz.f73 Zkm (toForms Zd9 (i,()))) (ZdE i j).1 L (ZdE i j).2=(Zv1 i j).run (fun v=>some (ZkD v,tps (toForms Zd9 (i,())))) fun j=>L (ZdE i j).1 (ZdE i j).2:=fun L j=>nomatch j
noncomputable def Zvp:Run:=entG Zd9 ZkD (fun a=>ZhQ a.1) (fun a=>Zcz a.1)
theorem ZCb:EntOK Go.Proofs.Tryz.prog 73 Zvp:=ZJ (tb:=ZnW) (c:=Zkm) ZCo (by kernel_rfl) (by kernel_rfl) (by kernel_rfl) (fun a=>by kernel_rfl) fun ⟨i,_⟩ hk=>Zn (c:=Zkm) (K:=fun v=>(ZkD v,tps (toForms Zd9 (i,())))) (S:=ZdE i) (by kernel_rfl) (ZBO i) (ZBK i) (ZEp i hk)
end
end Go.Ev
end

section
open Go Go.Ev
namespace Go.Ev
noncomputable section
def Zd7:Sig:=[(true,Za)]
noncomputable def Zpj:Tbl:=[(100,Zck)]
theorem ZCy:∀p∈Zpj,EntOK Go.Proofs.Tryz.prog p.1 p.2:=Zg Zcx (Zu)
noncomputable def ZkB:Code:=Go.Proofs.Tryz.f74.body.getD .skip
def Znq:Tb:=[]
def Zv3 (i:El Za):Empty→JT Empty (Bool):=fun j=>nomatch j
def ZtX (i:El Za):JT Empty (Bool):=.br (ZB i) (.br ((ZC i)==(0:Int)) (.br (i.1==(8:Int)) (.leaf true) (.leaf i.2.1)) (.leaf false)) (.no)
def ZaC (i:El Za):Bool:=bif (ZB i) then bif ((ZC i)==(0:Int)) then bif (i.1==(8:Int)) then true else i.2.1 else false else false
def Zan (i:El Za):Bool:=bif (ZB i) then bif ((ZC i)==(0:Int)) then bif (i.1==(8:Int)) then true else true else true else false
theorem ZGp (i:El Za) (hk:Zan i=true):Goes (Zv3 i) (ZtX i) (ZaC i):=Goes.brk hk (fun hk=>Goes.brk hk (fun hk=>Goes.brk hk (fun hk=>Goes.leaf) (fun hk=>Goes.leaf)) (fun hk=>Goes.leaf)) (fun hk=>Goes.nok hk)
def Zkj:Bool→AV:=fun (r:Bool)=>.d .bool r
def ZdI (i:El Za):Empty→Nat×St:=fun j=>nomatch j
theorem ZBy (i:El Za) (L:Lt):entryA Go.Proofs.Tryz.prog (clOf Zpj) Znq Go.Proofs.Tryz.f74 ZkB L (toForms Zd7 (i,()))=(ZtX i).run (fun v=>some (Zkj v,tps (toForms Zd7 (i,())))) fun j=>L (ZdI i j).1 (ZdI i j).2:=by kernel_rfl
theorem ZB4 (i:El Za):∀(L:Lt) (j:Empty),procOf (procsF Go.Proofs.Tryz.prog (clOf Zpj) Znq Go.Proofs.Tryz.f74 ZkB (toForms Zd7 (i,()))) (ZdI i j).1 L (ZdI i j).2=(Zv3 i j).run (fun v=>some (Zkj v,tps (toForms Zd7 (i,())))) fun j=>L (ZdI i j).1 (ZdI i j).2:=fun L j=>nomatch j
noncomputable def Zo7:Run:=entG Zd7 Zkj (fun a=>Zan a.1) (fun a=>ZaC a.1)
theorem ZtV:EntOK Go.Proofs.Tryz.prog 74 Zo7:=ZJ (tb:=Znq) (c:=ZkB) ZCy (by kernel_rfl) (by kernel_rfl) (by kernel_rfl) (fun a=>by kernel_rfl) fun ⟨i,_⟩ hk=>Zn (c:=ZkB) (K:=fun v=>(Zkj v,tps (toForms Zd7 (i,())))) (S:=ZdI i) (by kernel_rfl) (ZBy i) (ZB4 i) (ZGp i hk)
end
end Go.Ev
end

section
open Go Go.Ev
namespace Go.Ev
noncomputable section
def Zco:Sig:=[(true,Zc)]
noncomputable def ZlF:Tbl:=[(48,Zq3),(72,ZxW),(73,Zvp),(74,Zo7)]
theorem Zy2:∀p∈ZlF,EntOK Go.Proofs.Tryz.prog p.1 p.2:=Zg ZvH (Zg ZF2 (Zg ZCb (Zg ZtV (Zu))))
noncomputable def Zid:Code:=Go.Proofs.Tryz.f50.body.getD .skip
def ZjQ:Tb:=[(7,⟨[1,3,4],[(4,152)]⟩),(12,⟨[1,3,4,5],[(4,152)]⟩),(hintK,⟨[],[(1,152)]⟩)]
inductive Zff where | l7 (t:Int) (out:List (El Zb)) | l12 (i:Int) (out:List (El Zb)) (t:Int)
def Zbm (p:El Zc):Zff→JT Zff (List (El Zb)) |.l7 t out=>.br (decide (t < (Int.ofNat (List.length p.2)))) (.jmp (.l12 (0:Int) out t)) (.leaf out) |.l12 i out t=>.br ((decide ((0:Int)≤t))&&(decide (t < (Int.ofNat (List.length p.2))))) (.br (decide (i < (Int.ofNat (List.length (List.getD p.2 (Int.toNat t) (dflt (.sl Za))))))) (.br ((decide ((0:Int)≤t))&&(decide (t < (Int.ofNat (List.length p.2))))) (.br ((decide ((0:Int)≤i))&&(decide (i < (Int.ofNat (List.length (List.getD p.2 (Int.toNat t) (dflt (.sl Za)))))))) (.br (Zjp (List.getD (List.getD p.2 (Int.toNat t) (dflt (.sl Za))) (Int.toNat i) (dflt Za))) (.br (ZhQ (List.getD (List.getD p.2 (Int.toNat t) (dflt (.sl Za))) (Int.toNat i) (dflt Za))) (.br (Zdt (List.getD (List.getD p.2 (Int.toNat t) (dflt (.sl Za))) (Int.toNat i) (dflt Za))).2 (.br (Zan (List.getD (List.getD p.2 (Int.toNat t) (dflt (.sl Za))) (Int.toNat i) (dflt Za))) (.br (Nat.ble (((List.length out)+1)*40) limit) (.br (Zcz (List.getD (List.getD p.2 (Int.toNat t) (dflt (.sl Za))) (Int.toNat i) (dflt Za))).2 (.br (Zan (List.getD (List.getD p.2 (Int.toNat t) (dflt (.sl Za))) (Int.toNat i) (dflt Za))) (.br (Nat.ble (((List.length (out++[(t,(i,((0:Int),((Zdt (List.getD (List.getD p.2 (Int.toNat t) (dflt (.sl Za))) (Int.toNat i) (dflt Za))).1.2.2.1,(false,(ZaC (List.getD (List.getD p.2 (Int.toNat t) (dflt (.sl Za))) (Int.toNat i) (dflt Za))))))))]))+1)*40) limit) (.jmp (.l12 (IntKind.i64.wrap (i+(1:Int))) ((out++[(t,(i,((0:Int),((Zdt (List.getD (List.getD p.2 (Int.toNat t) (dflt (.sl Za))) (Int.toNat i) (dflt Za))).1.2.2.1,(false,(ZaC (List.getD (List.getD p.2 (Int.toNat t) (dflt (.sl Za))) (Int.toNat i) (dflt Za))))))))])++[(t,(i,((1:Int),((Zcz (List.getD (List.getD p.2 (Int.toNat t) (dflt (.sl Za))) (Int.toNat i) (dflt Za))).1.2.2.1,(true,(ZaC (List.getD (List.getD p.2 (Int.toNat t) (dflt (.sl Za))) (Int.toNat i) (dflt Za))))))))]) t)) (.no)) (.no)) (.jmp (.l12 (IntKind.i64.wrap (i+(1:Int))) (out++[(t,(i,((0:Int),((Zdt (List.getD (List.getD p.2 (Int.toNat t) (dflt (.sl Za))) (Int.toNat i) (dflt Za))).1.2.2.1,(false,(ZaC (List.getD (List.getD p.2 (Int.toNat t) (dflt (.sl Za))) (Int.toNat i) (dflt Za))))))))]) t))) (.no)) (.no)) (.br (Zcz (List.getD (List.getD p.2 (Int.toNat t) (dflt (.sl Za))) (Int.toNat i) (dflt Za))).2 (.br (Zan (List.getD (List.getD p.2 (Int.toNat t) (dflt (.sl Za))) (Int.toNat i) (dflt Za))) (.br (Nat.ble (((List.length out)+1)*40) limit) (.jmp (.l12 (IntKind.i64.wrap (i+(1:Int))) (out++[(t,(i,((0:Int),((Zcz (List.getD (List.getD p.2 (Int.toNat t) (dflt (.sl Za))) (Int.toNat i) (dflt Za))).1.2.2.1,(true,(ZaC (List.getD (List.getD p.2 (Int.toNat t) (dflt (.sl Za))) (Int.toNat i) (dflt Za))))))))]) t)) (.no)) (.no)) (.jmp (.l12 (IntKind.i64.wrap (i+(1:Int))) out t)))) (.no)) (.no)) (.no)) (.no)) (.jmp (.l7 (IntKind.i64.wrap (t+(1:Int))) out))) (.no)
def ZjE (p:El Zc):JT Zff (List (El Zb)):=.br (Zb5 p) (.br ((ZcN p) !=(0:Int)) (.leaf []) (.jmp (.l7 (0:Int) []))) (.no)
def ZhG:List (El Zb)→AV:=fun (r:List (El Zb))=>.rw 84 Zb r
def Zcd (p:El Zc):Zff→Nat×St |.l7 t out=>(7,⟨mkTm 76 [(1,.pt 2 0 0),(3,.own 4 0 none),(4,.d (.int .i64) t)],[(2,0,.box 27 [.d (.sl Zx) p.1,.d (.sl (.sl Za)) p.2] none),(4,0,.row 84 Zb out false)]⟩) |.l12 i out t=>(12,⟨mkTm 76 [(1,.pt 2 0 0),(3,.own 4 0 none),(4,.d (.int .i64) t),(5,.d (.int .i64) i)],[(2,0,.box 27 [.d (.sl Zx) p.1,.d (.sl (.sl Za)) p.2] none),(4,0,.row 84 Zb out false)]⟩)
theorem ZyX (p:El Zc) (L:Lt):entryA Go.Proofs.Tryz.prog (clOf ZlF) ZjQ Go.Proofs.Tryz.f50 Zid L (toForms Zco (p,()))=(ZjE p).run (fun v=>some (ZhG v,tps (toForms Zco (p,())))) fun j=>L (Zcd p j).1 (Zcd p j).2:=by kernel_rfl
theorem Zy0 (p:El Zc):∀(L:Lt) (j:Zff),procOf (procsF Go.Proofs.Tryz.prog (clOf ZlF) ZjQ Go.Proofs.Tryz.f50 Zid (toForms Zco (p,()))) (Zcd p j).1 L (Zcd p j).2=(Zbm p j).run (fun v=>some (ZhG v,tps (toForms Zco (p,())))) fun j=>L (Zcd p j).1 (Zcd p j).2 | L,.l7 t out=>by kernel_rfl | L,.l12 i out t=>by kernel_rfl
end
end Go.Ev
end

section
namespace Go.Ev
open Go
theorem ZQk {i:El Za} (h:smallText i.2.2.2.2.2.1=true):Zjp i=true∧ZhQ i=true∧Zan i=true:=by
 have h0:ZB i=true:=h
 unfold Zjp ZhQ Zan
 simp only[h0,cond_true,Bool.cond_self,and_self]
theorem ZO3 {i:El Za} (h:smallText i.2.2.2.2.2.1=true):Zdt i=ZaI i:=by
 have h0:ZU i=true:=h
 have h1:ZB i=true:=h
 unfold Zdt ZaI ZC
 simp only[h0,h1,cond_true]
 by_cases hr:Zz i=0
 ·simp only[hr,bne_self_eq_false,cond_false]
  rcases nine i.1 with ⟨h9,e⟩ | ⟨h9,e⟩
  ·obtain ⟨a,b⟩:=ZNo hr h9
   rw[a,b,e,cond_false]
  ·obtain ⟨a,b⟩:=ZLt hr h9
   rw[a,b,e]
   simp only[cond_true,cond_false]
 ·have e:(Zz i !=0)=true:=by simp[hr]
  simp only[e,cond_true]
theorem ZNF {i:El Za} (h:smallText i.2.2.2.2.2.1=true):Zcz i=ZaG i:=by
 have h0:ZU i=true:=h
 have h1:ZB i=true:=h
 unfold Zcz ZaG ZC
 simp only[h0,h1,cond_true]
 by_cases hr:Zz i=0
 ·simp only[hr,bne_self_eq_false,cond_false]
  rcases nine i.1 with ⟨h9,e⟩ | ⟨h9,e⟩
  ·obtain ⟨a,b⟩:=ZNo hr h9
   rw[a,e,cond_false]
   cases ZE i.2.2.2.1 <;> simp only[Bool.not_true,Bool.not_false,cond_true,cond_false,Bool.cond_self]
  ·obtain ⟨a,b⟩:=ZLt hr h9
   rw[a,e]
   simp only[cond_true,Bool.not_false]
 ·have e:(Zz i !=0)=true:=by simp[hr]
  simp only[e,cond_true]
theorem ZM5 {i:El Za} (h:smallText i.2.2.2.2.2.1=true):ZaC i=Zam i:=by
 have h0:ZU i=true:=h
 have h1:ZB i=true:=h
 unfold ZaC Zam ZC
 simp only[h0,h1]
end Go.Ev
end

section
open Go
namespace Go.Ev
def Zt (p:El Zc):List (El Zb):=ofC p
def Zig (p:El Zc):Bool:=smallAll p
theorem ZBe (p:El Zc) (hk:Zig p=true):Goes (Zbm p) (ZjE p) (Zt p):=by
 have hA:=smallA hk
 obtain ⟨sy,th⟩:=p
 have hkc:Zb5 (sy,th)=true:=hA.prog
 have hlen:th.length < 1073741824:=hA.len
 have htot:total th < 1073741824:=hA.tot
 have main:∀k,k≤th.length→∀out:List (El Zb),out.length+2*total (th.drop k) < 4294967296→Goes (Zbm (sy,th)) (.jmp (.l7 (k:Int) out)) (out++accP k (th.drop k)):=by
  refine down ?_ fun k hk ih=>?_
  ·intro out ho
   rw[Zi]
   simp only[Zbm,Ze,Zw (Nat.lt_irrefl _),ZT,List.drop_length]
   simp[accP]
  ·intro out ho
   rw[ZDs hk] at ho
   have hS:=smallT (hA.thr _ (List.getElem_mem hk))
   rw[Zi]
   simp only[Zbm,Ze,ZQ hk,if_true]
   rw[ZN hk]
   unfold accP
   obtain ⟨x,hx0⟩:∃x,th[k]=x:=⟨_,rfl⟩
   rw[hx0] at ho hS ⊢
   have inner:∀j,j≤List.length x→∀out:List (El Zb),out.length+2*(List.length x - j)+2*total (th.drop (k+1)) < 4294967296→Goes (Zbm (sy,th)) (.jmp (.l12 (j:Int) out (k:Int))) (out++(accT k j (List.drop j x)++accP (k+1) (th.drop (k+1)))):=by
    refine down ?_ fun j hj ihj=>?_
    ·intro out ho
     rw[Zi]
     simp only[Zbm,Ze,ZQ hk,nng,Bool.and_self,if_true,Int.toNat_natCast,ZG hk,hx0,Zw (Nat.lt_irrefl _),Zs (k:=k) (by omega),List.drop_length]
     have:=ih out (by omega)
     simpa[accT] using this
    ·intro out ho
     have hto:=hS.to _ (List.getElem_mem hj)
     obtain ⟨a1,a2,a4⟩:=ZQk hto
     have hx:List.length x < 1099511627776:=hS.len
     rw[Zi]
     have b1:Nat.ble ((out.length+1)*40) limit=true:=ble40 (by omega)
     have b2:∀y:El Zb,Nat.ble (((out++[y]).length+1)*40) limit=true:=fun y=>ble40 (by rw[List.length_append];simp;omega)
     simp only[Zbm,Ze,ZQ hk,ZG hk,hx0,ZQ hj,nng,Bool.and_self,if_true,Int.toNat_natCast,ZG hj,Zs (k:=j) (by omega),a1,a2,a4,b1,b2,ZO3 hto,ZNF hto,ZM5 hto]
     rw[ZN hj]
     unfold accT accI
     have hs:∀y:List (El Zb),y.length≤2→Goes (Zbm (sy,th)) (.jmp (.l12 ((j+1:Nat):Int) (out++y) (k:Int))) (out++((y++accT k (j+1) (List.drop (j+1) x))++accP (k+1) (th.drop (k+1)))):=fun y hy=>by
      have:=ihj (out++y) (by rw[List.length_append];omega)
      rw[List.append_assoc] at this
      rw[List.append_assoc]
      exact this
     by_cases hr:(ZaI x[j]).2=true <;> by_cases hw:(ZaG x[j]).2=true
     ·simp only[hr,hw,if_true]
      rw[List.append_assoc out]
      exact hs _ (by simp)
     ·simp only[hr,hw,if_true,if_false]
      exact hs _ (by simp)
     ·simp only[hr,hw,if_true,if_false]
      exact hs _ (by simp)
     ·simp only[hr,hw,if_false]
      have:=hs [] (by simp)
      rw[List.append_nil] at this
      exact this
   exact inner 0 (Nat.zero_le _) out (by omega)
 unfold ZjE Zt ofC
 simp only[Ze,hkc,if_true,ZcN]
 by_cases h:checkC (sy,th)=0
 ·rw[if_neg (by simp[h]),if_pos h]
  have:=main 0 (Nat.zero_le _) [] (by simp;omega)
  simpa using this
 ·rw[if_pos (by simp[h]),if_neg h]
  exact .leaf
end Go.Ev
end

section
open Go Go.Ev
namespace Go.Ev
noncomputable section
noncomputable def Zra:Run:=entG Zco ZhG (fun a=>Zig a.1) (fun a=>Zt a.1)
theorem Zzb:EntOK Go.Proofs.Tryz.prog 50 Zra:=ZJ (tb:=ZjQ) (c:=Zid) Zy2 (by kernel_rfl) (by kernel_rfl) (by kernel_rfl) (fun a=>by kernel_rfl) fun ⟨p,_⟩ hk=>Zn (c:=Zid) (K:=fun v=>(ZhG v,tps (toForms Zco (p,())))) (S:=Zcd p) (by kernel_rfl) (ZyX p) (Zy0 p) (ZBe p hk)
end
end Go.Ev
end

section
open Go Go.Ev
namespace Go.Ev
noncomputable section
def ZfQ:Sig:=[(true,Za)]
noncomputable def ZrH:Tbl:=[(100,Zck),(102,Zmv)]
theorem ZFh:∀p∈ZrH,EntOK Go.Proofs.Tryz.prog p.1 p.2:=Zg Zcx (Zg Zp6 (Zu))
noncomputable def Zma:Code:=Go.Proofs.Tryz.f106.body.getD .skip
def ZpI:Tb:=[]
def Zyf (i:El Za):Empty→JT Empty (Bool×Bool):=fun j=>nomatch j
def Zvw (i:El Za):JT Empty (Bool×Bool):=.br (ZB i) (.br ((ZC i) !=(0:Int)) (.leaf (false,false)) (.br (i.1 !=(10:Int)) (.leaf ((i.1 !=(14:Int)),(ZaF i.1))) (.leaf (false,(ZaF i.1))))) (.no)
def Zds (i:El Za):Bool×Bool:=bif (ZB i) then bif ((ZC i) !=(0:Int)) then (false,false) else bif (i.1 !=(10:Int)) then ((i.1 !=(14:Int)),(ZaF i.1)) else (false,(ZaF i.1)) else (false,false)
def Zjy (i:El Za):Bool:=bif (ZB i) then bif ((ZC i) !=(0:Int)) then true else bif (i.1 !=(10:Int)) then true else true else false
theorem ZIe (i:El Za) (hk:Zjy i=true):Goes (Zyf i) (Zvw i) (Zds i):=Goes.brk hk (fun hk=>Goes.brk hk (fun hk=>Goes.leaf) (fun hk=>Goes.brk hk (fun hk=>Goes.leaf) (fun hk=>Goes.leaf))) (fun hk=>Goes.nok hk)
def Znj:Bool×Bool→AV:=fun (r:Bool×Bool)=>.tu [.d .bool r.1,.d .bool r.2]
def Zfb (i:El Za):Empty→Nat×St:=fun j=>nomatch j
theorem ZEt (i:El Za) (L:Lt):entryA Go.Proofs.Tryz.prog (clOf ZrH) ZpI Go.Proofs.Tryz.f106 Zma L (toForms ZfQ (i,()))=(Zvw i).run (fun v=>some (Znj v,tps (toForms ZfQ (i,())))) fun j=>L (Zfb i j).1 (Zfb i j).2:=by kernel_rfl
theorem ZF6 (i:El Za):∀(L:Lt) (j:Empty),procOf (procsF Go.Proofs.Tryz.prog (clOf ZrH) ZpI Go.Proofs.Tryz.f106 Zma (toForms ZfQ (i,()))) (Zfb i j).1 L (Zfb i j).2=(Zyf i j).run (fun v=>some (Znj v,tps (toForms ZfQ (i,())))) fun j=>L (Zfb i j).1 (Zfb i j).2:=fun L j=>nomatch j
noncomputable def ZxK:Run:=entG ZfQ Znj (fun a=>Zjy a.1) (fun a=>Zds a.1)
theorem ZDO:EntOK Go.Proofs.Tryz.prog 106 ZxK:=ZJ (tb:=ZpI) (c:=Zma) ZFh (by kernel_rfl) (by kernel_rfl) (by kernel_rfl) (fun a=>by kernel_rfl) fun ⟨i,_⟩ hk=>Zn (c:=Zma) (K:=fun v=>(Znj v,tps (toForms ZfQ (i,())))) (S:=Zfb i) (by kernel_rfl) (ZEt i) (ZF6 i) (ZIe i hk)
end
end Go.Ev
end

section
open Go Go.Ev
namespace Go.Ev
noncomputable section
def ZhB:Sig:=[(true,(.sl Za)),(false,(.int .i64))]
noncomputable def ZuH:Tbl:=[(106,ZxK),(103,Zub)]
theorem ZHB:∀p∈ZuH,EntOK Go.Proofs.Tryz.prog p.1 p.2:=Zg ZDO (Zg ZxT (Zu))
noncomputable def Zqd:Code:=Go.Proofs.Tryz.f75.body.getD .skip
def ZrW:Tb:=[(6,⟨[1,2,5,7],[]⟩)]
inductive Zlc where | l6 (jumps:Bool) (is:List Bool)
def Zql (t:List (El Za)) (i:Int):Zlc→JT Zlc (List Bool) |.l6 jumps is=>.br jumps (.br ((decide ((0:Int)≤i))&&(decide (i < (Int.ofNat (List.length t))))) (.br (Ze8 t (List.getD t (Int.toNat i) (dflt Za)).2.2.2.2.2.1) (.br (decide ((ZcQ t (List.getD t (Int.toNat i) (dflt Za)).2.2.2.2.2.1)≥(0:Int))) (.br ((decide ((0:Int)≤(ZcQ t (List.getD t (Int.toNat i) (dflt Za)).2.2.2.2.2.1)))&&(decide ((ZcQ t (List.getD t (Int.toNat i) (dflt Za)).2.2.2.2.2.1) < (Int.ofNat (List.length is))))) (.leaf (List.set is (Int.toNat (ZcQ t (List.getD t (Int.toNat i) (dflt Za)).2.2.2.2.2.1)) true)) (.no)) (.leaf is)) (.no)) (.no)) (.leaf is)
def Zq2 (t:List (El Za)) (i:Int):JT Zlc (List Bool):=.br ((((Int.ofNat (List.length t))==(Int.ofNat (List.length t)))&&(decide ((0:Int)≤(Int.ofNat (List.length t)))))&&(decide (((Int.ofNat (List.length t))*(1:Int))≤(limit:Int)))) (.br (decide (i < (0:Int))) (.leaf (List.replicate (List.length t) false)) (.br (decide (i≥(Int.ofNat (List.length t)))) (.leaf (List.replicate (List.length t) false)) (.br ((decide ((0:Int)≤i))&&(decide (i < (Int.ofNat (List.length t))))) (.br (Zjy (List.getD t (Int.toNat i) (dflt Za))) (.br (Zds (List.getD t (Int.toNat i) (dflt Za))).1 (.br (decide ((IntKind.i64.wrap (i+(1:Int))) < (Int.ofNat (List.length t)))) (.br ((decide ((0:Int)≤(IntKind.i64.wrap (i+(1:Int)))))&&(decide ((IntKind.i64.wrap (i+(1:Int))) < (Int.ofNat (List.length (List.replicate (List.length t) false)))))) (.jmp (.l6 (Zds (List.getD t (Int.toNat i) (dflt Za))).2 (List.set (List.replicate (List.length t) false) (Int.toNat (IntKind.i64.wrap (i+(1:Int)))) true))) (.no)) (.jmp (.l6 (Zds (List.getD t (Int.toNat i) (dflt Za))).2 (List.replicate (List.length t) false)))) (.jmp (.l6 (Zds (List.getD t (Int.toNat i) (dflt Za))).2 (List.replicate (List.length t) false)))) (.no)) (.no)))) (.no)
def ZoT:List Bool→AV:=fun (r:List Bool)=>.rw 4 .bool r
def ZgG (t:List (El Za)) (i:Int):Zlc→Nat×St |.l6 jumps is=>(6,⟨mkTm 60 [(1,.d (.int .i64) i),(2,.pt 3 0 0),(5,.own 6 0 none),(7,.d .bool jumps)],[(3,0,.box 34 [.d (.sl Za) t] none),(6,0,.row 4 .bool is false)]⟩)
theorem ZG5 (t:List (El Za)) (i:Int) (L:Lt):entryA Go.Proofs.Tryz.prog (clOf ZuH) ZrW Go.Proofs.Tryz.f75 Zqd L (toForms ZhB (t,i,()))=(Zq2 t i).run (fun v=>some (ZoT v,tps (toForms ZhB (t,i,())))) fun j=>L (ZgG t i j).1 (ZgG t i j).2:=by kernel_rfl
theorem ZGU (t:List (El Za)) (i:Int):∀(L:Lt) (j:Zlc),procOf (procsF Go.Proofs.Tryz.prog (clOf ZuH) ZrW Go.Proofs.Tryz.f75 Zqd (toForms ZhB (t,i,()))) (ZgG t i j).1 L (ZgG t i j).2=(Zql t i j).run (fun v=>some (ZoT v,tps (toForms ZhB (t,i,())))) fun j=>L (ZgG t i j).1 (ZgG t i j).2 | L,.l6 jumps is=>by kernel_rfl
end
end Go.Ev
end

section
open Go
namespace Go.Ev
theorem ZKL {i:El Za} (h:smallText i.2.2.2.2.2.1=true):Zjy i=true:=by
 have h1:ZB i=true:=h
 unfold Zjy
 simp only[h1,cond_true,Bool.cond_self]
theorem ZM0 {i:El Za} (h:smallText i.2.2.2.2.2.1=true):Zds i=ZaJ i:=by
 have h0:ZU i=true:=h
 have h1:ZB i=true:=h
 unfold Zds ZaJ ZC ZaF
 simp only[h0,h1,cond_true]
 cases h10:((show Int from i.1)==10) with
 | true=>simp only[cond_true,bne,h10,Bool.not_true,cond_false]
 | false=>simp only[cond_true,bne,h10,Bool.not_false,cond_false]
end Go.Ev
end

section
open Go
namespace Go.Ev
def rowOf (n:Nat) (M:Nat→Bool):List Bool:=(List.range n).map M
theorem ZK {n:Nat} {M:Nat→Bool} :(rowOf n M).length=n:=by simp[rowOf]
theorem Zoe {n:Nat} {M:Nat→Bool} {i:Nat} (h:i < n):(rowOf n M)[i]? =some (M i):=by simp[rowOf,h]
theorem Zr6 {n:Nat} {M:Nat→Bool} {i:Nat} :(rowOf n M).set i true=rowOf n fun j=>M j || (j==i):=by
 apply List.ext_getElem?
 intro j
 rw[List.getElem?_set,ZK]
 by_cases hj:j < n
 ·rw[Zoe hj,Zoe hj]
  by_cases hi:i=j
  ·subst hi;rw[if_pos rfl,if_pos hj];simp
  ·rw[if_neg hi]
   have:(j==i)=false:=by simp;omega
   rw[this,Bool.or_false]
 ·rw[List.getElem?_eq_none (by rw[ZK];omega),List.getElem?_eq_none (by rw[ZK];omega)]
  by_cases hi:i=j
  ·rw[if_pos hi,if_neg (by omega)]
  ·rw[if_neg hi]
theorem Z3 {n:Nat} {M M':Nat→Bool} (h:∀i,i < n→M i=M' i):rowOf n M=rowOf n M':=List.map_congr_left fun i hi=>h i (List.mem_range.1 hi)
theorem Zot {n:Nat} :List.replicate n false=rowOf n fun _=>false:=by
 apply List.ext_getElem?
 intro j
 by_cases hj:j < n
 ·rw[Zoe hj];simp[hj]
 ·rw[List.getElem?_eq_none (by simp;omega),List.getElem?_eq_none (by rw[ZK];omega)]
def Za8 (t:List (El Za)) (i:Int):List Bool:=rowOf t.length (nextB t i)
def Zc8 (t:List (El Za)) (i:Int):Bool:=flowOK t
theorem ZKU (t:List (El Za)) (i:Int) (hk:Zc8 t i=true):Goes (Zql t i) (Zq2 t i) (Za8 t i):=by
 have hlen:=ZbS hk
 have hout:∀i,¬(0≤i∧i < (t.length:Int))→List.replicate t.length false=rowOf t.length (nextB t i):=fun i h=>by
  rw[Zot]
  refine Z3 fun j hj=>?_
  unfold nextB
  rw[decide_eq_false (fun hh=>h ⟨hh.1,hh.2.1⟩),Bool.false_and]
 unfold Zq2 Za8
 rw[Ze,if_pos (by unfold limit;simp;omega),Ze]
 by_cases h0:i < 0
 ·rw[if_pos (decide_eq_true h0),←hout i (fun h=>by omega)];exact .leaf
 rw[if_neg (by simpa using h0),Ze]
 obtain ⟨j,rfl⟩:=Int.eq_ofNat_of_zero_le (show 0≤i by omega)
 by_cases h1:(t.length:Int)≤(j:Int)
 ·rw[if_pos (decide_eq_true (show (j:Int)≥Int.ofNat t.length from h1)),←hout _ (fun h=>by omega)];exact .leaf
 have hj:j < t.length:=by omega
 rw[if_neg (by simp;omega),Ze,if_pos (Zas hj),Ze,Int.toNat_natCast]
 have hmem:t.getD j (dflt Za)∈t:=by rw[ZG hj];exact List.getElem_mem hj
 have hsm:=Zpl hk hmem
 rw[if_pos (ZKL hsm),ZM0 hsm]
 have kf:Ze8 t (t.getD j (dflt Za)).2.2.2.2.2.1=true:=Zz5 hk
 have vf:ZcQ t (t.getD j (dflt Za)).2.2.2.2.2.1=findI (t.getD j (dflt Za)).2.2.2.2.2.1 t 0:=rfl
 have hw:IntKind.i64.wrap ((j:Int)+1)=((j+1:Nat):Int):=Zs (by omega)
 have hr:= @ZKP t j
 have l6:∀(M:Nat→Bool),Goes (Zql t (j:Int)) (.jmp (.l6 (ZaJ (t.getD j (dflt Za))).2 (rowOf t.length M))) (rowOf t.length fun k=>M k || decide (toOf t j=(k:Int))):=by
  intro M
  rw[Zi,Zql,Ze]
  by_cases hjmp:(ZaJ (t.getD j (dflt Za))).2=true
  ·have hto:toOf t j=findI (t.getD j (dflt Za)).2.2.2.2.2.1 t 0:=by unfold toOf;rw[if_pos hjmp]
   rw[hto] at hr
   rw[if_pos hjmp,Ze,if_pos (Zas hj),Ze,Int.toNat_natCast,if_pos kf,Ze,vf,hto]
   generalize findI (t.getD j (dflt Za)).2.2.2.2.2.1 t 0=to at hr
   by_cases h2:to≥0
   ·obtain ⟨k,rfl⟩:=Int.eq_ofNat_of_zero_le h2
    rw[if_pos (decide_eq_true h2),Ze,if_pos (by rw[ZK];exact Zas (by omega)),Int.toNat_natCast,Zr6]
    rw[show (rowOf t.length fun l=>M l || decide ((k:Int)=(l:Int)))=rowOf t.length fun l=>M l || (l==k) from Z3 fun l _=>by
     congr 1
     rw[Bool.eq_iff_iff];simp;omega]
    exact .leaf
   ·rw[if_neg (by simpa using h2)]
    rw[show (rowOf t.length fun l=>M l || decide (to=(l:Int)))=rowOf t.length M from Z3 fun l _=>by
     rw[decide_eq_false (by omega),Bool.or_false]]
    exact .leaf
  ·have hto:toOf t j= -1:=by unfold toOf;rw[if_neg hjmp]
   rw[if_neg hjmp,hto]
   rw[show (rowOf t.length fun l=>M l || decide ((-1:Int)=(l:Int)))=rowOf t.length M from Z3 fun l _=>by
     rw[decide_eq_false (by omega),Bool.or_false]]
   exact .leaf
 have hB:∀k,k < t.length→nextB t (j:Int) k=((onOf t j&&decide ((k:Int)=(j:Int)+1)) || decide (toOf t j=(k:Int))):=fun k hk=>by
  unfold nextB
  rw[decide_eq_true (by omega),Bool.true_and,Int.toNat_natCast]
 rw[Zot,Ze]
 by_cases hon:(ZaJ (t.getD j (dflt Za))).1=true
 ·have hon':onOf t j=true:=hon
  rw[if_pos hon,Ze,hw]
  by_cases hin:j+1 < t.length
  ·rw[if_pos (ZQ hin),Ze,ZK,if_pos (Zas hin),Int.toNat_natCast,Zr6]
   have:=l6 fun k=>false || (k==j+1)
   rw[show rowOf t.length (nextB t (j:Int))=rowOf t.length fun k=>(false || (k==j+1)) || decide (toOf t j=(k:Int)) from Z3 fun k hk=>by
    rw[hB k hk,hon',Bool.true_and,Bool.false_or]
    congr 1
    rw[Bool.eq_iff_iff];simp;omega]
   exact this
  ·rw[if_neg (by rw[Zw hin];decide)]
   have:=l6 fun _=>false
   rw[show rowOf t.length (nextB t (j:Int))=rowOf t.length fun k=>false || decide (toOf t j=(k:Int)) from Z3 fun k hk=>by
    rw[hB k hk,hon',Bool.true_and,decide_eq_false (show ¬(k:Int)=(j:Int)+1 by omega)]]
   exact this
 ·have hon':onOf t j=false:=Bool.eq_false_iff.2 hon
  rw[if_neg hon]
  have:=l6 fun _=>false
  rw[show rowOf t.length (nextB t (j:Int))=rowOf t.length fun k=>false || decide (toOf t j=(k:Int)) from Z3 fun k hk=>by
   rw[hB k hk,hon',Bool.false_and]]
  exact this
end Go.Ev
end

section
open Go Go.Ev
namespace Go.Ev
noncomputable section
noncomputable def Zul:Run:=entG ZhB ZoT (fun a=>Zc8 a.1 a.2.1) (fun a=>Za8 a.1 a.2.1)
theorem Zyg:EntOK Go.Proofs.Tryz.prog 75 Zul:=ZJ (tb:=ZrW) (c:=Zqd) ZHB (by kernel_rfl) (by kernel_rfl) (by kernel_rfl) (fun a=>by kernel_rfl) fun ⟨t,i,_⟩ hk=>Zn (c:=Zqd) (K:=fun v=>(ZoT v,tps (toForms ZhB (t,i,())))) (S:=ZgG t i) (by kernel_rfl) (ZG5 t i) (ZGU t i) (ZKU t i hk)
end
end Go.Ev
end

section
open Go Go.Ev
namespace Go.Ev
noncomputable section
def Zhd:Sig:=[(true,(.sl Za)),(false,(.int .i64))]
noncomputable def Zu0:Tbl:=[(75,Zul)]
theorem ZJz:∀p∈Zu0,EntOK Go.Proofs.Tryz.prog p.1 p.2:=Zg Zyg (Zu)
noncomputable def ZoV:Code:=Go.Proofs.Tryz.f51.body.getD .skip
def ZrL:Tb:=[(4,⟨[2,5,6],[]⟩),(9,⟨[2,5,6,7],[]⟩),(17,⟨[2,5,6,7,8,9],[]⟩)]
inductive ZlV where | l4 (moved:Bool) (is:List Bool) | l9 (k:Int) (moved:Bool) (is:List Bool) | l17 (k:Int) (more:List Bool) (moved:Bool) (j_:Int) (is:List Bool)
def ZbW (t:List (El Za)) (i:Int):ZlV→JT ZlV (List Bool) |.l4 moved is=>.br moved (.jmp (.l9 (0:Int) false is)) (.leaf is) |.l9 k moved is=>.br (decide (k < (Int.ofNat (List.length is)))) (.br ((decide ((0:Int)≤k))&&(decide (k < (Int.ofNat (List.length is))))) (.br (! (List.getD is (Int.toNat k) (dflt .bool))) (.jmp (.l9 (IntKind.i64.wrap (k+(1:Int))) moved is)) (.br (Zc8 t k) (.jmp (.l17 k (Za8 t k) moved (0:Int) is)) (.no))) (.no)) (.jmp (.l4 moved is)) |.l17 k more moved j_ is=>.br (decide (j_ < (Int.ofNat (List.length is)))) (.br ((decide ((0:Int)≤j_))&&(decide (j_ < (Int.ofNat (List.length more))))) (.br (List.getD more (Int.toNat j_) (dflt .bool)) (.br ((decide ((0:Int)≤j_))&&(decide (j_ < (Int.ofNat (List.length is))))) (.br (! (List.getD is (Int.toNat j_) (dflt .bool))) (.br ((decide ((0:Int)≤j_))&&(decide (j_ < (Int.ofNat (List.length is))))) (.jmp (.l17 k more true (IntKind.i64.wrap (j_+(1:Int))) (List.set is (Int.toNat j_) true))) (.no)) (.jmp (.l17 k more moved (IntKind.i64.wrap (j_+(1:Int))) is))) (.no)) (.jmp (.l17 k more moved (IntKind.i64.wrap (j_+(1:Int))) is))) (.no)) (.jmp (.l9 (IntKind.i64.wrap (k+(1:Int))) moved is))
def Zse (t:List (El Za)) (i:Int):JT ZlV (List Bool):=.br (Zc8 t i) (.jmp (.l4 true (Za8 t i))) (.no)
def Zqx:List Bool→AV:=fun (r:List Bool)=>.rw 4 .bool r
def ZgJ (t:List (El Za)) (i:Int):ZlV→Nat×St |.l4 moved is=>(4,⟨mkTm 49 [(2,.pt 3 0 0),(5,.own 6 0 none),(6,.d .bool moved)],[(3,0,.box 34 [.d (.sl Za) t] none),(6,0,.row 4 .bool is false)]⟩) |.l9 k moved is=>(9,⟨mkTm 49 [(2,.pt 3 0 0),(5,.own 6 0 none),(6,.d .bool moved),(7,.d (.int .i64) k)],[(3,0,.box 34 [.d (.sl Za) t] none),(6,0,.row 4 .bool is false)]⟩) |.l17 k more moved j_ is=>(17,⟨mkTm 49 [(2,.pt 3 0 0),(5,.own 6 0 none),(6,.d .bool moved),(7,.d (.int .i64) k),(8,.own 9 0 none),(9,.d (.int .i64) j_)],[(3,0,.box 34 [.d (.sl Za) t] none),(6,0,.row 4 .bool is false),(9,0,.row 4 .bool more false)]⟩)
theorem ZGG (t:List (El Za)) (i:Int) (L:Lt):entryA Go.Proofs.Tryz.prog (clOf Zu0) ZrL Go.Proofs.Tryz.f51 ZoV L (toForms Zhd (t,i,()))=(Zse t i).run (fun v=>some (Zqx v,tps (toForms Zhd (t,i,())))) fun j=>L (ZgJ t i j).1 (ZgJ t i j).2:=by kernel_rfl
theorem ZGL (t:List (El Za)) (i:Int):∀(L:Lt) (j:ZlV),procOf (procsF Go.Proofs.Tryz.prog (clOf Zu0) ZrL Go.Proofs.Tryz.f51 ZoV (toForms Zhd (t,i,()))) (ZgJ t i j).1 L (ZgJ t i j).2=(ZbW t i j).run (fun v=>some (Zqx v,tps (toForms Zhd (t,i,())))) fun j=>L (ZgJ t i j).1 (ZgJ t i j).2 | L,.l4 moved is=>by kernel_rfl | L,.l9 k moved is=>by kernel_rfl | L,.l17 k more moved j_ is=>by kernel_rfl
end
end Go.Ev
end

section
open Go
namespace Go.Ev
theorem Zbv {n:Nat} {M:Nat→Bool} {i:Nat} (h:i < n):List.getD (rowOf n M) i (dflt .bool)=M i:=by
 simp[List.getD,Zoe h]
theorem ZBa {n:Nat} {M:Nat→Bool} {i:Nat} {b:Bool} :(rowOf n M).set i b=rowOf n fun j=>if j=i then b else M j:=by
 apply List.ext_getElem?
 intro j
 rw[List.getElem?_set,ZK]
 by_cases hj:j < n
 ·rw[Zoe hj,Zoe hj]
  by_cases hi:i=j
  ·subst hi;rw[if_pos rfl,if_pos hj,if_pos rfl]
  ·rw[if_neg hi,if_neg (fun e=>hi e.symm)]
 ·rw[List.getElem?_eq_none (by rw[ZK];omega),List.getElem?_eq_none (by rw[ZK];omega)]
  by_cases hi:i=j
  ·rw[if_pos hi,if_neg (by omega)]
  ·rw[if_neg hi]
end Go.Ev
end

section
open Go
namespace Go.Ev
noncomputable def Zaq (t:List (El Za)) (i:Int):List Bool:=rowOf t.length (fromB t i)
def Zch (t:List (El Za)) (i:Int):Bool:=flowOK t
theorem ZJP (t:List (El Za)) (i:Int) (hk:Zch t i=true):Goes (ZbW t i) (Zse t i) (Zaq t i):=by
 have hlen:=ZbS hk
 generalize hn:t.length=n at hlen
 let OK:(Nat→Bool)→(Nat→Bool)→Bool→Prop:=fun M0 M moved=>(∀j,nextB t i j=true→M j=true)∧(∀j,M j=true→Come (fun k j=>nextB t (k:Int) j) (nextB t i) j)∧(moved=false→M=M0)∧(moved=true→card n M0 < card n M)
 have hltM:∀ {M0 M moved},OK M0 M moved→∀j,M j=true→j < n:=fun h j hj=>by
  have:=ZDU (n:=t.length) (fun j=>ZdV) (fun k j=>ZdV) (h.2.1 j hj)
  omega
 have loop:∀m,∀M:Nat→Bool,n - card n M=m→(∀j,nextB t i j=true→M j=true)→(∀j,M j=true→Come (fun k j=>nextB t (k:Int) j) (nextB t i) j)→Goes (ZbW t i) (.jmp (.l4 true (rowOf n M))) (Zaq t i):=by
  intro m
  induction m using Nat.strongRecOn with
  | _ m ih=>
  intro M0 hm hA hC
  have inner:∀k,k < n→∀Z:Prop,(∀M moved,OK M0 M moved→(moved=false→Z∧∀j,nextB t (k:Int) j=true→M0 j=true)→Goes (ZbW t i) (.jmp (.l9 ((k+1:Nat):Int) moved (rowOf n M))) (Zaq t i))→
    ∀j,j≤n→∀M moved,M k=true→OK M0 M moved→(moved=false→Z∧∀x,x < j→nextB t (k:Int) x=true→M0 x=true)→Goes (ZbW t i) (.jmp (.l17 (k:Int) (rowOf n (nextB t (k:Int))) moved (j:Int) (rowOf n M))) (Zaq t i):=by
   intro k hkn Z hz
   refine down ?_ fun j hj ih2=>?_
   ·intro M moved hMk hok hcl
    rw[Zi,ZbW,Ze,ZK,if_neg (by rw[Zw (Nat.lt_irrefl _)];decide),Zs (by omega)]
    exact hz M moved hok fun hm=>⟨(hcl hm).1,fun j hj=>(hcl hm).2 j (by have:=ZdV hj;omega) hj⟩
   ·intro M moved hMk hok hcl
    rw[Zi,ZbW,Ze,ZK,if_pos (ZQ hj),Ze,ZK,if_pos (Zas hj),Ze,Int.toNat_natCast,Zbv hj,Zs (by omega)]
    by_cases hN:nextB t (k:Int) j=true
    ·rw[if_pos hN,Ze,if_pos (Zas hj),Ze,Zbv hj]
     cases hMj:M j with
     | true=>
      rw[if_neg (by decide)]
      refine ih2 M moved hMk hok fun hm=>⟨(hcl hm).1,fun x hx hxN=>?_⟩
      by_cases hxj:x=j
      ·subst hxj;rw[←hok.2.2.1 hm];exact hMj
      ·exact (hcl hm).2 x (by omega) hxN
     | false=>
      rw[if_pos (by decide),Ze,if_pos (Zas hj),Zr6]
      have hca:=Zmz hMj hj
      refine ih2 (fun x=>M x || (x==j)) true (by rw[hMk];rfl) ⟨fun x hx=>(show (M x || (x==j))=true by rw[hok.1 x hx];rfl),fun x hx=>?_,fun h=>(by cases h),fun _=>?_⟩ (fun h=>by cases h)
      ·simp only[Bool.or_eq_true,beq_iff_eq] at hx
       rcases hx with hx | hx
       ·exact hok.2.1 x hx
       ·subst hx;exact .step (hok.2.1 k hMk) hN
      ·cases moved with
       | true=>have:=hok.2.2.2 rfl;omega
       | false=>rw[hok.2.2.1 rfl] at hca;rw[hok.2.2.1 rfl];omega
    ·rw[if_neg hN]
     refine ih2 M moved hMk hok fun hm=>⟨(hcl hm).1,fun x hx hxN=>?_⟩
     by_cases hxj:x=j
     ·subst hxj;exact absurd hxN hN
     ·exact (hcl hm).2 x (by omega) hxN
  have pass:∀k,k≤n→∀M moved,OK M0 M moved→(moved=false→∀k' j,k' < k→M0 k'=true→nextB t (k':Int) j=true→M0 j=true)→Goes (ZbW t i) (.jmp (.l9 (k:Int) moved (rowOf n M))) (Zaq t i):=by
   refine down ?_ fun k hkn ih2=>?_
   ·intro M moved hok hcl
    rw[Zi,ZbW,Ze,ZK,if_neg (by rw[Zw (Nat.lt_irrefl _)];decide)]
    cases moved with
    | true=>
     have h1:=hok.2.2.2 rfl
     have h2:= @Ze1 n M
     exact ih (n - card n M) (by omega) M rfl hok.1 hok.2.1
    | false=>
     have e:=hok.2.2.1 rfl
     subst e
     rw[Zi,ZbW,Ze,if_neg (by decide)]
     have hv:rowOf n M=Zaq t i:=by
      unfold Zaq fromB
      rw[hn]
      exact Z3 fun j _=>Zpk hok.1 (fun k j hk hj=>hcl rfl k j (hltM hok k hk) hk hj) hok.2.1 j
     rw[hv];exact .leaf
   ·intro M moved hok hcl
    rw[Zi,ZbW,Ze,ZK,if_pos (ZQ hkn),Ze,if_pos (Zas hkn),Ze,Int.toNat_natCast,Zbv hkn]
    cases hMk:M k with
    | false=>
     rw[if_pos (by decide),Zs (by omega)]
     refine ih2 M moved hok fun hm k' j hk' hk1 hj=>?_
     by_cases e:k'=k
     ·subst e;rw[←hok.2.2.1 hm,hMk] at hk1;cases hk1
     ·exact hcl hm k' j (by omega) hk1 hj
    | true=>
     have kn:Zc8 t (k:Int)=true:=hk
     rw[if_neg (by decide),Ze,if_pos kn]
     have hvn:Za8 t (k:Int)=rowOf n (nextB t (k:Int)):=by unfold Za8;rw[hn]
     rw[hvn]
     refine inner k hkn (∀k' j,k' < k→M0 k'=true→nextB t (k':Int) j=true→M0 j=true) (fun M' moved' hok' hcl'=>ih2 M' moved' hok' fun hm k' j hk' hk1 hj=>?_) 0 (Nat.zero_le _) M moved hMk hok (fun hm=>⟨hcl hm,fun x hx=>by omega⟩)
     by_cases e:k'=k
     ·subst e;exact (hcl' hm).2 j hj
     ·exact (hcl' hm).1 k' j (by omega) hk1 hj
  rw[Zi,ZbW,Ze,if_pos rfl]
  exact pass 0 (Nat.zero_le _) M0 false ⟨hA,hC,fun _=>rfl,fun h=>by cases h⟩ fun _ k' j h=>by omega
 have kn:Zc8 t i=true:=hk
 unfold Zse
 rw[Ze,if_pos kn]
 have hvn:Za8 t i=rowOf n (nextB t i):=by unfold Za8;rw[hn]
 rw[hvn]
 exact loop _ (nextB t i) rfl (fun j h=>h) (fun j h=>.start h)
end Go.Ev
end

section
open Go Go.Ev
namespace Go.Ev
noncomputable section
noncomputable def Zut:Run:=entG Zhd Zqx (fun a=>Zch a.1 a.2.1) (fun a=>Zaq a.1 a.2.1)
theorem ZxJ:EntOK Go.Proofs.Tryz.prog 51 Zut:=ZJ (tb:=ZrL) (c:=ZoV) ZJz (by kernel_rfl) (by kernel_rfl) (by kernel_rfl) (fun a=>by kernel_rfl) fun ⟨t,i,_⟩ hk=>Zn (c:=ZoV) (K:=fun v=>(Zqx v,tps (toForms Zhd (t,i,())))) (S:=ZgJ t i) (by kernel_rfl) (ZGG t i) (ZGL t i) (ZJP t i hk)
end
end Go.Ev
end

section
open Go Go.Ev
namespace Go.Ev
noncomputable section
def Zfr:Sig:=[(true,Zb),(true,Zb)]
noncomputable def Zr0:Tbl:=[]
theorem ZDM:∀p∈Zr0,EntOK Go.Proofs.Tryz.prog p.1 p.2:=Zu
noncomputable def Zm5:Code:=Go.Proofs.Tryz.f76.body.getD .skip
def ZpV:Tb:=[]
def Zyc (a:El Zb) (b:El Zb):Empty→JT Empty (Bool):=fun j=>nomatch j
def ZwQ (a:El Zb) (b:El Zb):JT Empty (Bool):=.br (a.1 !=b.1) (.br (a.2.2.2.1==b.2.2.2.1) (.br a.2.2.2.2.1 (.leaf true) (.leaf b.2.2.2.2.1)) (.leaf false)) (.leaf false)
def Zhw (a:El Zb) (b:El Zb):Bool:=bif (a.1 !=b.1) then bif (a.2.2.2.1==b.2.2.2.1) then bif a.2.2.2.2.1 then true else b.2.2.2.2.1 else false else false
theorem ZJK (a:El Zb) (b:El Zb):Goes (Zyc a b) (ZwQ a b) (Zhw a b):=Goes.br (Goes.br (Goes.br (Goes.leaf) (Goes.leaf)) (Goes.leaf)) (Goes.leaf)
def Zmw:Bool→AV:=fun (r:Bool)=>.d .bool r
def Zfi (a:El Zb) (b:El Zb):Empty→Nat×St:=fun j=>nomatch j
theorem ZDP (a:El Zb) (b:El Zb) (L:Lt):entryA Go.Proofs.Tryz.prog (clOf Zr0) ZpV Go.Proofs.Tryz.f76 Zm5 L (toForms Zfr (a,b,()))=(ZwQ a b).run (fun v=>some (Zmw v,tps (toForms Zfr (a,b,())))) fun j=>L (Zfi a b j).1 (Zfi a b j).2:=by kernel_rfl
theorem ZEw (a:El Zb) (b:El Zb):∀(L:Lt) (j:Empty),procOf (procsF Go.Proofs.Tryz.prog (clOf Zr0) ZpV Go.Proofs.Tryz.f76 Zm5 (toForms Zfr (a,b,()))) (Zfi a b j).1 L (Zfi a b j).2=(Zyc a b j).run (fun v=>some (Zmw v,tps (toForms Zfr (a,b,())))) fun j=>L (Zfi a b j).1 (Zfi a b j).2:=fun L j=>nomatch j
noncomputable def ZyH:Run:=entT Zfr Zmw (fun a=>Zhw a.1 a.2.1)
theorem ZE4:EntOK Go.Proofs.Tryz.prog 76 ZyH:=Zau (tb:=ZpV) (c:=Zm5) ZDM (by kernel_rfl) (by kernel_rfl) (by kernel_rfl) (fun a=>by kernel_rfl) fun ⟨a,b,_⟩=>Zn (c:=Zm5) (K:=fun v=>(Zmw v,tps (toForms Zfr (a,b,())))) (S:=Zfi a b) (by kernel_rfl) (ZDP a b) (ZEw a b) (ZJK a b)
end
end Go.Ev
end

section
open Go Go.Ev
namespace Go.Ev
noncomputable section
def Zdn:Sig:=[(true,Zc),(true,Zb),(true,Zb)]
noncomputable def ZnJ:Tbl:=[(51,Zut)]
theorem ZA7:∀p∈ZnJ,EntOK Go.Proofs.Tryz.prog p.1 p.2:=Zg ZxJ (Zu)
noncomputable def Zja:Code:=Go.Proofs.Tryz.f77.body.getD .skip
def ZkT:Tb:=[]
def Zt8 (p:El Zc) (a:El Zb) (b:El Zb):Empty→JT Empty (Bool):=fun j=>nomatch j
def Zrz (p:El Zc) (a:El Zb) (b:El Zb):JT Empty (Bool):=.br (a.1 !=b.1) (.leaf false) (.br ((a.1==b.1)&&((a.2.1==b.2.1)&&((a.2.2.1==b.2.2.1)&&((a.2.2.2.1==b.2.2.2.1)&&((a.2.2.2.2.1==b.2.2.2.2.1)&&(a.2.2.2.2.2==b.2.2.2.2.2)))))) (.leaf true) (.br (a.2.1==b.2.1) (.br (decide (b.2.2.1 > a.2.2.1)) (.leaf true) (.br ((decide ((0:Int)≤a.1))&&(decide (a.1 < (Int.ofNat (List.length p.2))))) (.br (Zch (List.getD p.2 (Int.toNat a.1) (dflt (.sl Za))) a.2.1) (.br ((decide ((0:Int)≤b.2.1))&&(decide (b.2.1 < (Int.ofNat (List.length (Zaq (List.getD p.2 (Int.toNat a.1) (dflt (.sl Za))) a.2.1)))))) (.leaf (List.getD (Zaq (List.getD p.2 (Int.toNat a.1) (dflt (.sl Za))) a.2.1) (Int.toNat b.2.1) (dflt .bool))) (.no)) (.no)) (.no))) (.br ((decide ((0:Int)≤a.1))&&(decide (a.1 < (Int.ofNat (List.length p.2))))) (.br (Zch (List.getD p.2 (Int.toNat a.1) (dflt (.sl Za))) a.2.1) (.br ((decide ((0:Int)≤b.2.1))&&(decide (b.2.1 < (Int.ofNat (List.length (Zaq (List.getD p.2 (Int.toNat a.1) (dflt (.sl Za))) a.2.1)))))) (.leaf (List.getD (Zaq (List.getD p.2 (Int.toNat a.1) (dflt (.sl Za))) a.2.1) (Int.toNat b.2.1) (dflt .bool))) (.no)) (.no)) (.no))))
def Zej (p:El Zc) (a:El Zb) (b:El Zb):Bool:=bif (a.1 !=b.1) then false else bif ((a.1==b.1)&&((a.2.1==b.2.1)&&((a.2.2.1==b.2.2.1)&&((a.2.2.2.1==b.2.2.2.1)&&((a.2.2.2.2.1==b.2.2.2.2.1)&&(a.2.2.2.2.2==b.2.2.2.2.2)))))) then true else bif (a.2.1==b.2.1) then bif (decide (b.2.2.1 > a.2.2.1)) then true else bif ((decide ((0:Int)≤a.1))&&(decide (a.1 < (Int.ofNat (List.length p.2))))) then bif (Zch (List.getD p.2 (Int.toNat a.1) (dflt (.sl Za))) a.2.1) then bif ((decide ((0:Int)≤b.2.1))&&(decide (b.2.1 < (Int.ofNat (List.length (Zaq (List.getD p.2 (Int.toNat a.1) (dflt (.sl Za))) a.2.1)))))) then (List.getD (Zaq (List.getD p.2 (Int.toNat a.1) (dflt (.sl Za))) a.2.1) (Int.toNat b.2.1) (dflt .bool)) else false else false else false else bif ((decide ((0:Int)≤a.1))&&(decide (a.1 < (Int.ofNat (List.length p.2))))) then bif (Zch (List.getD p.2 (Int.toNat a.1) (dflt (.sl Za))) a.2.1) then bif ((decide ((0:Int)≤b.2.1))&&(decide (b.2.1 < (Int.ofNat (List.length (Zaq (List.getD p.2 (Int.toNat a.1) (dflt (.sl Za))) a.2.1)))))) then (List.getD (Zaq (List.getD p.2 (Int.toNat a.1) (dflt (.sl Za))) a.2.1) (Int.toNat b.2.1) (dflt .bool)) else false else false else false
def Zeh (p:El Zc) (a:El Zb) (b:El Zb):Bool:=bif (a.1 !=b.1) then true else bif ((a.1==b.1)&&((a.2.1==b.2.1)&&((a.2.2.1==b.2.2.1)&&((a.2.2.2.1==b.2.2.2.1)&&((a.2.2.2.2.1==b.2.2.2.2.1)&&(a.2.2.2.2.2==b.2.2.2.2.2)))))) then true else bif (a.2.1==b.2.1) then bif (decide (b.2.2.1 > a.2.2.1)) then true else bif ((decide ((0:Int)≤a.1))&&(decide (a.1 < (Int.ofNat (List.length p.2))))) then bif (Zch (List.getD p.2 (Int.toNat a.1) (dflt (.sl Za))) a.2.1) then bif ((decide ((0:Int)≤b.2.1))&&(decide (b.2.1 < (Int.ofNat (List.length (Zaq (List.getD p.2 (Int.toNat a.1) (dflt (.sl Za))) a.2.1)))))) then true else false else false else false else bif ((decide ((0:Int)≤a.1))&&(decide (a.1 < (Int.ofNat (List.length p.2))))) then bif (Zch (List.getD p.2 (Int.toNat a.1) (dflt (.sl Za))) a.2.1) then bif ((decide ((0:Int)≤b.2.1))&&(decide (b.2.1 < (Int.ofNat (List.length (Zaq (List.getD p.2 (Int.toNat a.1) (dflt (.sl Za))) a.2.1)))))) then true else false else false else false
theorem ZCI (p:El Zc) (a:El Zb) (b:El Zb) (hk:Zeh p a b=true):Goes (Zt8 p a b) (Zrz p a b) (Zej p a b):=Goes.brk hk (fun hk=>Goes.leaf) (fun hk=>Goes.brk hk (fun hk=>Goes.leaf) (fun hk=>Goes.brk hk (fun hk=>Goes.brk hk (fun hk=>Goes.leaf) (fun hk=>Goes.brk hk (fun hk=>Goes.brk hk (fun hk=>Goes.brk hk (fun hk=>Goes.leaf) (fun hk=>Goes.nok hk)) (fun hk=>Goes.nok hk)) (fun hk=>Goes.nok hk))) (fun hk=>Goes.brk hk (fun hk=>Goes.brk hk (fun hk=>Goes.brk hk (fun hk=>Goes.leaf) (fun hk=>Goes.nok hk)) (fun hk=>Goes.nok hk)) (fun hk=>Goes.nok hk))))
def ZiX:Bool→AV:=fun (r:Bool)=>.d .bool r
def ZcO (p:El Zc) (a:El Zb) (b:El Zb):Empty→Nat×St:=fun j=>nomatch j
theorem ZBb (p:El Zc) (a:El Zb) (b:El Zb) (L:Lt):entryA Go.Proofs.Tryz.prog (clOf ZnJ) ZkT Go.Proofs.Tryz.f77 Zja L (toForms Zdn (p,a,b,()))=(Zrz p a b).run (fun v=>some (ZiX v,tps (toForms Zdn (p,a,b,())))) fun j=>L (ZcO p a b j).1 (ZcO p a b j).2:=by kernel_rfl
theorem ZA5 (p:El Zc) (a:El Zb) (b:El Zb):∀(L:Lt) (j:Empty),procOf (procsF Go.Proofs.Tryz.prog (clOf ZnJ) ZkT Go.Proofs.Tryz.f77 Zja (toForms Zdn (p,a,b,()))) (ZcO p a b j).1 L (ZcO p a b j).2=(Zt8 p a b j).run (fun v=>some (ZiX v,tps (toForms Zdn (p,a,b,())))) fun j=>L (ZcO p a b j).1 (ZcO p a b j).2:=fun L j=>nomatch j
noncomputable def ZtU:Run:=entG Zdn ZiX (fun a=>Zeh a.1 a.2.1 a.2.2.1) (fun a=>Zej a.1 a.2.1 a.2.2.1)
theorem ZAh:EntOK Go.Proofs.Tryz.prog 77 ZtU:=ZJ (tb:=ZkT) (c:=Zja) ZA7 (by kernel_rfl) (by kernel_rfl) (by kernel_rfl) (fun a=>by kernel_rfl) fun ⟨p,a,b,_⟩ hk=>Zn (c:=Zja) (K:=fun v=>(ZiX v,tps (toForms Zdn (p,a,b,())))) (S:=ZcO p a b) (by kernel_rfl) (ZBb p a b) (ZA5 p a b) (ZCI p a b hk)
end
end Go.Ev
end

section
open Go Go.Ev
namespace Go.Ev
noncomputable section
def Zho:Sig:=[(true,Zc),(false,(.sl Zb)),(false,(.int .i64))]
noncomputable def ZuX:Tbl:=[(76,ZyH),(77,ZtU)]
theorem ZGK:∀p∈ZuX,EntOK Go.Proofs.Tryz.prog p.1 p.2:=Zg ZE4 (Zg ZAh (Zu))
noncomputable def Zqi:Code:=Go.Proofs.Tryz.f52.body.getD .skip
def Zss:Tb:=[(8,⟨[1,2,3,7,8,9,95,105,147,156],[]⟩),(14,⟨[1,2,3,7,8,10,95,105,147,156],[]⟩),(19,⟨[1,2,3,7,8,10,11,95,105,147,156],[]⟩),(24,⟨[1,2,3,7,8,10,11,12,147,156],[]⟩),(31,⟨[1,2,7,8,13,147,156],[]⟩),(36,⟨[1,2,7,8,13,14],[]⟩)]
inductive ZlN where | l8 (i:Int) (is:List Bool) | l14 (is:List Bool) (moved:Bool) | l19 (is:List Bool) (i:Int) (moved:Bool) | l24 (is:List Bool) (moved:Bool) (k:Int) (i:Int) | l31 (is:List Bool) (i:Int) (out:List Bool) | l36 (is:List Bool) (k:Int) (out:List Bool) (i:Int)
def ZaT (p:El Zc) (l:List (El Zb)) (a:Int):ZlN→JT ZlN (List Bool) |.l8 i is=>.br (decide (i < (Int.ofNat (List.length l)))) (.br ((decide ((0:Int)≤a))&&(decide (a < (Int.ofNat (List.length l))))) (.br ((decide ((0:Int)≤i))&&(decide (i < (Int.ofNat (List.length l))))) (.br ((decide ((0:Int)≤i))&&(decide (i < (Int.ofNat (List.length is))))) (.jmp (.l8 (IntKind.i64.wrap (i+(1:Int))) (List.set is (Int.toNat i) (Zhw (List.getD l (Int.toNat a) (dflt Zb)) (List.getD l (Int.toNat i) (dflt Zb)))))) (.no)) (.no)) (.no)) (.jmp (.l14 is true)) |.l14 is moved=>.br moved (.jmp (.l19 is (0:Int) false)) (.jmp (.l31 is (0:Int) (List.replicate (List.length l) false))) |.l19 is i moved=>.br (decide (i < (Int.ofNat (List.length l)))) (.jmp (.l24 is moved (0:Int) i)) (.jmp (.l14 is moved)) |.l24 is moved k i=>.br (decide (k < (Int.ofNat (List.length l)))) (.br ((decide ((0:Int)≤i))&&(decide (i < (Int.ofNat (List.length is))))) (.br (List.getD is (Int.toNat i) (dflt .bool)) (.br ((decide ((0:Int)≤k))&&(decide (k < (Int.ofNat (List.length is))))) (.br (! (List.getD is (Int.toNat k) (dflt .bool))) (.br ((decide ((0:Int)≤k))&&(decide (k < (Int.ofNat (List.length l))))) (.br ((decide ((0:Int)≤a))&&(decide (a < (Int.ofNat (List.length l))))) (.br ((List.getD l (Int.toNat k) (dflt Zb)).1 !=(List.getD l (Int.toNat a) (dflt Zb)).1) (.br ((decide ((0:Int)≤i))&&(decide (i < (Int.ofNat (List.length l))))) (.br ((decide ((0:Int)≤k))&&(decide (k < (Int.ofNat (List.length l))))) (.br (Zhw (List.getD l (Int.toNat i) (dflt Zb)) (List.getD l (Int.toNat k) (dflt Zb))) (.br ((decide ((0:Int)≤k))&&(decide (k < (Int.ofNat (List.length is))))) (.jmp (.l24 (List.set is (Int.toNat k) true) true (IntKind.i64.wrap (k+(1:Int))) i)) (.no)) (.br ((decide ((0:Int)≤i))&&(decide (i < (Int.ofNat (List.length l))))) (.br ((decide ((0:Int)≤k))&&(decide (k < (Int.ofNat (List.length l))))) (.br (Zeh p (List.getD l (Int.toNat i) (dflt Zb)) (List.getD l (Int.toNat k) (dflt Zb))) (.br (Zej p (List.getD l (Int.toNat i) (dflt Zb)) (List.getD l (Int.toNat k) (dflt Zb))) (.br ((decide ((0:Int)≤k))&&(decide (k < (Int.ofNat (List.length is))))) (.jmp (.l24 (List.set is (Int.toNat k) true) true (IntKind.i64.wrap (k+(1:Int))) i)) (.no)) (.jmp (.l24 is moved (IntKind.i64.wrap (k+(1:Int))) i))) (.no)) (.no)) (.no))) (.no)) (.no)) (.jmp (.l24 is moved (IntKind.i64.wrap (k+(1:Int))) i))) (.no)) (.no)) (.jmp (.l24 is moved (IntKind.i64.wrap (k+(1:Int))) i))) (.no)) (.jmp (.l19 is (IntKind.i64.wrap (i+(1:Int))) moved))) (.no)) (.jmp (.l19 is (IntKind.i64.wrap (i+(1:Int))) moved)) |.l31 is i out=>.br (decide (i < (Int.ofNat (List.length l)))) (.jmp (.l36 is (0:Int) out i)) (.leaf out) |.l36 is k out i=>.br (decide (k < (Int.ofNat (List.length l)))) (.br ((decide ((0:Int)≤i))&&(decide (i < (Int.ofNat (List.length l))))) (.br ((decide ((0:Int)≤a))&&(decide (a < (Int.ofNat (List.length l))))) (.br ((List.getD l (Int.toNat i) (dflt Zb)).1==(List.getD l (Int.toNat a) (dflt Zb)).1) (.br ((decide ((0:Int)≤i))&&(decide (i < (Int.ofNat (List.length out))))) (.br (List.getD out (Int.toNat i) (dflt .bool)) (.br ((decide ((0:Int)≤i))&&(decide (i < (Int.ofNat (List.length out))))) (.jmp (.l36 is (IntKind.i64.wrap (k+(1:Int))) (List.set out (Int.toNat i) true) i)) (.no)) (.br ((decide ((0:Int)≤k))&&(decide (k < (Int.ofNat (List.length is))))) (.br (List.getD is (Int.toNat k) (dflt .bool)) (.br ((decide ((0:Int)≤k))&&(decide (k < (Int.ofNat (List.length l))))) (.br ((decide ((0:Int)≤i))&&(decide (i < (Int.ofNat (List.length l))))) (.br ((decide ((0:Int)≤i))&&(decide (i < (Int.ofNat (List.length out))))) (.jmp (.l36 is (IntKind.i64.wrap (k+(1:Int))) (List.set out (Int.toNat i) (Zhw (List.getD l (Int.toNat k) (dflt Zb)) (List.getD l (Int.toNat i) (dflt Zb)))) i)) (.no)) (.no)) (.no)) (.br ((decide ((0:Int)≤i))&&(decide (i < (Int.ofNat (List.length out))))) (.jmp (.l36 is (IntKind.i64.wrap (k+(1:Int))) (List.set out (Int.toNat i) false) i)) (.no))) (.no))) (.no)) (.jmp (.l31 is (IntKind.i64.wrap (i+(1:Int))) out))) (.no)) (.no)) (.jmp (.l31 is (IntKind.i64.wrap (i+(1:Int))) out))
def ZrU (p:El Zc) (l:List (El Zb)) (a:Int):JT ZlN (List Bool):=.br ((((Int.ofNat (List.length l))==(Int.ofNat (List.length l)))&&(decide ((0:Int)≤(Int.ofNat (List.length l)))))&&(decide (((Int.ofNat (List.length l))*(1:Int))≤(limit:Int)))) (.br (decide (a < (0:Int))) (.leaf (List.replicate (List.length l) false)) (.br (decide (a≥(Int.ofNat (List.length l)))) (.leaf (List.replicate (List.length l) false)) (.br ((((Int.ofNat (List.length l))==(Int.ofNat (List.length l)))&&(decide ((0:Int)≤(Int.ofNat (List.length l)))))&&(decide (((Int.ofNat (List.length l))*(1:Int))≤(limit:Int)))) (.jmp (.l8 (0:Int) (List.replicate (List.length l) false))) (.no)))) (.no)
def ZpJ:List Bool→AV:=fun (r:List Bool)=>.rw 4 .bool r
def ZgK (p:El Zc) (l:List (El Zb)) (a:Int):ZlN→Nat×St |.l8 i is=>(8,⟨mkTm 161 [(1,.d (.sl Zb) l),(2,.d (.int .i64) a),(3,.pt 4 0 0),(7,.own 8 0 none),(8,.own 9 0 none),(9,.d (.int .i64) i)],[(4,0,.box 27 [.d (.sl Zx) p.1,.d (.sl (.sl Za)) p.2] none),(8,0,.row 4 .bool (List.replicate (List.length l) false) false),(9,0,.row 4 .bool is false)]⟩) |.l14 is moved=>(14,⟨mkTm 161 [(1,.d (.sl Zb) l),(2,.d (.int .i64) a),(3,.pt 4 0 0),(7,.own 8 0 none),(8,.own 9 0 none),(10,.d .bool moved)],[(4,0,.box 27 [.d (.sl Zx) p.1,.d (.sl (.sl Za)) p.2] none),(8,0,.row 4 .bool (List.replicate (List.length l) false) false),(9,0,.row 4 .bool is false)]⟩) |.l19 is i moved=>(19,⟨mkTm 161 [(1,.d (.sl Zb) l),(2,.d (.int .i64) a),(3,.pt 4 0 0),(7,.own 8 0 none),(8,.own 9 0 none),(10,.d .bool moved),(11,.d (.int .i64) i)],[(4,0,.box 27 [.d (.sl Zx) p.1,.d (.sl (.sl Za)) p.2] none),(8,0,.row 4 .bool (List.replicate (List.length l) false) false),(9,0,.row 4 .bool is false)]⟩) |.l24 is moved k i=>(24,⟨mkTm 161 [(1,.d (.sl Zb) l),(2,.d (.int .i64) a),(3,.pt 4 0 0),(7,.own 8 0 none),(8,.own 9 0 none),(10,.d .bool moved),(11,.d (.int .i64) i),(12,.d (.int .i64) k)],[(4,0,.box 27 [.d (.sl Zx) p.1,.d (.sl (.sl Za)) p.2] none),(8,0,.row 4 .bool (List.replicate (List.length l) false) false),(9,0,.row 4 .bool is false)]⟩) |.l31 is i out=>(31,⟨mkTm 161 [(1,.d (.sl Zb) l),(2,.d (.int .i64) a),(7,.own 8 0 none),(8,.own 9 0 none),(13,.d (.int .i64) i)],[(8,0,.row 4 .bool out false),(9,0,.row 4 .bool is false)]⟩) |.l36 is k out i=>(36,⟨mkTm 161 [(1,.d (.sl Zb) l),(2,.d (.int .i64) a),(7,.own 8 0 none),(8,.own 9 0 none),(13,.d (.int .i64) i),(14,.d (.int .i64) k)],[(8,0,.row 4 .bool out false),(9,0,.row 4 .bool is false)]⟩)
theorem ZGF (p:El Zc) (l:List (El Zb)) (a:Int) (L:Lt):entryA Go.Proofs.Tryz.prog (clOf ZuX) Zss Go.Proofs.Tryz.f52 Zqi L (toForms Zho (p,l,a,()))=(ZrU p l a).run (fun v=>some (ZpJ v,tps (toForms Zho (p,l,a,())))) fun j=>L (ZgK p l a j).1 (ZgK p l a j).2:=by kernel_rfl
theorem ZHN (p:El Zc) (l:List (El Zb)) (a:Int):∀(L:Lt) (j:ZlN),procOf (procsF Go.Proofs.Tryz.prog (clOf ZuX) Zss Go.Proofs.Tryz.f52 Zqi (toForms Zho (p,l,a,()))) (ZgK p l a j).1 L (ZgK p l a j).2=(ZaT p l a j).run (fun v=>some (ZpJ v,tps (toForms Zho (p,l,a,())))) fun j=>L (ZgK p l a j).1 (ZgK p l a j).2 | L,.l8 i is=>by kernel_rfl | L,.l14 is moved=>by kernel_rfl | L,.l19 is i moved=>by kernel_rfl | L,.l24 is moved k i=>by kernel_rfl | L,.l31 is i out=>by kernel_rfl | L,.l36 is k out i=>by kernel_rfl
end
end Go.Ev
end

section
open Go
namespace Go.Ev
theorem Zuw (l:List Acc) (i j:Nat):Zhw (accA l i) (accA l j)=clB l i j:=rfl
theorem Zgf {p:El Zc} (h:smallAll p=true) {i:Nat} (hi:i < (ofC p).length):
  0≤thA (ofC p) i∧thA (ofC p) i < (p.2.length:Int)∧flowOK (thrOf p (ofC p) i)=true∧0≤inA (ofC p) i∧inA (ofC p) i < ((thrOf p (ofC p) i).length:Int):=by
 have hA:=smallA h
 have hm:accA (ofC p) i∈ofC p:=by unfold accA;rw[ZG hi];exact List.getElem_mem hi
 obtain ⟨u,x,j,y,h1,h2,h3,h4,h5⟩:=ZHh hm
 have hth:thA (ofC p) i=(u:Int):=h4
 have hin:inA (ofC p) i=(j:Int):=h5
 have hu:=(List.getElem?_eq_some_iff.1 h1).1
 have hj:=(List.getElem?_eq_some_iff.1 h2).1
 have ht:thrOf p (ofC p) i=x:=by
  unfold thrOf
  rw[hth,Int.toNat_natCast,List.getD_eq_getElem?_getD,h1];rfl
 rw[ht]
 exact ⟨by omega,by omega,Zs4 (hA.thr x (List.mem_of_getElem? h1)),by omega,by omega⟩
theorem ZPS {p:El Zc} {i k:Nat} (hi:i < (ofC p).length) (hk:k < (ofC p).length) (e:accA (ofC p) i=accA (ofC p) k):i=k:=by
 have ho:=List.pairwise_iff_getElem.1 (ZOe p)
 have gi:accA (ofC p) i=(ofC p)[i]:=by unfold accA;rw[ZG hi]
 have gk:accA (ofC p) k=(ofC p)[k]:=by unfold accA;rw[ZG hk]
 have irr:∀a:El Zb,¬ltAX a a:=fun a h=>by
  have:∀t k q:Int,¬ltNX t k q t k q:=fun t k q h=>by
   rcases h with h | ⟨_,h | ⟨_,h⟩⟩ <;> omega
  exact this _ _ _ h
 rw[gi,gk] at e
 by_cases h:i=k
 ·exact h
 ·exfalso
  by_cases hl:i < k
  ·have:=ho i k hi hk hl
   rw[e] at this
   exact irr _ this
  ·have:=ho k i hk hi (by omega)
   rw[←e] at this
   exact irr _ this
theorem ZMB {p:El Zc} (h:smallAll p=true) {i k:Nat} (hi:i < (ofC p).length) (hk:k < (ofC p).length):
  Zeh p (accA (ofC p) i) (accA (ofC p) k)=true∧Zej p (accA (ofC p) i) (accA (ofC p) k)=behB p (ofC p) i k:=by
 obtain ⟨i0,i1,i2,i3,i4⟩:=Zgf h hi
 obtain ⟨k0,k1,k2,k3,k4⟩:=Zgf h hk
 have hinj:=fun e=>ZPS hi hk e
 have a1:(accA (ofC p) i).1=thA (ofC p) i:=rfl
 have a2:(accA (ofC p) i).2.1=inA (ofC p) i:=rfl
 have a3:(accA (ofC p) i).2.2.1=paA (ofC p) i:=rfl
 have b1:(accA (ofC p) k).1=thA (ofC p) k:=rfl
 have b2:(accA (ofC p) k).2.1=inA (ofC p) k:=rfl
 have b3:(accA (ofC p) k).2.2.1=paA (ofC p) k:=rfl
 have ht:List.getD p.2 (Int.toNat (thA (ofC p) i)) (dflt (.sl Za))=thrOf p (ofC p) i:=rfl
 have kf:Zch (thrOf p (ofC p) i) (inA (ofC p) i)=true:=i2
 have vf:Zaq (thrOf p (ofC p) i) (inA (ofC p) i)=rowOf (thrOf p (ofC p) i).length (fromB (thrOf p (ofC p) i) (inA (ofC p) i)):=rfl
 have htri:(decide ((0:Int)≤thA (ofC p) i)&&decide (thA (ofC p) i < Int.ofNat p.2.length))=true:=by
  rw[Bool.and_eq_true,decide_eq_true_eq,decide_eq_true_eq];exact ⟨i0,i1⟩
 unfold Zeh Zej behB
 rw[decide_eq_true hk,Bool.true_and]
 simp only[a1,a2,a3,b1,b2,b3,ht,kf,vf,htri,cond_true,ZK]
 by_cases e1:thA (ofC p) i=thA (ofC p) k
 ·have htk:thrOf p (ofC p) k=thrOf p (ofC p) i:=by unfold thrOf;rw[e1]
  rw[htk] at k4
  have hbr:(decide ((0:Int)≤inA (ofC p) k)&&decide (inA (ofC p) k < Int.ofNat (thrOf p (ofC p) i).length))=true:=by
   rw[Bool.and_eq_true,decide_eq_true_eq,decide_eq_true_eq];exact ⟨k3,k4⟩
  have hrow:List.getD (rowOf (thrOf p (ofC p) i).length (fromB (thrOf p (ofC p) i) (inA (ofC p) i))) (inA (ofC p) k).toNat (dflt .bool)=fromB (thrOf p (ofC p) i) (inA (ofC p) i) (inA (ofC p) k).toNat:=Zbv (by omega)
  have hb2:decide (inA (ofC p) k < Int.ofNat (thrOf p (ofC p) i).length)=true:=decide_eq_true k4
  simp only[hb2,hrow,cond_true,e1,bne_self_eq_false,beq_self_eq_true,cond_false,Bool.true_and,decide_eq_true k3]
  by_cases e2:k=i
  ·subst e2
   simp
  ·have hne:accA (ofC p) i≠accA (ofC p) k:=fun e=>e2 (hinj e).symm
   have hstr:((accA (ofC p) i).2.1==(accA (ofC p) k).2.1&&((accA (ofC p) i).2.2.1==(accA (ofC p) k).2.2.1&&((accA (ofC p) i).2.2.2.1==(accA (ofC p) k).2.2.2.1&&((accA (ofC p) i).2.2.2.2.1==(accA (ofC p) k).2.2.2.2.1&&(accA (ofC p) i).2.2.2.2.2==(accA (ofC p) k).2.2.2.2.2))))=false:=by
    rw[←Bool.not_eq_true]
    simp only[Bool.and_eq_true,beq_iff_eq]
    rintro ⟨h1,h2,h3,h4,h5⟩
    exact hne (Prod.ext e1 (Prod.ext h1 (Prod.ext h2 (Prod.ext h3 (Prod.ext h4 h5)))))
   rw[a2,a3,b2,b3] at hstr
   have e2b:(k==i)=false:=by simpa using e2
   simp only[hstr,e2b,cond_false,Bool.false_or]
   by_cases e3:inA (ofC p) i=inA (ofC p) k
   ·rw[e3]
    simp only[beq_self_eq_true,cond_true,Bool.true_and]
    cases hq:decide (paA (ofC p) k > paA (ofC p) i) <;> simp
   ·have e3b:(inA (ofC p) i==inA (ofC p) k)=false:=by simpa using e3
    have e3c:(inA (ofC p) k==inA (ofC p) i)=false:=by simpa using fun e=>e3 e.symm
    simp only[e3b,e3c,cond_false,Bool.false_and,Bool.false_or,and_self]
 ·have e1b:(thA (ofC p) i !=thA (ofC p) k)=true:=by simpa using e1
  have e1c:(thA (ofC p) k==thA (ofC p) i)=false:=by simpa using fun e=>e1 e.symm
  simp only[e1b,e1c,cond_true,Bool.false_and,and_self]
end Go.Ev
end

section
open Go
namespace Go.Ev
noncomputable def Zc4 (p:El Zc) (l:List (El Zb)) (a:Int):List Bool:=rowOf l.length fun b=>decide (0≤a∧a < (l.length:Int))&&backB p l a.toNat b
def Ziq (p:El Zc) (l:List (El Zb)) (a:Int):Bool:=smallAll p&&same (.sl Zb) l (ofC p)
theorem ZOY {P:Nat→Bool} {k:Nat} :(List.range (k+1)).any P=((List.range k).any P || P k):=by
 rw[List.range_succ,List.any_append];simp
theorem ZK6 (p:El Zc) (l:List (El Zb)) (a:Int) (hk:Ziq p l a=true):Goes (ZaT p l a) (ZrU p l a) (Zc4 p l a):=by
 unfold Ziq at hk
 rw[Bool.and_eq_true] at hk
 obtain ⟨hs,hsame⟩:=hk
 have hl:=ZLT.1 hsame
 have hN:=ZNb hs
 rw[←hl] at hN
 have hfol:∀i k,i < l.length→k < l.length→Zeh p (accA l i) (accA l k)=true∧Zej p (accA l i) (accA l k)=behB p l i k:=fun i k hi hk=>by
  rw[hl] at*
  exact ZMB hs hi hk
 have hmk:((((Int.ofNat (List.length l))==(Int.ofNat (List.length l)))&&(decide ((0:Int)≤(Int.ofNat (List.length l)))))&&(decide (((Int.ofNat (List.length l))*(1:Int))≤(limit:Int))))=true:=by
  simp[limit];omega
 obtain ⟨n,hn⟩:∃n,l.length=n:=⟨_,rfl⟩
 have none:¬(0≤a∧a < (n:Int))→List.replicate n false=Zc4 p l a:=fun h=>by
  unfold Zc4
  rw[hn,Zot]
  exact Z3 fun i _=>by rw[decide_eq_false h];rfl
 obtain ⟨T,hT⟩:∃T,T=ZaT p l a:=⟨_,rfl⟩
 rw[←hT]
 unfold ZrU
 rw[hn] at hN hfol hmk ⊢
 rw[Ze,if_pos hmk,Ze]
 by_cases h0:a < 0
 ·rw[if_pos (decide_eq_true h0),none (fun h=>by omega)];exact .leaf
 rw[if_neg (by simpa using h0),Ze]
 by_cases h1:a≥Int.ofNat n
 ·rw[if_pos (decide_eq_true h1),none (fun h=>by simp at h1;omega)];exact .leaf
 obtain ⟨a,rfl⟩:=Int.eq_ofNat_of_zero_le (show 0≤a by omega)
 have ha:a < n:=by simp at h1;omega
 rw[if_neg (by simpa using h1),Ze,if_pos hmk]
 have hval:Zc4 p l (a:Int)=rowOf n (backB p l a):=by
  unfold Zc4
  rw[hn]
  exact Z3 fun i _=>by rw[decide_eq_true ⟨by omega,by omega⟩,Int.toNat_natCast];rfl
 rw[hval]
 have ea:List.getD l a (dflt Zb)=accA l a:=rfl
 have nn:(List.length l)=n:=hn
 have out:Goes T (.jmp (.l31 (rowOf n (isB p l a)) (0:Int) (List.replicate n false))) (rowOf n (backB p l a)):=by
  have outer:∀i,i≤n→Goes T (.jmp (.l31 (rowOf n (isB p l a)) (i:Int) (rowOf n fun j=>decide (j < i)&&backB p l a j))) (rowOf n (backB p l a)):=by
   refine down ?_ fun i hi ih=>?_
   ·rw[Zi,hT,ZaT,←hT,Ze,nn,if_neg (by simp)]
    rw[show (rowOf n fun j=>decide (j < n)&&backB p l a j)=rowOf n (backB p l a) from Z3 fun j hj=>by rw[decide_eq_true hj];rfl]
    exact .leaf
   ·have inner:∀k,k≤n→thA l i=thA l a→Goes T (.jmp (.l36 (rowOf n (isB p l a)) (k:Int) (rowOf n fun j=>if j=i then (List.range k).any (fun q=>isB p l a q&&clB l q i) else decide (j < i)&&backB p l a j) (i:Int))) (rowOf n (backB p l a)):=by
     refine down ?_ fun k hk ih2=>?_
     ·intro ht
      rw[Zi,hT,ZaT,←hT,Ze,nn,if_neg (by simp),Zs (by omega)]
      rw[show (rowOf n fun j=>if j=i then (List.range n).any (fun q=>isB p l a q&&clB l q i) else decide (j < i)&&backB p l a j)=(rowOf n fun j=>decide (j < i+1)&&backB p l a j) from Z3 fun j hj=>by
       by_cases e:j=i
       ·subst e
        rw[if_pos rfl,decide_eq_true (by omega),Bool.true_and]
        unfold backB
        rw[ht,beq_self_eq_true,Bool.true_and,hn]
       ·rw[if_neg e]
        by_cases e2:j < i
        ·rw[decide_eq_true e2,decide_eq_true (by omega)]
        ·rw[decide_eq_false e2,decide_eq_false (by omega)]]
      exact ih
     ·intro ht
      have hrow:∀M:Nat→Bool,List.getD (rowOf n M) i (dflt .bool)=M i:=fun M=>Zbv hi
      have hrk:List.getD (rowOf n (isB p l a)) k (dflt .bool)=isB p l a k:=Zbv hk
      have et:((accA l i).1==(accA l a).1)=true:=by show (thA l i==thA l a)=true;rw[ht];simp
      have ei:List.getD l i (dflt Zb)=accA l i:=rfl
      have ek:List.getD l k (dflt Zb)=accA l k:=rfl
      have lt1:∀ {x:Nat},x < n→decide ((x:Int) < Int.ofNat n)=true:=fun h=>decide_eq_true (by simpa using h)
      have key:∀b,b=((List.range (k+1)).any fun q=>isB p l a q&&clB l q i)→Goes T (.jmp (.l36 (rowOf n (isB p l a)) ((k+1:Nat):Int) ((rowOf n fun j=>if j=i then (List.range k).any (fun q=>isB p l a q&&clB l q i) else decide (j < i)&&backB p l a j).set i b) (i:Int))) (rowOf n (backB p l a)):=fun b hb=>by
       rw[ZBa,show (rowOf n fun j=>if j=i then b else if j=i then (List.range k).any (fun q=>isB p l a q&&clB l q i) else decide (j < i)&&backB p l a j)=(rowOf n fun j=>if j=i then (List.range (k+1)).any (fun q=>isB p l a q&&clB l q i) else decide (j < i)&&backB p l a j) from Z3 fun j _=>by
        by_cases e:j=i
        ·rw[if_pos e,if_pos e,hb]
        ·rw[if_neg e,if_neg e,if_neg e]]
       exact ih2 ht
      rw[ZOY] at key
      rw[Zi,hT,ZaT,←hT]
      simp only[Ze,nn,ZK,lt1 hk,lt1 hi,lt1 ha,nng,Bool.and_self,if_true,Int.toNat_natCast,ei,ek,ea,et,hrow,hrk,Zuw,Zs (k:=k) (by omega)]
      generalize hq:((List.range k).any fun q=>isB p l a q&&clB l q i)=q at*
      cases q with
      | true=>
       rw[if_pos rfl]
       exact key true (by simp)
      | false=>
       rw[if_neg (by decide)]
       cases hb:isB p l a k with
       | true=>
        rw[if_pos rfl]
        exact key _ (by rw[hb];simp)
       | false=>
        rw[if_neg (by decide)]
        exact key false (by rw[hb];simp)
    rw[Zi,hT,ZaT,←hT,Ze,nn,if_pos (decide_eq_true (by simpa using hi))]
    by_cases ht:thA l i=thA l a
    ·have:=inner 0 (Nat.zero_le _) ht
     rw[show (rowOf n fun j=>if j=i then (List.range 0).any (fun q=>isB p l a q&&clB l q i) else decide (j < i)&&backB p l a j)=(rowOf n fun j=>decide (j < i)&&backB p l a j) from Z3 fun j _=>by
      by_cases e:j=i
      ·subst e;simp
      ·rw[if_neg e]] at this
     exact this
    ·have lt1:∀ {x:Nat},x < n→decide ((x:Int) < Int.ofNat n)=true:=fun h=>decide_eq_true (by simpa using h)
     have et:((accA l i).1==(accA l a).1)=false:=by show (thA l i==thA l a)=false;simpa using ht
     have ei:List.getD l i (dflt Zb)=accA l i:=rfl
     have hlt0:decide ((0:Int) < Int.ofNat n)=true:=decide_eq_true (by simp;omega)
     rw[Zi,hT,ZaT,←hT]
     simp only[Ze,nn,hlt0,lt1 hi,lt1 ha,nng,Bool.and_self,if_true,Int.toNat_natCast,ei,ea,et,Bool.false_eq_true,if_false,Zs (k:=i) (by omega)]
     rw[show (rowOf n fun j=>decide (j < i)&&backB p l a j)=(rowOf n fun j=>decide (j < i+1)&&backB p l a j) from Z3 fun j _=>by
      by_cases e:j=i
      ·subst e
       have:backB p l a j=false:=by unfold backB;rw[show (thA l j==thA l a)=false by simpa using ht];rfl
       rw[this,Bool.and_false,Bool.and_false]
      ·by_cases e2:j < i
       ·rw[decide_eq_true e2,decide_eq_true (by omega)]
       ·rw[decide_eq_false e2,decide_eq_false (by omega)]]
     exact ih
  have:=outer 0 (Nat.zero_le _)
  rw[show (rowOf n fun j=>decide (j < 0)&&backB p l a j)=List.replicate n false from by
   rw[Zot];exact Z3 fun j _=>by simp] at this
  exact this
 let OK:(Nat→Bool)→(Nat→Bool)→Bool→Prop:=fun M0 M moved=>(∀j,chS l a j=true→M j=true)∧(∀j,M j=true→Come (chB p l a) (chS l a) j)∧(moved=false→M=M0)∧(moved=true→card n M0 < card n M)
 have lt1:∀ {x:Nat},x < n→decide ((x:Int) < Int.ofNat n)=true:=fun h=>decide_eq_true (by simpa using h)
 have hMlt:∀ {M:Nat→Bool},(∀j,M j=true→Come (chB p l a) (chS l a) j)→∀j,M j=true→j < n:=fun h j hj=>by
  have:=ZQB (p:=p) (l:=l) (a:=a) (ZcI.2 (h j hj))
  omega
 have loop:∀m,∀M:Nat→Bool,n - card n M=m→(∀j,chS l a j=true→M j=true)→(∀j,M j=true→Come (chB p l a) (chS l a) j)→Goes T (.jmp (.l14 (rowOf n M) true)) (rowOf n (backB p l a)):=by
  intro m
  induction m using Nat.strongRecOn with
  | _ m ih=>
  intro M0 hm hA hC
  have inner:∀i,i < n→∀Z:Prop,(∀M moved,OK M0 M moved→(moved=false→Z∧(M0 i=true→∀j,chB p l a i j=true→M0 j=true))→Goes T (.jmp (.l19 (rowOf n M) ((i+1:Nat):Int) moved)) (rowOf n (backB p l a)))→
    ∀k,k≤n→∀M moved,OK M0 M moved→(moved=false→Z∧∀x,x < k→M0 i=true→chB p l a i x=true→M0 x=true)→Goes T (.jmp (.l24 (rowOf n M) moved (k:Int) (i:Int))) (rowOf n (backB p l a)):=by
   intro i hi Z hz
   refine down ?_ fun k hk ih2=>?_
   ·intro M moved hok hcl
    rw[Zi,hT,ZaT,←hT,Ze,nn,if_neg (by simp),Zs (by omega)]
    refine hz M moved hok fun hm=>⟨(hcl hm).1,fun h1 j hj=>(hcl hm).2 j ?_ h1 hj⟩
    unfold chB at hj
    simp only[Bool.and_eq_true,decide_eq_true_eq] at hj
    omega
   ·intro M moved hok hcl
    obtain ⟨f1,f2⟩:=hfol i k hi hk
    have hri:List.getD (rowOf n M) i (dflt .bool)=M i:=Zbv hi
    have hrk:List.getD (rowOf n M) k (dflt .bool)=M k:=Zbv hk
    have ei:List.getD l i (dflt Zb)=accA l i:=rfl
    have ek:List.getD l k (dflt Zb)=accA l k:=rfl
    have tk:(accA l k).1=thA l k:=rfl
    have ta:(accA l a).1=thA l a:=rfl
    rw[Zi,hT,ZaT,←hT]
    simp only[Ze,nn,ZK,lt1 hk,lt1 hi,lt1 ha,nng,Bool.and_self,if_true,Int.toNat_natCast,ei,ek,ea,hri,hrk,Zuw,f1,f2,tk,ta,Zs (k:=k) (by omega),Zs (k:=i) (by omega)]
    cases hMi:M i with
    | false=>
     rw[if_neg (by decide)]
     refine hz M moved hok fun hm=>⟨(hcl hm).1,fun h1=>?_⟩
     rw[←hok.2.2.1 hm,hMi] at h1;cases h1
    | true=>
     rw[if_pos rfl]
     cases hMk:M k with
     | true=>
      rw[if_neg (by decide)]
      refine ih2 M moved hok fun hm=>⟨(hcl hm).1,fun x hx h1 h2=>?_⟩
      by_cases e:x=k
      ·subst e;rw[←hok.2.2.1 hm];exact hMk
      ·exact (hcl hm).2 x (by omega) h1 h2
     | false=>
      rw[if_pos (by decide)]
      have skip:chB p l a i k=false→Goes T (.jmp (.l24 (rowOf n M) moved ((k+1:Nat):Int) (i:Int))) (rowOf n (backB p l a)):=fun hc=>ih2 M moved hok fun hm=>⟨(hcl hm).1,fun x hx h1 h2=>by
       by_cases e:x=k
       ·subst e;rw[hc] at h2;cases h2
       ·exact (hcl hm).2 x (by omega) h1 h2⟩
      have set:chB p l a i k=true→Goes T (.jmp (.l24 ((rowOf n M).set k true) true ((k+1:Nat):Int) (i:Int))) (rowOf n (backB p l a)):=fun hc=>by
       have hca:=Zmz hMk hk
       rw[Zr6]
       refine ih2 _ true ⟨fun x hx=>(show (M x || (x==k))=true by rw[hok.1 x hx];rfl),fun x hx=>?_,fun h=>(by cases h),fun _=>?_⟩ (fun h=>by cases h)
       ·simp only[Bool.or_eq_true,beq_iff_eq] at hx
        rcases hx with hx | hx
        ·exact hok.2.1 x hx
        ·subst hx;exact .step (hok.2.1 i hMi) hc
       ·cases moved with
        | true=>have:=hok.2.2.2 rfl;omega
        | false=>rw[hok.2.2.1 rfl] at hca;rw[hok.2.2.1 rfl];omega
      have hce:chB p l a i k=(!(thA l k==thA l a)&&(clB l i k || behB p l i k)):=by unfold chB;rw[hn,decide_eq_true hk,Bool.true_and]
      by_cases c1:thA l k=thA l a
      ·rw[if_neg (by simp[c1])]
       exact skip (by rw[hce];simp[c1])
      ·rw[if_pos (by simpa using c1)]
       have c1b:(thA l k==thA l a)=false:=by simpa using c1
       rw[c1b] at hce
       cases c2:clB l i k with
       | true=>
        rw[if_pos rfl]
        exact set (by rw[hce,c2];rfl)
       | false=>
        rw[if_neg (by decide)]
        cases c3:behB p l i k with
        | true=>
         rw[if_pos rfl]
         exact set (by rw[hce,c2,c3];rfl)
        | false=>
         rw[if_neg (by decide)]
         exact skip (by rw[hce,c2,c3];rfl)
  have pass:∀i,i≤n→∀M moved,OK M0 M moved→(moved=false→∀i' j,i' < i→M0 i'=true→chB p l a i' j=true→M0 j=true)→Goes T (.jmp (.l19 (rowOf n M) (i:Int) moved)) (rowOf n (backB p l a)):=by
   refine down ?_ fun i hi ih2=>?_
   ·intro M moved hok hcl
    rw[Zi,hT,ZaT,←hT,Ze,nn,if_neg (by simp)]
    cases moved with
    | true=>
     have h1:=hok.2.2.2 rfl
     have h2:= @Ze1 n M
     exact ih (n - card n M) (by omega) M rfl hok.1 hok.2.1
    | false=>
     have e:=hok.2.2.1 rfl
     subst e
     rw[Zi,hT,ZaT,←hT,Ze,if_neg (by decide),nn]
     rw[show rowOf n M=rowOf n (isB p l a) from Z3 fun j _=>Zpk hok.1 (fun k j hk hj=>hcl rfl k j (hMlt hok.2.1 k hk) hk hj) hok.2.1 j]
     exact out
   ·intro M moved hok hcl
    rw[Zi,hT,ZaT,←hT,Ze,nn,if_pos (lt1 hi)]
    refine inner i hi (∀i' j,i' < i→M0 i'=true→chB p l a i' j=true→M0 j=true) (fun M' moved' hok' hcl'=>ih2 M' moved' hok' fun hm i' j hi' h1 hj=>?_) 0 (Nat.zero_le _) M moved hok (fun hm=>⟨hcl hm,fun x hx=>by omega⟩)
    by_cases e:i'=i
    ·subst e;exact (hcl' hm).2 h1 j hj
    ·exact (hcl' hm).1 i' j (by omega) h1 hj
  rw[Zi,hT,ZaT,←hT,Ze,if_pos rfl]
  exact pass 0 (Nat.zero_le _) M0 false ⟨hA,hC,fun _=>rfl,fun h=>by cases h⟩ fun _ i' j h=>by omega
 have start:∀i,i≤n→Goes T (.jmp (.l8 (i:Int) (rowOf n fun j=>decide (j < i)&&chS l a j))) (rowOf n (backB p l a)):=by
  refine down ?_ fun i hi ih=>?_
  ·rw[Zi,hT,ZaT,←hT,Ze,nn,if_neg (by simp)]
   rw[show (rowOf n fun j=>decide (j < n)&&chS l a j)=rowOf n (chS l a) from Z3 fun j hj=>by rw[decide_eq_true hj];rfl]
   exact loop _ (chS l a) rfl (fun j h=>h) (fun j h=>.start h)
  ·have ei:List.getD l i (dflt Zb)=accA l i:=rfl
   rw[Zi,hT,ZaT,←hT]
   simp only[Ze,nn,ZK,lt1 hi,lt1 ha,nng,Bool.and_self,if_true,Int.toNat_natCast,ei,ea,Zuw,Zs (k:=i) (by omega)]
   rw[ZBa,show (rowOf n fun j=>if j=i then clB l a i else decide (j < i)&&chS l a j)=(rowOf n fun j=>decide (j < i+1)&&chS l a j) from Z3 fun j hj=>by
    by_cases e:j=i
    ·subst e
     rw[if_pos rfl,decide_eq_true (by omega),Bool.true_and]
     unfold chS
     rw[hn,decide_eq_true hj,Bool.true_and]
    ·rw[if_neg e]
     by_cases e2:j < i
     ·rw[decide_eq_true e2,decide_eq_true (by omega)]
     ·rw[decide_eq_false e2,decide_eq_false (by omega)]]
   exact ih
 have:=start 0 (Nat.zero_le _)
 rw[show (rowOf n fun j=>decide (j < 0)&&chS l a j)=List.replicate n false from by
  rw[Zot];exact Z3 fun j _=>by simp] at this
 exact this
end Go.Ev
end

section
open Go Go.Ev
namespace Go.Ev
noncomputable section
noncomputable def ZAJ:Run:=entG Zho ZpJ (fun a=>Ziq a.1 a.2.1 a.2.2.1) (fun a=>Zc4 a.1 a.2.1 a.2.2.1)
theorem ZHD:EntOK Go.Proofs.Tryz.prog 52 ZAJ:=ZJ (tb:=Zss) (c:=Zqi) ZGK (by kernel_rfl) (by kernel_rfl) (by kernel_rfl) (fun a=>by kernel_rfl) fun ⟨p,l,a,_⟩ hk=>Zn (c:=Zqi) (K:=fun v=>(ZpJ v,tps (toForms Zho (p,l,a,())))) (S:=ZgK p l a) (by kernel_rfl) (ZGF p l a) (ZHN p l a) (ZK6 p l a hk)
end
end Go.Ev
end

section
open Go Go.Ev
namespace Go.Ev
noncomputable section
def Zd8:Sig:=[(true,Zc)]
noncomputable def Zo6:Tbl:=[(50,Zra),(51,Zut),(52,ZAJ)]
theorem ZBH:∀p∈Zo6,EntOK Go.Proofs.Tryz.prog p.1 p.2:=Zg Zzb (Zg ZxJ (Zg ZHD (Zu)))
noncomputable def Zki:Code:=Go.Proofs.Tryz.f29.body.getD .skip
def ZnQ:Tb:=[(5,⟨[1,3,4,5],[(5,122)]⟩),(13,⟨[1,3,4,5,6,7],[(5,122)]⟩)]
inductive Zie where | l5 (s:Int) (out:List (El Zd)) | l13 (behind:List Bool) (s:Int) (r:Int) (out:List (El Zd))
def ZbC (p:El Zc):Zie→JT Zie (List (El Zd)) |.l5 s out=>.br (decide (s < (Int.ofNat (List.length (Zt p))))) (.br ((decide ((0:Int)≤s))&&(decide (s < (Int.ofNat (List.length (Zt p)))))) (.br (! (List.getD (Zt p) (Int.toNat s) (dflt Zb)).2.2.2.2.1) (.jmp (.l5 (IntKind.i64.wrap (s+(1:Int))) out)) (.br ((decide ((0:Int)≤s))&&(decide (s < (Int.ofNat (List.length (Zt p)))))) (.br (List.getD (Zt p) (Int.toNat s) (dflt Zb)).2.2.2.2.2 (.jmp (.l5 (IntKind.i64.wrap (s+(1:Int))) out)) (.br ((decide ((0:Int)≤s))&&(decide (s < (Int.ofNat (List.length (Zt p)))))) (.br ((decide ((0:Int)≤(List.getD (Zt p) (Int.toNat s) (dflt Zb)).1))&&(decide ((List.getD (Zt p) (Int.toNat s) (dflt Zb)).1 < (Int.ofNat (List.length p.2))))) (.br ((decide ((0:Int)≤s))&&(decide (s < (Int.ofNat (List.length (Zt p)))))) (.br (Zch (List.getD p.2 (Int.toNat (List.getD (Zt p) (Int.toNat s) (dflt Zb)).1) (dflt (.sl Za))) (List.getD (Zt p) (Int.toNat s) (dflt Zb)).2.1) (.jmp (.l13 (Zaq (List.getD p.2 (Int.toNat (List.getD (Zt p) (Int.toNat s) (dflt Zb)).1) (dflt (.sl Za))) (List.getD (Zt p) (Int.toNat s) (dflt Zb)).2.1) s (0:Int) out)) (.no)) (.no)) (.no)) (.no))) (.no))) (.no)) (.leaf out) |.l13 behind s r out=>.br (decide (r < (Int.ofNat (List.length (Zt p))))) (.br ((decide ((0:Int)≤r))&&(decide (r < (Int.ofNat (List.length (Zt p)))))) (.br ((decide ((0:Int)≤s))&&(decide (s < (Int.ofNat (List.length (Zt p)))))) (.br ((List.getD (Zt p) (Int.toNat r) (dflt Zb)).1==(List.getD (Zt p) (Int.toNat s) (dflt Zb)).1) (.br ((decide ((0:Int)≤r))&&(decide (r < (Int.ofNat (List.length (Zt p)))))) (.br (! (List.getD (Zt p) (Int.toNat r) (dflt Zb)).2.2.2.2.1) (.br ((decide ((0:Int)≤r))&&(decide (r < (Int.ofNat (List.length (Zt p)))))) (.br (! (List.getD (Zt p) (Int.toNat r) (dflt Zb)).2.2.2.2.2) (.br ((decide ((0:Int)≤r))&&(decide (r < (Int.ofNat (List.length (Zt p)))))) (.br ((decide ((0:Int)≤(List.getD (Zt p) (Int.toNat r) (dflt Zb)).2.1))&&(decide ((List.getD (Zt p) (Int.toNat r) (dflt Zb)).2.1 < (Int.ofNat (List.length behind))))) (.br (List.getD behind (Int.toNat (List.getD (Zt p) (Int.toNat r) (dflt Zb)).2.1) (dflt .bool)) (.br (Ziq p (Zt p) r) (.br ((decide ((0:Int)≤s))&&(decide (s < (Int.ofNat (List.length (Zc4 p (Zt p) r)))))) (.br (List.getD (Zc4 p (Zt p) r) (Int.toNat s) (dflt .bool)) (.br ((decide ((0:Int)≤s))&&(decide (s < (Int.ofNat (List.length (Zt p)))))) (.br ((decide ((0:Int)≤s))&&(decide (s < (Int.ofNat (List.length (Zt p)))))) (.br ((decide ((0:Int)≤r))&&(decide (r < (Int.ofNat (List.length (Zt p)))))) (.br (Nat.ble (((List.length out)+1)*24) limit) (.jmp (.l13 behind s (IntKind.i64.wrap (r+(1:Int))) (out++[((List.getD (Zt p) (Int.toNat s) (dflt Zb)).1,((List.getD (Zt p) (Int.toNat s) (dflt Zb)).2.1,(List.getD (Zt p) (Int.toNat r) (dflt Zb)).2.1))]))) (.no)) (.no)) (.no)) (.no)) (.jmp (.l13 behind s (IntKind.i64.wrap (r+(1:Int))) out))) (.no)) (.no)) (.jmp (.l13 behind s (IntKind.i64.wrap (r+(1:Int))) out))) (.no)) (.no)) (.jmp (.l13 behind s (IntKind.i64.wrap (r+(1:Int))) out))) (.no)) (.jmp (.l13 behind s (IntKind.i64.wrap (r+(1:Int))) out))) (.no)) (.jmp (.l13 behind s (IntKind.i64.wrap (r+(1:Int))) out))) (.no)) (.no)) (.jmp (.l5 (IntKind.i64.wrap (s+(1:Int))) out))
def Zny (p:El Zc):JT Zie (List (El Zd)):=.br (Zig p) (.jmp (.l5 (0:Int) [])) (.no)
def Zj6:List (El Zd)→AV:=fun (r:List (El Zd))=>.rw 67 Zd r
def ZdQ (p:El Zc):Zie→Nat×St |.l5 s out=>(5,⟨mkTm 116 [(1,.pt 2 0 0),(3,.own 4 0 none),(4,.own 5 0 none),(5,.d (.int .i64) s)],[(2,0,.box 27 [.d (.sl Zx) p.1,.d (.sl (.sl Za)) p.2] none),(4,0,.row 84 Zb (Zt p) false),(5,0,.row 67 Zd out false)]⟩) |.l13 behind s r out=>(13,⟨mkTm 116 [(1,.pt 2 0 0),(3,.own 4 0 none),(4,.own 5 0 none),(5,.d (.int .i64) s),(6,.own 7 0 none),(7,.d (.int .i64) r)],[(2,0,.box 27 [.d (.sl Zx) p.1,.d (.sl (.sl Za)) p.2] none),(4,0,.row 84 Zb (Zt p) false),(5,0,.row 67 Zd out false),(7,0,.row 4 .bool behind false)]⟩)
theorem ZBV (p:El Zc) (L:Lt):entryA Go.Proofs.Tryz.prog (clOf Zo6) ZnQ Go.Proofs.Tryz.f29 Zki L (toForms Zd8 (p,()))=(Zny p).run (fun v=>some (Zj6 v,tps (toForms Zd8 (p,())))) fun j=>L (ZdQ p j).1 (ZdQ p j).2:=by kernel_rfl
theorem ZCj (p:El Zc):∀(L:Lt) (j:Zie),procOf (procsF Go.Proofs.Tryz.prog (clOf Zo6) ZnQ Go.Proofs.Tryz.f29 Zki (toForms Zd8 (p,()))) (ZdQ p j).1 L (ZdQ p j).2=(ZbC p j).run (fun v=>some (Zj6 v,tps (toForms Zd8 (p,())))) fun j=>L (ZdQ p j).1 (ZdQ p j).2 | L,.l5 s out=>by kernel_rfl | L,.l13 behind s r out=>by kernel_rfl
end
end Go.Ev
end

section
open Go
namespace Go.Ev
def stB' (l:List Acc) (s:Nat):Bool:=(accA l s).2.2.2.2.1&& ! (accA l s).2.2.2.2.2
def ldB' (l:List Acc) (s:Nat):Bool:=! (accA l s).2.2.2.2.1&& ! (accA l s).2.2.2.2.2
noncomputable def delB (p:El Zc) (l:List Acc) (s r:Nat):Bool:=((thA l r==thA l s)&&ldB' l r)&&(fromB (thrOf p l s) (inA l s) (inA l r).toNat&&backB p l r s)
def delPair (l:List Acc) (s r:Nat):El Zd:=(thA l s,(inA l s,inA l r))
noncomputable def delS (p:El Zc) (l:List Acc) (s:Nat):List (El Zd):=if stB' l s then ((List.range' 0 l.length).filter fun r=>delB p l s r).map (delPair l s) else []
noncomputable def delsFrom (p:El Zc) (l:List Acc) (s:Nat):List (El Zd):=(List.range' s (l.length - s)).flatMap (delS p l)
noncomputable def ZH (p:El Zc):List (El Zd):=delsFrom p (ofC p) 0
def Zbl (p:El Zc):Bool:=smallAll p&&decide ((ofC p).length < 1000000)
theorem ZLS (p:El Zc) (l:List Acc) (s:Nat):(delS p l s).length≤l.length:=by
 unfold delS
 split
 ·rw[List.length_map]
  have:=List.length_filter_le (fun r=>delB p l s r) (List.range' 0 l.length)
  rw[List.length_range'] at this
  exact this
 ·exact Nat.zero_le _
theorem ZGo (p:El Zc) (hk:Zbl p=true):Goes (ZbC p) (Zny p) (ZH p):=by
 unfold Zbl at hk
 rw[Bool.and_eq_true] at hk
 obtain ⟨hs,hN⟩:=hk
 have hN:=of_decide_eq_true hN
 have kt:Zig p=true:=hs
 have vt:Zt p=ofC p:=rfl
 have facts:=fun i=>Zgf (i:=i) hs
 have same_th:∀i k,thA (ofC p) k=thA (ofC p) i→thrOf p (ofC p) k=thrOf p (ofC p) i:=fun i k h=>by unfold thrOf;rw[h]
 have kb:∀r,Ziq p (ofC p) r=true:=fun r=>by unfold Ziq;rw[hs,ZLT.2 rfl];rfl
 have vb:∀r:Nat,r < (ofC p).length→Zc4 p (ofC p) (r:Int)=rowOf (ofC p).length fun b=>backB p (ofC p) r b:=fun r hr=>by
  unfold Zc4
  rw[Int.toNat_natCast]
  exact Z3 fun i _=>by rw[decide_eq_true ⟨Int.natCast_nonneg r,Int.ofNat_lt.2 hr⟩,Bool.true_and]
 obtain ⟨l,hl⟩:∃l,ofC p=l:=⟨_,rfl⟩
 rw[hl] at hN vt facts kb vb same_th
 have outer:∀s,s≤l.length→∀out:List (El Zd),out.length≤s*l.length→Goes (ZbC p) (.jmp (.l5 (s:Int) out)) (out++delsFrom p l s):=by
  refine down ?_ fun s hsl ih=>?_
  ·intro out ho
   rw[Zi,ZbC,vt,Ze,if_neg (by rw[Zw (Nat.lt_irrefl _)];decide)]
   unfold delsFrom
   rw[Nat.sub_self]
   simp only[List.range'_zero,List.flatMap_nil,List.append_nil]
   exact .leaf
  ·intro out ho
   have e:delsFrom p l s=delS p l s++delsFrom p l (s+1):=by
    unfold delsFrom
    rw[show l.length - s=(l.length - (s+1))+1 by omega,List.range'_succ,List.flatMap_cons]
   have ga:List.getD l s (dflt Zb)=accA l s:=rfl
   have goon:∀o2,o2=out++delS p l s→Goes (ZbC p) (.jmp (.l5 (((s+1:Nat)):Int) o2)) (out++delsFrom p l s):=fun o2 ho2=>by
    have:=ih (out++delS p l s) (by
     rw[List.length_append]
     have:=ZLS p l s
     rw[Nat.add_mul];omega)
    rw[e,←List.append_assoc,ho2]
    exact this
   rw[Zi,ZbC,vt]
   simp only[Ze,ZQ hsl,nng,Bool.and_self,if_true,Int.toNat_natCast,ga,Zs (k:=s) (by omega)]
   by_cases c1:(! (accA l s).2.2.2.2.1)=true
   ·rw[if_pos c1]
    refine goon out ?_
    unfold delS stB'
    rw[if_neg (by rw[Bool.not_eq_true'] at c1;rw[c1,Bool.false_and];exact Bool.false_ne_true),List.append_nil]
   rw[if_neg c1]
   by_cases c2:(accA l s).2.2.2.2.2=true
   ·rw[if_pos c2]
    refine goon out ?_
    unfold delS stB'
    rw[if_neg (by rw[c2];simp),List.append_nil]
   rw[if_neg c2]
   have hst:stB' l s=true:=by
    unfold stB'
    cases h1:(accA l s).2.2.2.2.1 <;> cases h2:(accA l s).2.2.2.2.2 <;> simp_all
   have hdel:delS p l s=((List.range' 0 l.length).filter fun r=>delB p l s r).map (delPair l s):=by unfold delS;rw[if_pos hst]
   obtain ⟨t0,t1,hf,i0,i1⟩:=facts s hsl
   have hth:(decide ((0:Int)≤(accA l s).1)&&decide ((accA l s).1 < Int.ofNat p.2.length))=true:=by
    rw[Bool.and_eq_true,decide_eq_true_eq,decide_eq_true_eq];exact ⟨t0,t1⟩
   have kf:Zch (List.getD p.2 (Int.toNat (accA l s).1) (dflt (.sl Za))) (accA l s).2.1=true:=hf
   have vf:Zaq (List.getD p.2 (Int.toNat (accA l s).1) (dflt (.sl Za))) (accA l s).2.1=rowOf (thrOf p l s).length (fromB (thrOf p l s) (inA l s)):=rfl
   rw[if_pos hth,if_pos kf,vf]
   have inner:∀r,r≤l.length→∀o2:List (El Zd),o2.length≤s*l.length+r→o2++((List.range' r (l.length - r)).filter fun r=>delB p l s r).map (delPair l s)=out++delS p l s→
     Goes (ZbC p) (.jmp (.l13 (rowOf (thrOf p l s).length (fromB (thrOf p l s) (inA l s))) (s:Int) (r:Int) o2)) (out++delsFrom p l s):=by
    refine down ?_ fun r hr ih2=>?_
    ·intro o2 ho2 he
     rw[Zi,ZbC,vt,Ze,if_neg (by rw[Zw (Nat.lt_irrefl _)];decide),Zs (by omega)]
     rw[Nat.sub_self] at he
     simp only[List.range'_zero,List.filter_nil,List.map_nil,List.append_nil] at he
     exact goon o2 he
    ·intro o2 ho2 he
     have hprod:s*l.length≤1000000*1000000:=Nat.mul_le_mul (by omega) (by omega)
     have b1:Nat.ble ((o2.length+1)*24) limit=true:=Nat.ble_eq_true_of_le (by unfold limit;omega)
     have gr:List.getD l r (dflt Zb)=accA l r:=rfl
     rw[show l.length - r=(l.length - (r+1))+1 by omega,List.range'_succ,List.filter_cons] at he
     have next:∀o3,delB p l s r=false→o3=o2→Goes (ZbC p) (.jmp (.l13 (rowOf (thrOf p l s).length (fromB (thrOf p l s) (inA l s))) (s:Int) ((r+1:Nat):Int) o3)) (out++delsFrom p l s):=fun o3 hd h3=>by
      subst h3
      rw[if_neg (by rw[hd];decide)] at he
      exact ih2 o3 (by omega) he
     rw[Zi,ZbC,vt]
     simp only[Ze,ZQ hr,ZQ hsl,nng,Bool.and_self,if_true,Int.toNat_natCast,ga,gr,b1,Zs (k:=r) (by omega)]
     by_cases d1:((accA l r).1==(accA l s).1)=true
     ·rw[if_pos d1]
      by_cases d2:(! (accA l r).2.2.2.2.1)=true
      ·rw[if_pos d2]
       by_cases d3:(! (accA l r).2.2.2.2.2)=true
       ·rw[if_pos d3]
        have eth:thA l r=thA l s:=by simpa[thA] using d1
        obtain ⟨_,_,_,j0,j1⟩:=facts r hr
        rw[same_th s r eth] at j1
        have hin:(decide ((0:Int)≤(accA l r).2.1)&&decide ((accA l r).2.1 < Int.ofNat (rowOf (thrOf p l s).length (fromB (thrOf p l s) (inA l s))).length))=true:=by
         rw[ZK,Bool.and_eq_true,decide_eq_true_eq,decide_eq_true_eq];exact ⟨j0,j1⟩
        have hin':(inA l r).toNat < (thrOf p l s).length:=by omega
        have hg:List.getD (rowOf (thrOf p l s).length (fromB (thrOf p l s) (inA l s))) (Int.toNat (accA l r).2.1) (dflt .bool)=fromB (thrOf p l s) (inA l s) (inA l r).toNat:=Zbv hin'
        rw[if_pos hin,hg]
        have hld:ldB' l r=true:=by unfold ldB';rw[d2,d3];rfl
        have hdb:delB p l s r=(fromB (thrOf p l s) (inA l s) (inA l r).toNat&&backB p l r s):=by
         unfold delB
         rw[hld,show (thA l r==thA l s)=true from d1];rfl
        by_cases d4:fromB (thrOf p l s) (inA l s) (inA l r).toNat=true
        ·rw[if_pos d4,if_pos (kb (r:Int)),vb r hr,ZK,Bool.true_and,if_pos (ZQ hsl),Zbv hsl]
         by_cases d5:backB p l r s=true
         ·rw[if_pos d5]
          rw[if_pos (by rw[hdb,d4,d5];rfl)] at he
          exact ih2 _ (by simp;omega) (by rw[List.append_assoc];exact he)
         ·rw[if_neg d5]
          exact next _ (by rw[hdb];simp[d5]) rfl
        ·rw[if_neg d4]
         exact next _ (by rw[hdb];simp[d4]) rfl
       ·rw[if_neg d3]
        exact next _ (by unfold delB ldB';simp at d3;simp[d3]) rfl
      ·rw[if_neg d2]
       exact next _ (by unfold delB ldB';simp at d2;simp[d2]) rfl
     ·rw[if_neg d1]
      exact next _ (by unfold delB thA;simp at d1;simp[d1]) rfl
   exact inner 0 (Nat.zero_le _) out (by omega) (by rw[hdel];rfl)
 have:=outer 0 (Nat.zero_le _) [] (Nat.zero_le _)
 unfold Zny ZH
 rw[Ze,if_pos kt,hl]
 exact this
end Go.Ev
end

section
open Go
namespace Go.Ev
def ZqQ (a b:List (El Zd)):Bool:=decide (a.length < 4611686018427387904)
end Go.Ev
end

section
open Go
namespace Go.Ev
theorem ZJH {n:Nat} (hn:n < 4611686018427387904) {B:Nat→Bool} :∀(xs:List Nat) (d:SetD) (M:Nat→Bool),(∀x∈xs,x < n)→SetOK d n M→SetOK (putAll d (xs.map Int.ofNat)) n fun k=>M k || xs.contains k
 | [],d,M,_,h=>h.congr' fun j=>by simp
 | x :: xs,d,M,hx,h=>by
  have h1:=(h.putO hn (hx x (by simp))).2
  have h2:=ZJH (B:=B) hn xs _ _ (fun y hy=>hx y (by simp[hy])) h1
  refine h2.congr' fun j=>?_
  rw[List.contains_cons,Bool.or_assoc]
theorem ZAG {n:Nat} (hn:n < 4611686018427387904) {B:Nat→Bool} :SetOK (putAll ((n:Int),[]) (listOf n B)) n fun k=>decide (k < n)&&B k:=by
 have:=ZJH (B:=B) hn ((List.range n).filter B) ((n:Int),[]) _ (fun x hx=>List.mem_range.1 (List.mem_filter.1 hx).1) (SetOK.new n)
 refine this.congr' fun j=>?_
 rw[Bool.false_or,Bool.eq_iff_iff,List.contains_iff_mem,List.mem_filter,List.mem_range,Bool.and_eq_true,decide_eq_true_eq]
theorem ZPs {n:Nat} (hn:n < 4611686018427387904):Zy (Int.ofNat n)=((n:Int),[]):=by
 unfold Zy
 simp
 omega
section
variable {p:El Zc}
theorem ZPQ (hk:ZS p=true) {r:Nat} (hr:r < (ofC p).length):SetOK (dBack p (ofC p) (r:Int)) (ofC p).length fun k=>decide (k < (ofC p).length)&&backB p (ofC p) r k:=by
 obtain ⟨hs,hd⟩:=delayOK hk
 have hn:(ofC p).length < 4611686018427387904:=Nat.lt_trans hd.len (by decide)
 unfold dBack
 rw[ZPs hn]
 unfold ZbP
 rw[if_pos ⟨Int.natCast_nonneg r,Int.ofNat_lt.2 hr⟩,Int.toNat_natCast]
 exact ZAG hn
theorem ZQq (hk:ZS p=true) {s r:Nat} (hs:s < (ofC p).length) (hr:r < (ofC p).length) (ht:thA (ofC p) r=thA (ofC p) s):
  hitP p (ofC p) (s:Int) (frS p (ofC p) (thA (ofC p) s) (s:Int)) (r:Int)=(fromB (thrOf p (ofC p) s) (inA (ofC p) s) (inA (ofC p) r).toNat&&backB p (ofC p) r s):=by
 obtain ⟨hsm,hd⟩:=delayOK hk
 have hn:(ofC p).length < 4611686018427387904:=Nat.lt_trans hd.len (by decide)
 obtain ⟨t0,t1,hf,i0,i1⟩:=Zgf hsm hs
 obtain ⟨_,_,_,j0,j1⟩:=Zgf hsm hr
 have et:thrOf p (ofC p) r=thrOf p (ofC p) s:=by unfold thrOf;rw[ht]
 rw[et] at j1
 have hlen:(thrOf p (ofC p) s).length < 4611686018427387904:=Nat.lt_trans (ZbS hf) (by decide)
 have e1:frS p (ofC p) (thA (ofC p) s) (s:Int)=putAll (((thrOf p (ofC p) s).length:Int),[]) (listOf (thrOf p (ofC p) s).length (fromB (thrOf p (ofC p) s) (inA (ofC p) s))):=by
  unfold frS
  rw[show insP p (thA (ofC p) s)=thrOf p (ofC p) s from rfl,ZPs hlen]
  rfl
 have h1:=ZAG hlen (B:=fromB (thrOf p (ofC p) s) (inA (ofC p) s))
 rw[←e1] at h1
 have h2:=ZPQ hk hr
 have e2:∀(x:SetD) (i:Int),(Zp x i).1=hasS x i:=fun _ _=>rfl
 have g1:(Zp (frS p (ofC p) (thA (ofC p) s) (s:Int)) (inA (ofC p) r)).1=fromB (thrOf p (ofC p) s) (inA (ofC p) s) (inA (ofC p) r).toNat:=by
  rw[e2,h1.has hlen,decide_eq_true j0,decide_eq_true (show (inA (ofC p) r).toNat < (thrOf p (ofC p) s).length by omega),Bool.true_and,Bool.true_and]
 have g2:(Zp (dBack p (ofC p) (r:Int)) (s:Int)).1=backB p (ofC p) r s:=by
  rw[e2,h2.has hn,decide_eq_true (Int.natCast_nonneg s),Int.toNat_natCast,decide_eq_true hs,Bool.true_and,Bool.true_and]
 unfold hitP
 rw[g2]
 have:(Zp (frS p (ofC p) (thA (ofC p) s) (s:Int)) (List.getD (ofC p) (Int.toNat (r:Int)) (dflt Zb)).2.1).1=fromB (thrOf p (ofC p) s) (inA (ofC p) s) (inA (ofC p) r).toNat:=by
  rw[Int.toNat_natCast]
  exact g1
 rw[this]
end
theorem ZqF {α β:Type} {f g:α→List β} {l:List α} (h:∀x∈l,f x=g x):l.flatMap f=l.flatMap g:=by
 rw[List.flatMap_def,List.flatMap_def,List.map_congr_left h]
theorem ZPt {α β:Type} {key:α→Nat} {D:α→List β} :∀(T:Nat) (L:List α),L.Pairwise (fun a b=>key a≤key b)→(∀x∈L,key x < T)→((List.range T).flatMap fun t=>(L.filter fun x=>key x==t).flatMap D)=L.flatMap D
 | 0,L,_,h=>by
  cases L with
  | nil=>rfl
  | cons x L=>exact absurd (h x (by simp)) (Nat.not_lt_zero _)
 | T+1,L,hp,h=>by
  have split:∀L:List α,L.Pairwise (fun a b=>key a≤key b)→(∀x∈L,key x < T+1)→L=(L.filter fun x=>decide (key x < T))++L.filter fun x=>key x==T:=by
   intro L
   induction L with
   | nil=>intros;rfl
   | cons x L ih=>
    intro hp h
    obtain ⟨p1,p2⟩:=List.pairwise_cons.1 hp
    have ih:=ih p2 fun y hy=>h y (by simp[hy])
    by_cases hx:key x < T
    ·have hx':(key x==T)=false:=by rw[beq_eq_false_iff_ne];omega
     rw[List.filter_cons_of_pos (by simpa using hx),List.filter_cons_of_neg (by rw[hx'];exact Bool.false_ne_true),List.cons_append,←ih]
    ·have hk:key x=T:=by have:=h x (by simp);omega
     have hnone:L.filter (fun x=>decide (key x < T))=[]:=List.filter_eq_nil_iff.2 fun y hy=>by have:=p1 y hy;simp;omega
     rw[List.filter_cons_of_neg (by simpa using hx),List.filter_cons_of_pos (by simpa using hk),hnone,List.nil_append]
     rw[hnone,List.nil_append] at ih
     rw[←ih]
  have e:=split L hp h
  rw[List.range_succ,List.flatMap_append]
  have h1:((List.range T).flatMap fun t=>(L.filter fun x=>key x==t).flatMap D)=(L.filter fun x=>decide (key x < T)).flatMap D:=by
   rw[←ZPt T (L.filter fun x=>decide (key x < T)) (hp.sublist List.filter_sublist) fun x hx=>by simpa using (List.mem_filter.1 hx).2]
   refine ZqF fun t ht=>?_
   rw[List.filter_filter]
   congr 1
   refine List.filter_congr fun x hx=>?_
   have:=List.mem_range.1 ht
   by_cases hk:key x=t
   ·simp[hk,this]
   ·simp[hk]
  rw[h1]
  simp only[List.flatMap_cons,List.flatMap_nil,List.append_nil]
  rw[←List.flatMap_append,←e]
theorem ZN1 {α β γ:Type} {g:β→List γ} {f:α→β} {P H:α→Bool} {q:α→γ} :∀(l:List α),(∀x∈l,P x=true→g (f x)=if H x=true then [q x] else [])→((l.filter P).map f).flatMap g=(l.filter fun x=>P x&&H x).map q
 | [],_=>rfl
 | x :: l,h=>by
  have ih:=ZN1 l fun y hy=>h y (by simp[hy])
  cases hP:P x with
  | false=>rw[List.filter_cons_of_neg (by simp[hP]),List.filter_cons_of_neg (by simp[hP]),ih]
  | true=>
   rw[List.filter_cons_of_pos hP,List.map_cons,List.flatMap_cons,h x (by simp) hP,ih]
   cases hH:H x with
   | false=>rw[List.filter_cons_of_neg (by simp[hP,hH])];simp
   | true=>rw[List.filter_cons_of_pos (by simp[hP,hH])];simp
theorem Zuf {α β:Type} {P:α→Bool} {D:α→List β} :∀(l:List α),(l.flatMap fun x=>if P x=true then D x else [])=(l.filter P).flatMap D
 | []=>rfl
 | x :: l=>by
  cases hP:P x with
  | false=>rw[List.filter_cons_of_neg (by simp[hP]),List.flatMap_cons,Zuf l];simp[hP]
  | true=>rw[List.filter_cons_of_pos hP,List.flatMap_cons,List.flatMap_cons,Zuf l];simp[hP]
theorem ZQs {p:El Zc} {a b:Nat} (ha:a < (ofC p).length) (hb:b < (ofC p).length) (h:a < b):thA (ofC p) a≤thA (ofC p) b:=by
 have ho:=List.pairwise_iff_getElem.1 (ZOe p) a b ha hb h
 have ga:accA (ofC p) a=(ofC p)[a]:=by unfold accA;rw[ZG ha]
 have gb:accA (ofC p) b=(ofC p)[b]:=by unfold accA;rw[ZG hb]
 rw[←ga,←gb] at ho
 have:∀t k q t' k' q':Int,ltNX t k q t' k' q'→t≤t':=fun t k q t' k' q' h=>by
  rcases h with h | ⟨h,_⟩ <;> omega
 exact this _ _ _ _ _ _ ho
theorem ZN8 {p:El Zc} (hk:ZS p=true):Zk p=ZH p:=by
 obtain ⟨hsm,hd⟩:=delayOK hk
 have facts:=fun i=>Zgf (i:=i) hsm
 have hits:=fun s r=>ZQq (s:=s) (r:=r) hk
 have keys:=fun a b=>ZQs (p:=p) (a:=a) (b:=b)
 unfold Zk ZH delsFrom outN
 generalize ofC p=l at facts hits keys
 rw[Nat.sub_zero,←List.range_eq_range']
 have hD:∀s,delS p l s=if stB' l s=true then ((List.range l.length).filter fun r=>delB p l s r).map (delPair l s) else []:=fun s=>by
  unfold delS
  rw[←List.range_eq_range']
 rw[ZqF fun s _=>hD s,Zuf]
 refine Eq.trans ?_ (ZPt (key:=fun s=>(thA l s).toNat) p.2.length ((List.range l.length).filter fun s=>stB' l s) ?_ ?_)
 ·refine ZqF fun t ht=>?_
  have ht:=List.mem_range.1 ht
  rw[List.filter_filter]
  unfold outT ZR listOf
  rw[List.flatMap_map]
  have hf:(List.range l.length).filter (plB l (t:Int) true)=(List.range l.length).filter fun s=>((thA l s).toNat==t)&&stB' l s:=by
   refine List.filter_congr fun s hs=>?_
   obtain ⟨t0,_⟩:=facts s (List.mem_range.1 hs)
   unfold plB stB'
   rw[Bool.and_assoc]
   have e:(((List.getD l s (dflt Zb)).1:Int)==(t:Int))=((thA l s).toNat==t):=by
    show (thA l s==(t:Int))=_
    rw[Bool.eq_iff_iff,beq_iff_eq,beq_iff_eq]
    omega
   have e2:((List.getD l s (dflt Zb)).2.2.2.2.1==true)=(accA l s).2.2.2.2.1:=by
    show ((accA l s).2.2.2.2.1==true)=_
    cases (accA l s).2.2.2.2.1 <;> rfl
   rw[e2]
   exact congrArg (· &&_) e
  rw[hf]
  refine ZqF fun s hs=>?_
  obtain ⟨hs1,hs2⟩:=List.mem_filter.1 hs
  have hsN:=List.mem_range.1 hs1
  rw[Bool.and_eq_true,beq_iff_eq] at hs2
  obtain ⟨t0,_⟩:=facts s hsN
  have hth:thA l s=(t:Int):=by have:=hs2.1;omega
  unfold outS ZR listOf
  rw[ZN1 (H:=fun r=>fromB (thrOf p l s) (inA l s) (inA l r).toNat&&backB p l r s) (q:=delPair l s)]
  ·congr 1
   refine List.filter_congr fun r hr=>?_
   unfold plB delB ldB'
   have e1:(((List.getD l r (dflt Zb)).1:Int)==(t:Int))=(thA l r==thA l s):=by rw[hth];rfl
   have e2:((List.getD l r (dflt Zb)).2.2.2.2.1==false)=! (accA l r).2.2.2.2.1:=by
    show ((accA l r).2.2.2.2.1==false)=_
    cases (accA l r).2.2.2.2.1 <;> rfl
   rw[e2,←Bool.and_assoc (thA l r==thA l s)]
   exact congrArg (fun x=>x&&_&&_&&_) e1
  ·intro r hr hP
   have hrN:=List.mem_range.1 hr
   unfold plB at hP
   rw[Bool.and_eq_true,Bool.and_eq_true] at hP
   have hth2:thA l r=(t:Int):=by have:=hP.1.1;exact eq_of_beq this
   have:=hits s r hsN hrN (hth2.trans hth.symm)
   rw[hth] at this
   show oneP p l (t:Int) (s:Int) (frS p l (t:Int) (s:Int)) (r:Int)=_
   unfold oneP
   rw[this]
   unfold delPair
   rw[hth]
   rfl
 ·refine List.Pairwise.filter _ ?_
  refine List.pairwise_lt_range.imp_of_mem fun {a b} ha hb h=>?_
  have:=keys a b (List.mem_range.1 ha) (List.mem_range.1 hb) h
  omega
 ·intro s hs
  obtain ⟨t0,t1,_⟩:=facts s (List.mem_range.1 (List.mem_filter.1 hs).1)
  omega
end Go.Ev
end

section
namespace Go.Ev
open Go
theorem ZDh (i:El Za) (ls:List ByteArray):Zz (setL i ls)=Zz i:=rfl
theorem ZP3 (i:El Za) (ls:List ByteArray):(setL i ls).2.2.2.2.2.1=i.2.2.2.2.2.1:=rfl
theorem ZDm {th:List (List (El Za))} {k r s n:Int} (h:k=3∨k=4→placeOK k s n=true):placeC (symsB,th) (k,(r,(s,n)))=0:=by
 show placeN 3 _ k s n=0
 unfold placeN
 by_cases hk:k=3∨k=4
 ·rw[if_pos hk]
  have:=h hk
  unfold placeOK at this
  simp only[Bool.and_eq_true,decide_eq_true_eq,Bool.or_eq_true,beq_iff_eq] at this
  obtain ⟨h0,h3,hn⟩:=this
  rw[if_neg (by omega)]
  have hs:s=0∨s=1∨s=2:=by omega
  rcases hs with rfl | rfl | rfl
  ·rw[if_neg]
   rintro ⟨h1,h2⟩
   have h2:(1:Int)≤n:=h2
   rcases hn with hn | hn
   ·omega
   ·have hn:n < (1:Int):=hn
    omega
  ·rw[if_neg]
   rintro ⟨h1,h2⟩
   have h2:(2:Int)≤n:=h2
   rcases hn with hn | hn
   ·omega
   ·have hn:n < (2:Int):=hn
    omega
  ·rw[if_neg]
   rintro ⟨h1,h2⟩
   have h2:(1:Int)≤n:=h2
   rcases hn with hn | hn
   ·omega
   ·have hn:n < (1:Int):=hn
    omega
 ·rw[if_neg hk]
theorem ZOl {th:List (List (El Za))} {many:Int} {i:El Za} (h:BookOK many i) (ls:List ByteArray):insC (symsB,th) (setL i ls)=0:=by
 have hA:placeC (symsB,th) i.2.2.2.1=0:=ZDm (k:=i.2.2.2.1.1) (r:=i.2.2.2.1.2.1) (s:=i.2.2.2.1.2.2.1) (n:=i.2.2.2.1.2.2.2) h.placeA
 have hB:placeC (symsB,th) i.2.2.2.2.1=0:=ZDm (k:=i.2.2.2.2.1.1) (r:=i.2.2.2.2.1.2.1) (s:=i.2.2.2.2.1.2.2.1) (n:=i.2.2.2.2.1.2.2.2) h.placeB
 unfold insC
 rw[ZDh,h.right]
 show (if (0:Int)≠0 then _ else if placeC (symsB,th) i.2.2.2.1≠0 then _ else placeC (symsB,th) i.2.2.2.2.1)=0
 rw[hA,hB]
 rfl
theorem ZIQ {p:El Zc} {K:List ByteArray→Int} :∀(x:List (El Za)) (k:Nat) (seen:List ByteArray),
  (∀(j:Nat) (i:El Za),x[j]? =some i→(i.2.2.2.2.2.2=[]∨i.2.2.2.2.2.2=[Zo ((k+j:Nat):Int)])∧insC p i=0)→(∀l∈seen,∃k',k' < k∧l=Zo (k':Int))→k+x.length≤100→scanI p K seen x=K (seen++labels x)
 | [],k,seen,_,_,_=>by simp[scanI,labels]
 | i :: r,k,seen,h,hs,hk=>by
  obtain ⟨hl,hi⟩:=h 0 i rfl
  rw[List.length_cons] at hk
  have hr:=fun seen' hs'=>ZIQ (K:=K) r (k+1) seen' (fun j y hy=>by
   have:=h (j+1) y (by simpa using hy)
   rwa[show k+(j+1)=k+1+j by omega] at this) hs' (by omega)
  unfold scanI
  rcases hl with hl | hl
  ·rw[hl]
   unfold scanL
   rw[hi]
   simp only[ne_eq,not_true_eq_false,if_false]
   rw[hr seen fun l hl=>by obtain ⟨k',h1,h2⟩:=hs l hl;exact ⟨k',by omega,h2⟩]
   unfold labels
   rw[List.flatMap_cons,hl,List.nil_append]
  ·rw[hl,Nat.add_zero]
   unfold scanL
   rw[if_neg (by rw[(ZpR (k:=(k:Int)) (by omega) (by omega)).1];decide)]
   have hns:seen.contains (Zo (k:Int))=false:=by
    rw[Bool.eq_false_iff]
    intro hc
    rw[List.contains_iff_mem] at hc
    obtain ⟨k',h1,h2⟩:=hs _ hc
    have:=ZOo (by omega) (by omega) h2
    omega
   rw[if_neg (by rw[hns];decide)]
   unfold scanL
   rw[hi]
   simp only[ne_eq,not_true_eq_false,if_false]
   rw[hr _ fun l hl=>by
    rcases List.mem_append.1 hl with hl | hl
    ·obtain ⟨k',h1,h2⟩:=hs l hl;exact ⟨k',by omega,h2⟩
    ·rw[List.mem_singleton] at hl;exact ⟨k,by omega,hl⟩]
   unfold labels
   rw[List.flatMap_cons,hl,Nat.add_zero,List.append_assoc]
theorem ZHE {seen:List ByteArray} :∀ {x:List (El Za)},(∀i∈x,((i.1==(10:Int)) || (i.1==(11:Int)))=true→seen.contains i.2.2.2.2.2.1=true)→jumpC seen x=0
 | [],_=>rfl
 | i :: r,h=>by
  unfold jumpC
  have ih:=ZHE fun j hj=>h j (List.mem_cons_of_mem _ hj)
  by_cases hj:((i.1==(10:Int)) || (i.1==(11:Int)))=true
  ·rw[if_pos hj,if_pos (h i (List.mem_cons_self ..) hj)];exact ih
  ·rw[if_neg hj];exact ih
theorem Zla {a:List (El Zr)} {n:Nat} (hn:n≤90) (ha:n≤a.length) {k:Nat} {i:El Za} (h:(threadB a n)[k]? =some i):
  (k < n∧∃x,(baseT a n)[k]? =some x∧BookOK ((n+1:Nat):Int) x∧i=setL x (if sAt (baseT a n) n k then [Zo (k:Int)] else []))∨(k=n∧i=setL (bare 14) (if sAt (baseT a n) n k then [Zo (k:Int)] else [])):=by
 have hl:=Zof a n ha
 obtain ⟨hk,he⟩:=List.getElem?_eq_some_iff.1 h
 unfold threadB at hk he
 rw[ZhU hk] at he
 rw[Zb1,hl] at hk
 by_cases hkn:k < n
 ·obtain ⟨x,h1,h2⟩:=ZMP hn hkn ha
  obtain ⟨h3,h4⟩:=List.getElem?_eq_some_iff.1 h1
  rw[h4] at he
  exact .inl ⟨hkn,_,h1,h2,he.symm⟩
 ·have hkn:k=n:=by omega
  subst hkn
  have:(baseT a k)[k]'(by omega)=bare 14:=by
   unfold baseT
   rw[List.getElem_append_right (by simp;omega)]
   simp
  rw[this] at he
  exact .inr ⟨rfl,he.symm⟩
theorem ZKB (many:Int) (ls:List ByteArray) {th:List (List (El Za))} :insC (symsB,th) (setL (bare 14) ls)=0:=by
 unfold insC
 rw[ZDh,ZL7 (.inr (.inr rfl))]
 rfl
theorem ZMC {x:List (El Za)} {k:Nat} {i:El Za} {l:ByteArray} (h:x[k]? =some i) (hl:l∈i.2.2.2.2.2.2):(labels x).contains l=true:=by
 rw[List.contains_iff_mem]
 unfold labels
 exact List.mem_flatMap.2 ⟨i,List.mem_of_getElem? h,hl⟩
theorem ZGy {a:List (El Zr)} {n:Nat} (hn:n≤90) (ha:n≤a.length) {th:List (List (El Za))} :threadC (symsB,th) (threadB a n)=0:=by
 have hlen:(threadB a n).length=n+1:=by unfold threadB;rw[Zb1,Zof a n ha]
 unfold threadC
 have hc:=ZNr (threadB a n)
 rw[if_neg (by omega),ZIQ (threadB a n) 0 [] (fun j i h=>by
  rw[Nat.zero_add]
  rcases Zla hn ha h with ⟨_,x,_,hx,rfl⟩ | ⟨_,rfl⟩
  ·refine ⟨?_,ZOl hx _⟩
   show (if _ then [Zo (j:Int)] else [])=[]∨(if _ then [Zo (j:Int)] else [])=[Zo (j:Int)]
   split
   ·exact .inr rfl
   ·exact .inl rfl
  ·refine ⟨?_,ZKB 0 _⟩
   show (if _ then [Zo (j:Int)] else [])=[]∨(if _ then [Zo (j:Int)] else [])=[Zo (j:Int)]
   split
   ·exact .inr rfl
   ·exact .inl rfl) (fun l hl=>by cases hl) (by omega)]
 rw[List.nil_append,ZKE (by omega)]
 have hlast:(threadB a n)[(threadB a n).length - 1]? =some ((threadB a n)[(threadB a n).length - 1]'(by omega)):=List.getElem?_eq_getElem (by omega)
 have h14:(((threadB a n)[(threadB a n).length - 1]'(by omega)).1==(10:Int) || ((threadB a n)[(threadB a n).length - 1]'(by omega)).1==(14:Int))=true:=by
  rcases Zla hn ha hlast with ⟨h1,_⟩ | ⟨_,h2⟩
  ·omega
  ·rw[h2];rfl
 rw[if_pos h14]
 refine ZHE fun i hi hj=>?_
 obtain ⟨k,hk⟩:=List.getElem?_of_mem hi
 rcases Zla hn ha hk with ⟨hkn,x,hx,hb,rfl⟩ | ⟨_,rfl⟩
 ·rw[ZP3]
  rcases hb.to with ⟨h1,h2,_⟩ | ⟨_,m,m0,m1,e⟩
  ·exfalso
   have hj:((x.1==(10:Int)) || (x.1==(11:Int)))=true:=hj
   simp only[Bool.or_eq_true,beq_iff_eq] at hj
   rcases hj with hj | hj
   ·exact h1 hj
   ·exact h2 hj
  ·rw[e]
   obtain ⟨q,rfl⟩:∃q:Nat,m=(q:Int):=⟨m.toNat,by omega⟩
   have hqn:q < n+1:=by omega
   have hq:(threadB a n)[q]? =some ((threadB a n)[q]'(by omega)):=List.getElem?_eq_getElem (by omega)
   have hs:sAt (baseT a n) n q=true:=by
    unfold sAt
    rw[List.any_eq_true]
    exact ⟨x,List.mem_of_getElem? (i:=k) (by rw[List.getElem?_take,if_pos hkn];exact hx),decide_eq_true e⟩
   refine ZMC hq ?_
   rcases Zla hn ha hq with ⟨_,y,_,_,h2⟩ | ⟨_,h2⟩
   ·rw[h2,hs];exact List.mem_singleton.2 rfl
   ·rw[h2,hs];exact List.mem_singleton.2 rfl
 ·cases hj
theorem ZMu {a:List (El Zr)} {n:Nat} (hn:n≤90) (ha:n≤a.length):smallThread (threadB a n)=true:=by
 have hlen:(threadB a n).length=n+1:=by unfold threadB;rw[Zb1,Zof a n ha]
 have hlab:∀i∈threadB a n,smallText i.2.2.2.2.2.1=true∧i.2.2.2.2.2.2.length≤1∧∀l∈i.2.2.2.2.2.2,smallText l=true:=fun i hi=>by
  obtain ⟨k,hk⟩:=List.getElem?_of_mem hi
  have hkl:=(List.getElem?_eq_some_iff.1 hk).1
  have hls:∀b:Bool,(if b=true then [Zo (k:Int)] else []).length≤1∧∀l∈(if b=true then [Zo (k:Int)] else []),smallText l=true:=fun b=>by
   cases b with
   | false=>exact ⟨by simp,fun l hl=>by simp at hl⟩
   | true=>exact ⟨by simp,fun l hl=>by
     rw[if_pos rfl,List.mem_singleton] at hl
     rw[hl];exact (ZpR (by omega) (by omega)).2⟩
  rcases Zla hn ha hk with ⟨hkn,x,hx,hb,rfl⟩ | ⟨_,rfl⟩
  ·exact ⟨hb.small (by omega),hls _⟩
  ·exact ⟨(by decide:smallText (bs [])=true),hls _⟩
 have:=ZOd (t:=threadB a n) (n:=1) fun i hi=>(hlab i hi).2.1
 unfold smallThread
 simp only[Bool.and_eq_true,decide_eq_true_eq,List.all_eq_true]
 exact ⟨by omega,by omega,fun i hi=>⟨(hlab i hi).1,(hlab i hi).2.2⟩⟩
theorem ZMF (K:Int):symsC K [] symsB=K:=by kernel_rfl
theorem ZH4 {p:El Zc} :∀ {th:List (List (El Za))},(∀t∈th,threadC p t=0)→thsC p th=0
 | [],_=>rfl
 | t :: r,h=>by
  unfold thsC
  rw[h t (List.mem_cons_self ..)]
  simp only[ne_eq,not_true_eq_false,if_false]
  exact ZH4 fun x hx=>h x (List.mem_cons_of_mem _ hx)
theorem ZMa (l:List (List (El Zr))) {threads many:Int} (h0:0≤threads) (h1:threads≤64) (m0:0≤many) (m1:many≤90):checkC (Zj l threads many)=0∧smallProg (Zj l threads many)=true∧ZeF l threads many=true:=by
 refine ⟨?_,?_,?_⟩
 ·unfold checkC Zj
  show (if 64 < symsB.length∨64 < ((l.take threads.toNat).map fun a=>threadB a (min a.length many.toNat)).length then (10:Int) else symsC (thsC _ ((l.take threads.toNat).map fun a=>threadB a (min a.length many.toNat))) [] symsB)=0
  rw[if_neg,ZMF]
  ·exact ZH4 fun t ht=>by
    obtain ⟨a,_,rfl⟩:=List.mem_map.1 ht
    exact ZGy (by omega) (by omega)
  ·rw[List.length_map,List.length_take]
   have:symsB.length=3:=rfl
   omega
 ·unfold smallProg Zj
  simp only[Bool.and_eq_true,List.all_eq_true]
  refine ⟨?_,fun t ht=>?_⟩
  ·have:symsB.all (fun s=>smallText s.1)=true:=by decide+kernel
   rw[List.all_eq_true] at this
   exact this
  ·obtain ⟨a,_,rfl⟩:=List.mem_map.1 ht
   exact ZMu (by omega) (by omega)
 ·unfold ZeF
  simp only[Bool.and_eq_true,decide_eq_true_eq]
  omega
end Go.Ev
end

section
open Go
namespace Go.Ev
end Go.Ev
end

section
open Go Go.Ev
namespace Go.Ev
noncomputable section
def Zcp:Sig:=[(false,(.sl (.int .i64))),(false,(.sl (.int .i64)))]
noncomputable def Zln:Tbl:=[]
theorem ZyK:∀p∈Zln,EntOK Go.Proofs.Tryz.prog p.1 p.2:=Zu
noncomputable def Zh7:Code:=Go.Proofs.Tryz.f11.body.getD .skip
def ZjD:Tb:=[(6,⟨[0,1,5],[]⟩)]
inductive Ze6 where | l6 (i:Int)
def Zez (a:List Int) (b:List Int):Ze6→JT Ze6 (Bool) |.l6 i=>.br (decide (i < (Int.ofNat (List.length a)))) (.br ((decide ((0:Int)≤i))&&(decide (i < (Int.ofNat (List.length a))))) (.br ((decide ((0:Int)≤i))&&(decide (i < (Int.ofNat (List.length b))))) (.br ((List.getD a (Int.toNat i) (dflt (.int .i64))) !=(List.getD b (Int.toNat i) (dflt (.int .i64)))) (.leaf false) (.jmp (.l6 (IntKind.i64.wrap (i+(1:Int)))))) (.no)) (.no)) (.leaf true)
def ZjO (a:List Int) (b:List Int):JT Ze6 (Bool):=.br ((Int.ofNat (List.length a)) !=(Int.ofNat (List.length b))) (.leaf false) (.jmp (.l6 (0:Int)))
def Zh1:Bool→AV:=fun (r:Bool)=>.d .bool r
def Zce (a:List Int) (b:List Int):Ze6→Nat×St |.l6 i=>(6,⟨mkTm 26 [(0,.d (.sl (.int .i64)) a),(1,.d (.sl (.int .i64)) b),(5,.d (.int .i64) i)],[]⟩)
theorem ZyP (a:List Int) (b:List Int) (L:Lt):entryA Go.Proofs.Tryz.prog (clOf Zln) ZjD Go.Proofs.Tryz.f11 Zh7 L (toForms Zcp (a,b,()))=(ZjO a b).run (fun v=>some (Zh1 v,tps (toForms Zcp (a,b,())))) fun j=>L (Zce a b j).1 (Zce a b j).2:=by kernel_rfl
theorem ZyW (a:List Int) (b:List Int):∀(L:Lt) (j:Ze6),procOf (procsF Go.Proofs.Tryz.prog (clOf Zln) ZjD Go.Proofs.Tryz.f11 Zh7 (toForms Zcp (a,b,()))) (Zce a b j).1 L (Zce a b j).2=(Zez a b j).run (fun v=>some (Zh1 v,tps (toForms Zcp (a,b,())))) fun j=>L (Zce a b j).1 (Zce a b j).2 | L,.l6 i=>by kernel_rfl
end
end Go.Ev
end

section
open Go
namespace Go.Ev
theorem ZNi {a b:Int} :(a==b)=decide (a=b):=by rw[Bool.eq_iff_iff];simp
def Zaj (a b:List Int):Bool:=decide (a=b)
def Zaw (a b:List Int):Bool:=decide (a.length < 4611686018427387904)
theorem Zzt (a b:List Int) (hk:Zaw a b=true):Goes (Zez a b) (ZjO a b) (Zaj a b):=by
 have hn:a.length < 4611686018427387904:=of_decide_eq_true hk
 have loop:a.length=b.length→∀k,k≤a.length→Goes (Zez a b) (.jmp (.l6 (k:Int))) (decide (a.drop k=b.drop k)):=by
  intro he
  refine down ?_ fun k hk ih=>?_
  ·rw[Zi]
   simp[Zez,Ze,ZT,he]
  ·rw[Zi]
   have hkb:k < b.length:=he▸hk
   simp only[Zez,Ze,ZQ hk,ZQ hkb,nng,Bool.and_self,if_true,Int.toNat_natCast,ZG hk,ZG hkb,Zs (k:=k) (by omega)]
   rw[ZN hk,ZN hkb]
   split
   ·rename_i h1
    have h2:(! decide (a[k]=b[k]))=true:=(congrArg Bool.not ZNi).symm.trans h1
    have h3:¬a[k]=b[k]:=by simpa using h2
    rw[decide_eq_false (fun e=>h3 (List.cons.inj e).1)]
    exact .leaf
   ·rename_i h1
    have h2:¬(! decide (a[k]=b[k]))=true:=fun h=>h1 ((congrArg Bool.not ZNi).trans h)
    have h3:a[k]=b[k]:=by simpa using h2
    rw[show decide (a[k] :: List.drop (k+1) a=b[k] :: List.drop (k+1) b)=decide (List.drop (k+1) a=List.drop (k+1) b) from decide_eq_decide.2 ⟨fun e=>(List.cons.inj e).2,fun e=>by rw[h3,e]⟩]
    exact ih
 unfold ZjO Zaj
 rw[Ze]
 by_cases h:a.length=b.length
 ·have:=loop h 0 (Nat.zero_le _)
  simpa[h] using this
 ·have:a≠b:=fun e=>h (congrArg _ e)
  rw[if_pos (by simp;omega),decide_eq_false this]
  exact .leaf
end Go.Ev
end

section
open Go
namespace Go.Ev
theorem ZBq {n:Nat} {M:Nat→Bool} :(listOf n M).length≤n:=by rw[Zh2];exact Ze1
theorem ZrR {n:Nat} {M:Nat→Bool} {x:Int} :(listOf n M).contains x=(decide (0≤x∧x < (n:Int))&&M x.toNat):=by
 rw[Bool.eq_iff_iff,List.contains_iff_mem,Zcv]
 simp only[Bool.and_eq_true,decide_eq_true_eq]
 constructor
 ·rintro ⟨i,h1,h2,rfl⟩;exact ⟨by omega,by rw[Int.toNat_natCast];exact h2⟩
 ·rintro ⟨h1,h2⟩;exact ⟨x.toNat,by omega,h2,by omega⟩
theorem ZNv {l:List Int} (h:l.length < 1099511627776):Zaw l l=true∧Zaj l l=true:=⟨decide_eq_true (by omega),decide_eq_true rfl⟩
theorem ZOb {t:List (El Za)} {points:List Int} (h:flowOK t=true) (hp:points.length < 4611686018427387904) (s:Int):
  ZbY t points s=true∧Zaw (ZP t points s) (ZP t points s)=true∧Zaj (ZP t points s) (ZP t points s)=true:=by
 have k1:ZbY t points s=true:=by unfold ZbY;rw[h,decide_eq_true hp];rfl
 have hl:=ZbS h
 exact ⟨k1,ZNv (by unfold ZP;have:= @ZBq t.length (endsB t points s);omega)⟩
theorem ZM6 {t:List (El Za)} {points:List Int} (h:flowOK t=true) (hp:points.length < 4611686018427387904) (s l:Int):
  ZgX t points s l=true∧ZdT t points s l=(decide (0≤l∧l < (t.length:Int))&&endsB t points s l.toNat):=by
 obtain ⟨k1,_⟩:=ZOb h hp s
 have hl:=ZbS h
 have ki:ZaE (ZP t points s) l=true:=decide_eq_true (by unfold ZP;have:= @ZBq t.length (endsB t points s);omega)
 have vr:ZdT t points s l=(decide (0≤l∧l < (t.length:Int))&&endsB t points s l.toNat):=by
  unfold ZdT Z8 ZaL
  rw[k1,ki]
  simp only[cond_true]
  unfold Za2
  rw[ZJg]
  unfold ZP
  exact ZrR
 refine ⟨?_,vr⟩
 unfold ZgX Z8;rw[k1,ki];rfl
end Go.Ev
end

section
open Go Go.Ev
namespace Go.Ev
noncomputable section
def ZkQ:Sig:=[(false,(.sl (.int .i64))),(false,(.int .i64))]
noncomputable def ZAn:Tbl:=[]
theorem ZMH:∀p∈ZAn,EntOK Go.Proofs.Tryz.prog p.1 p.2:=Zu
noncomputable def ZwD:Code:=Go.Proofs.Tryz.f12.body.getD .skip
def Zxi:Tb:=[(3,⟨[0,1,5],[]⟩)]
inductive Zq4 where | l3 (i:Int)
def ZsO (l:List Int) (n:Int):Zq4→JT Zq4 (Bool) |.l3 i=>.br (decide (i < (Int.ofNat (List.length l)))) (.br ((decide ((0:Int)≤i))&&(decide (i < (Int.ofNat (List.length l))))) (.br ((List.getD l (Int.toNat i) (dflt (.int .i64)))==n) (.leaf true) (.jmp (.l3 (IntKind.i64.wrap (i+(1:Int)))))) (.no)) (.leaf false)
def ZwW (l:List Int) (n:Int):JT Zq4 (Bool):=.jmp (.l3 (0:Int))
def Zwj:Bool→AV:=fun (r:Bool)=>.d .bool r
def ZlH (l:List Int) (n:Int):Zq4→Nat×St |.l3 i=>(3,⟨mkTm 18 [(0,.d (.sl (.int .i64)) l),(1,.d (.int .i64) n),(5,.d (.int .i64) i)],[]⟩)
theorem ZMN (l:List Int) (n:Int) (L:Lt):entryA Go.Proofs.Tryz.prog (clOf ZAn) Zxi Go.Proofs.Tryz.f12 ZwD L (toForms ZkQ (l,n,()))=(ZwW l n).run (fun v=>some (Zwj v,tps (toForms ZkQ (l,n,())))) fun j=>L (ZlH l n j).1 (ZlH l n j).2:=by kernel_rfl
theorem ZL4 (l:List Int) (n:Int):∀(L:Lt) (j:Zq4),procOf (procsF Go.Proofs.Tryz.prog (clOf ZAn) Zxi Go.Proofs.Tryz.f12 ZwD (toForms ZkQ (l,n,()))) (ZlH l n j).1 L (ZlH l n j).2=(ZsO l n j).run (fun v=>some (Zwj v,tps (toForms ZkQ (l,n,())))) fun j=>L (ZlH l n j).1 (ZlH l n j).2 | L,.l3 i=>by kernel_rfl
end
end Go.Ev
end

section
open Go
namespace Go.Ev
def Zjl (l:List Int) (n:Int):Bool:=l.contains n
def ZlS (l:List Int) (n:Int):Bool:=decide (l.length < 4611686018427387904)
theorem ZNY (l:List Int) (n:Int) (hk:ZlS l n=true):Goes (ZsO l n) (ZwW l n) (Zjl l n):=by
 have hn:l.length < 4611686018427387904:=of_decide_eq_true hk
 have loop:∀k,k≤l.length→Goes (ZsO l n) (.jmp (.l3 (k:Int))) ((l.drop k).contains n):=by
  refine down ?_ fun k hk ih=>?_
  ·rw[Zi]
   simp only[ZsO,Ze,Zw (Nat.lt_irrefl _),ZT,List.drop_length]
   simp
  ·rw[Zi]
   simp only[ZsO,Ze,ZQ hk,nng,Bool.and_self,if_true,Int.toNat_natCast,ZG hk,Zs (k:=k) (by omega)]
   rw[ZN hk,List.contains_cons]
   cases h:(l[k]==n) with
   | true=>
    have:(n==l[k])=true:=by simp at h ⊢;exact h.symm
    rw[this];simp[ZT]
   | false=>
    have:(n==l[k])=false:=by simp at h ⊢;exact fun e=>h e.symm
    rw[this];simpa using ih
 unfold ZwW Zjl
 simpa using loop 0 (Nat.zero_le _)
end Go.Ev
end

section
open Go Go.Ev
namespace Go.Ev
noncomputable section
noncomputable def ZzD:Run:=entG ZkQ Zwj (fun a=>ZlS a.1 a.2.1) (fun a=>Zjl a.1 a.2.1)
theorem ZC5:EntOK Go.Proofs.Tryz.prog 12 ZzD:=ZJ (tb:=Zxi) (c:=ZwD) ZMH (by kernel_rfl) (by kernel_rfl) (by kernel_rfl) (fun a=>by kernel_rfl) fun ⟨l,n,_⟩ hk=>Zn (c:=ZwD) (K:=fun v=>(Zwj v,tps (toForms ZkQ (l,n,())))) (S:=ZlH l n) (by kernel_rfl) (ZMN l n) (ZL4 l n) (ZNY l n hk)
end
end Go.Ev
end

section
open Go Go.Ev
namespace Go.Ev
noncomputable section
def ZfD:Sig:=[(true,Za)]
noncomputable def Zri:Tbl:=[(100,Zck),(74,Zo7)]
theorem ZFi:∀p∈Zri,EntOK Go.Proofs.Tryz.prog p.1 p.2:=Zg Zcx (Zg ZtV (Zu))
noncomputable def Zl9:Code:=Go.Proofs.Tryz.f104.body.getD .skip
def Zoy:Tb:=[]
def Zx9 (i:El Za):Empty→JT Empty (Bool):=fun j=>nomatch j
def Zwx (i:El Za):JT Empty (Bool):=.br (ZB i) (.br ((ZC i)==(0:Int)) (.br (i.1==(12:Int)) (.leaf true) (.br (Zan i) (.leaf (ZaC i)) (.no))) (.br (Zan i) (.leaf (ZaC i)) (.no))) (.no)
def Zg4 (i:El Za):Bool:=bif (ZB i) then bif ((ZC i)==(0:Int)) then bif (i.1==(12:Int)) then true else bif (Zan i) then (ZaC i) else false else bif (Zan i) then (ZaC i) else false else false
def Zhv (i:El Za):Bool:=bif (ZB i) then bif ((ZC i)==(0:Int)) then bif (i.1==(12:Int)) then true else bif (Zan i) then true else false else bif (Zan i) then true else false else false
theorem ZJo (i:El Za) (hk:Zhv i=true):Goes (Zx9 i) (Zwx i) (Zg4 i):=Goes.brk hk (fun hk=>Goes.brk hk (fun hk=>Goes.brk hk (fun hk=>Goes.leaf) (fun hk=>Goes.brk hk (fun hk=>Goes.leaf) (fun hk=>Goes.nok hk))) (fun hk=>Goes.brk hk (fun hk=>Goes.leaf) (fun hk=>Goes.nok hk))) (fun hk=>Goes.nok hk)
def ZmL:Bool→AV:=fun (r:Bool)=>.d .bool r
def ZeJ (i:El Za):Empty→Nat×St:=fun j=>nomatch j
theorem ZFM (i:El Za) (L:Lt):entryA Go.Proofs.Tryz.prog (clOf Zri) Zoy Go.Proofs.Tryz.f104 Zl9 L (toForms ZfD (i,()))=(Zwx i).run (fun v=>some (ZmL v,tps (toForms ZfD (i,())))) fun j=>L (ZeJ i j).1 (ZeJ i j).2:=by kernel_rfl
theorem ZEj (i:El Za):∀(L:Lt) (j:Empty),procOf (procsF Go.Proofs.Tryz.prog (clOf Zri) Zoy Go.Proofs.Tryz.f104 Zl9 (toForms ZfD (i,()))) (ZeJ i j).1 L (ZeJ i j).2=(Zx9 i j).run (fun v=>some (ZmL v,tps (toForms ZfD (i,())))) fun j=>L (ZeJ i j).1 (ZeJ i j).2:=fun L j=>nomatch j
noncomputable def ZxH:Run:=entG ZfD ZmL (fun a=>Zhv a.1) (fun a=>Zg4 a.1)
theorem ZE6:EntOK Go.Proofs.Tryz.prog 104 ZxH:=ZJ (tb:=Zoy) (c:=Zl9) ZFi (by kernel_rfl) (by kernel_rfl) (by kernel_rfl) (fun a=>by kernel_rfl) fun ⟨i,_⟩ hk=>Zn (c:=Zl9) (K:=fun v=>(ZmL v,tps (toForms ZfD (i,())))) (S:=ZeJ i) (by kernel_rfl) (ZFM i) (ZEj i) (ZJo i hk)
end
end Go.Ev
end

section
open Go Go.Ev
namespace Go.Ev
noncomputable section
def Zhx:Sig:=[(true,(.sl Za)),(false,(.sl (.int .i64))),(false,(.int .i64))]
noncomputable def ZuT:Tbl:=[(75,Zul),(12,ZzD),(104,ZxH)]
theorem ZJJ:∀p∈ZuT,EntOK Go.Proofs.Tryz.prog p.1 p.2:=Zg Zyg (Zg ZC5 (Zg ZE6 (Zu)))
noncomputable def Zqr:Code:=Go.Proofs.Tryz.f71.body.getD .skip
def Zsh:Tb:=[(4,⟨[1,3,7,8],[]⟩),(10,⟨[1,3,7,9],[]⟩),(15,⟨[1,3,7,9,10],[]⟩),(23,⟨[1,3,7,9,10,11,12],[]⟩)]
inductive Zlm where | l4 (i:Int) (is:List Bool) | l10 (is:List Bool) (moved:Bool) | l15 (is:List Bool) (k:Int) (moved:Bool) | l23 (is:List Bool) (k:Int) (more:List Bool) (moved:Bool) (j_:Int)
def ZaO (t:List (El Za)) (points:List Int) (s:Int):Zlm→JT Zlm (List Bool) |.l4 i is=>.br (decide (i < (Int.ofNat (List.length is)))) (.br ((decide ((0:Int)≤i))&&(decide (i < (Int.ofNat (List.length is))))) (.br (List.getD is (Int.toNat i) (dflt .bool)) (.br (ZlS points i) (.br ((decide ((0:Int)≤i))&&(decide (i < (Int.ofNat (List.length is))))) (.jmp (.l4 (IntKind.i64.wrap (i+(1:Int))) (List.set is (Int.toNat i) (! (Zjl points i))))) (.no)) (.no)) (.br ((decide ((0:Int)≤i))&&(decide (i < (Int.ofNat (List.length is))))) (.jmp (.l4 (IntKind.i64.wrap (i+(1:Int))) (List.set is (Int.toNat i) false))) (.no))) (.no)) (.jmp (.l10 is true)) |.l10 is moved=>.br moved (.jmp (.l15 is (0:Int) false)) (.leaf is) |.l15 is k moved=>.br (decide (k < (Int.ofNat (List.length is)))) (.br ((decide ((0:Int)≤k))&&(decide (k < (Int.ofNat (List.length is))))) (.br (! (List.getD is (Int.toNat k) (dflt .bool))) (.jmp (.l15 is (IntKind.i64.wrap (k+(1:Int))) moved)) (.br ((decide ((0:Int)≤k))&&(decide (k < (Int.ofNat (List.length t))))) (.br (Zhv (List.getD t (Int.toNat k) (dflt Za))) (.br (Zg4 (List.getD t (Int.toNat k) (dflt Za))) (.jmp (.l15 is (IntKind.i64.wrap (k+(1:Int))) moved)) (.br (Zc8 t k) (.jmp (.l23 is k (Za8 t k) moved (0:Int))) (.no))) (.no)) (.no))) (.no)) (.jmp (.l10 is moved)) |.l23 is k more moved j_=>.br (decide (j_ < (Int.ofNat (List.length is)))) (.br ((decide ((0:Int)≤j_))&&(decide (j_ < (Int.ofNat (List.length more))))) (.br (List.getD more (Int.toNat j_) (dflt .bool)) (.br ((decide ((0:Int)≤j_))&&(decide (j_ < (Int.ofNat (List.length is))))) (.br (! (List.getD is (Int.toNat j_) (dflt .bool))) (.br (ZlS points j_) (.br (! (Zjl points j_)) (.br ((decide ((0:Int)≤j_))&&(decide (j_ < (Int.ofNat (List.length is))))) (.jmp (.l23 (List.set is (Int.toNat j_) true) k more true (IntKind.i64.wrap (j_+(1:Int))))) (.no)) (.jmp (.l23 is k more moved (IntKind.i64.wrap (j_+(1:Int)))))) (.no)) (.jmp (.l23 is k more moved (IntKind.i64.wrap (j_+(1:Int)))))) (.no)) (.jmp (.l23 is k more moved (IntKind.i64.wrap (j_+(1:Int)))))) (.no)) (.jmp (.l15 is (IntKind.i64.wrap (k+(1:Int))) moved))
def Zry (t:List (El Za)) (points:List Int) (s:Int):JT Zlm (List Bool):=.br (Zc8 t s) (.jmp (.l4 (0:Int) (Za8 t s))) (.no)
def Zpn:List Bool→AV:=fun (r:List Bool)=>.rw 4 .bool r
def Zgt (t:List (El Za)) (points:List Int) (s:Int):Zlm→Nat×St |.l4 i is=>(4,⟨mkTm 85 [(1,.d (.sl (.int .i64)) points),(3,.pt 4 0 0),(7,.own 8 0 none),(8,.d (.int .i64) i)],[(4,0,.box 34 [.d (.sl Za) t] none),(8,0,.row 4 .bool is false)]⟩) |.l10 is moved=>(10,⟨mkTm 85 [(1,.d (.sl (.int .i64)) points),(3,.pt 4 0 0),(7,.own 8 0 none),(9,.d .bool moved)],[(4,0,.box 34 [.d (.sl Za) t] none),(8,0,.row 4 .bool is false)]⟩) |.l15 is k moved=>(15,⟨mkTm 85 [(1,.d (.sl (.int .i64)) points),(3,.pt 4 0 0),(7,.own 8 0 none),(9,.d .bool moved),(10,.d (.int .i64) k)],[(4,0,.box 34 [.d (.sl Za) t] none),(8,0,.row 4 .bool is false)]⟩) |.l23 is k more moved j_=>(23,⟨mkTm 85 [(1,.d (.sl (.int .i64)) points),(3,.pt 4 0 0),(7,.own 8 0 none),(9,.d .bool moved),(10,.d (.int .i64) k),(11,.own 12 0 none),(12,.d (.int .i64) j_)],[(4,0,.box 34 [.d (.sl Za) t] none),(8,0,.row 4 .bool is false),(12,0,.row 4 .bool more false)]⟩)
theorem ZJe (t:List (El Za)) (points:List Int) (s:Int) (L:Lt):entryA Go.Proofs.Tryz.prog (clOf ZuT) Zsh Go.Proofs.Tryz.f71 Zqr L (toForms Zhx (t,points,s,()))=(Zry t points s).run (fun v=>some (Zpn v,tps (toForms Zhx (t,points,s,())))) fun j=>L (Zgt t points s j).1 (Zgt t points s j).2:=by kernel_rfl
theorem ZIx (t:List (El Za)) (points:List Int) (s:Int):∀(L:Lt) (j:Zlm),procOf (procsF Go.Proofs.Tryz.prog (clOf ZuT) Zsh Go.Proofs.Tryz.f71 Zqr (toForms Zhx (t,points,s,()))) (Zgt t points s j).1 L (Zgt t points s j).2=(ZaO t points s j).run (fun v=>some (Zpn v,tps (toForms Zhx (t,points,s,())))) fun j=>L (Zgt t points s j).1 (Zgt t points s j).2 | L,.l4 i is=>by kernel_rfl | L,.l10 is moved=>by kernel_rfl | L,.l15 is k moved=>by kernel_rfl | L,.l23 is k more moved j_=>by kernel_rfl
end
end Go.Ev
end

section
open Go
namespace Go.Ev
theorem ZOW {i:El Za} (h:smallText i.2.2.2.2.2.1=true):Zew i=true∧Zhv i=true:=by
 have h0:ZU i=true:=h
 have h1:ZB i=true:=h
 have a:Zax i=true:=by unfold Zax;simp only[h0,cond_true,Bool.cond_self]
 have b:Zan i=true:=by unfold Zan;simp only[h1,cond_true,Bool.cond_self]
 unfold Zew Zhv
 simp only[h0,h1,a,b,cond_true,Bool.cond_self,and_self]
theorem ZNf {i:El Za} (h:smallText i.2.2.2.2.2.1=true):Zg4 i=ZgP i:=by
 have h0:ZU i=true:=h
 have h1:ZB i=true:=h
 have a:Zax i=true:=by unfold Zax;simp only[h0,cond_true,Bool.cond_self]
 have b:Zan i=true:=by unfold Zan;simp only[h1,cond_true,Bool.cond_self]
 have c:ZaC i=Zam i:=by
  unfold ZaC Zam ZC
  simp only[h0,h1]
 unfold Zg4 ZgP ZC
 simp only[h0,h1,a,b,c]
end Go.Ev
end

section
open Go
namespace Go.Ev
noncomputable def Zao (t:List (El Za)) (points:List Int) (s:Int):List Bool:=rowOf t.length (endsB t points s)
def Zex (t:List (El Za)) (points:List Int) (s:Int):Bool:=flowOK t&&decide (points.length < 4611686018427387904)
theorem ZLd (t:List (El Za)) (points:List Int) (s:Int) (hk:Zex t points s=true):Goes (ZaO t points s) (Zry t points s) (Zao t points s):=by
 unfold Zex at hk
 rw[Bool.and_eq_true] at hk
 obtain ⟨hf,hpl⟩:=hk
 have hlen:=ZbS hf
 have kIn:∀x,ZlS points x=true:=fun x=>hpl
 have vIn:∀x,Zjl points x=points.contains x:=fun x=>rfl
 generalize hn:t.length=n at hlen
 have kfe:∀k,k < n→Zhv (List.getD t k (dflt Za))=true∧Zg4 (List.getD t k (dflt Za))=fenceAtT t k:=fun k hk=>by
  have hmem:t.getD k (dflt Za)∈t:=by rw[ZG (by omega)];exact List.getElem_mem (by omega)
  have hs:=Zpl hf hmem
  exact ⟨(ZOW hs).2,ZNf hs⟩
 let OK:(Nat→Bool)→(Nat→Bool)→Bool→Prop:=fun M0 M moved=>(∀j,firstB t points s j=true→M j=true)∧(∀j,M j=true→Come (stepB t points) (firstB t points s) j)∧(moved=false→M=M0)∧(moved=true→card n M0 < card n M)
 have hltM:∀ {M0 M moved},OK M0 M moved→∀j,M j=true→j < n:=fun h j hj=>by
  have:=ZDU (n:=t.length) (fun j=>ZHk) (fun k j=>ZES) (h.2.1 j hj)
  omega
 have loop:∀m,∀M:Nat→Bool,n - card n M=m→(∀j,firstB t points s j=true→M j=true)→(∀j,M j=true→Come (stepB t points) (firstB t points s) j)→Goes (ZaO t points s) (.jmp (.l10 (rowOf n M) true)) (Zao t points s):=by
  intro m
  induction m using Nat.strongRecOn with
  | _ m ih=>
  intro M0 hm hA hC
  have inner:∀k,k < n→fenceAtT t k=false→∀Z:Prop,(∀M moved,OK M0 M moved→(moved=false→Z∧∀j,stepB t points k j=true→M0 j=true)→Goes (ZaO t points s) (.jmp (.l15 (rowOf n M) ((k+1:Nat):Int) moved)) (Zao t points s))→
    ∀j,j≤n→∀M moved,M k=true→OK M0 M moved→(moved=false→Z∧∀x,x < j→stepB t points k x=true→M0 x=true)→Goes (ZaO t points s) (.jmp (.l23 (rowOf n M) (k:Int) (rowOf n (nextB t (k:Int))) moved (j:Int))) (Zao t points s):=by
   intro k hkn hfk Z hz
   have hst:∀x,stepB t points k x=(nextB t (k:Int) x&& !points.contains (x:Int)):=fun x=>by unfold stepB;rw[hfk];rfl
   refine down ?_ fun j hj ih2=>?_
   ·intro M moved hMk hok hcl
    rw[Zi,ZaO,Ze,ZK,if_neg (by rw[Zw (Nat.lt_irrefl _)];decide),Zs (by omega)]
    exact hz M moved hok fun hm=>⟨(hcl hm).1,fun j hj=>(hcl hm).2 j (by have:=ZES hj;omega) hj⟩
   ·intro M moved hMk hok hcl
    rw[Zi,ZaO,Ze,ZK,if_pos (ZQ hj),Ze,ZK,if_pos (Zas hj),Ze,Int.toNat_natCast,Zbv hj,Zs (by omega)]
    have skip:(stepB t points k j=true→moved=false→M0 j=true)→Goes (ZaO t points s) (.jmp (.l23 (rowOf n M) (k:Int) (rowOf n (nextB t (k:Int))) moved ((j+1:Nat):Int))) (Zao t points s):=fun hsk=>by
     refine ih2 M moved hMk hok fun hm=>⟨(hcl hm).1,fun x hx hxN=>?_⟩
     by_cases hxj:x=j
     ·subst hxj;exact hsk hxN hm
     ·exact (hcl hm).2 x (by omega) hxN
    by_cases hN:nextB t (k:Int) j=true
    ·rw[if_pos hN,Ze,if_pos (Zas hj),Ze,Zbv hj]
     cases hMj:M j with
     | true=>
      rw[if_neg (by decide)]
      exact skip fun _ hm=>by rw[←hok.2.2.1 hm];exact hMj
     | false=>
      rw[if_pos (by decide),Ze,if_pos (kIn _),Ze,vIn]
      cases hpt:points.contains (j:Int) with
      | true=>
       rw[if_neg (by decide)]
       exact skip fun h _=>by rw[hst,hpt,Bool.not_true,Bool.and_false] at h;cases h
      | false=>
       rw[if_pos (by decide),Ze,if_pos (Zas hj),Zr6]
       have hca:=Zmz hMj hj
       refine ih2 (fun x=>M x || (x==j)) true (by rw[hMk];rfl) ⟨fun x hx=>(show (M x || (x==j))=true by rw[hok.1 x hx];rfl),fun x hx=>?_,fun h=>(by cases h),fun _=>?_⟩ (fun h=>by cases h)
       ·simp only[Bool.or_eq_true,beq_iff_eq] at hx
        rcases hx with hx | hx
        ·exact hok.2.1 x hx
        ·subst hx;exact .step (hok.2.1 k hMk) (by rw[hst,hN,hpt];rfl)
       ·cases moved with
        | true=>have:=hok.2.2.2 rfl;omega
        | false=>rw[hok.2.2.1 rfl] at hca;rw[hok.2.2.1 rfl];omega
    ·rw[if_neg hN]
     exact skip fun h _=>by rw[hst] at h;simp only[Bool.and_eq_true] at h;exact absurd h.1 hN
  have pass:∀k,k≤n→∀M moved,OK M0 M moved→(moved=false→∀k' j,k' < k→M0 k'=true→stepB t points k' j=true→M0 j=true)→Goes (ZaO t points s) (.jmp (.l15 (rowOf n M) (k:Int) moved)) (Zao t points s):=by
   refine down ?_ fun k hkn ih2=>?_
   ·intro M moved hok hcl
    rw[Zi,ZaO,Ze,ZK,if_neg (by rw[Zw (Nat.lt_irrefl _)];decide)]
    cases moved with
    | true=>
     have h1:=hok.2.2.2 rfl
     have h2:= @Ze1 n M
     exact ih (n - card n M) (by omega) M rfl hok.1 hok.2.1
    | false=>
     have e:=hok.2.2.1 rfl
     subst e
     rw[Zi,ZaO,Ze,if_neg (by decide)]
     have hv:rowOf n M=Zao t points s:=by
      unfold Zao endsB
      rw[hn]
      exact Z3 fun j _=>Zpk hok.1 (fun k j hk hj=>hcl rfl k j (hltM hok k hk) hk hj) hok.2.1 j
     rw[hv];exact .leaf
   ·intro M moved hok hcl
    rw[Zi,ZaO,Ze,ZK,if_pos (ZQ hkn),Ze,if_pos (Zas hkn),Ze,Int.toNat_natCast,Zbv hkn]
    cases hMk:M k with
    | false=>
     rw[if_pos (by decide),Zs (by omega)]
     refine ih2 M moved hok fun hm k' j hk' hk1 hj=>?_
     by_cases e:k'=k
     ·subst e;rw[←hok.2.2.1 hm,hMk] at hk1;cases hk1
     ·exact hcl hm k' j (by omega) hk1 hj
    | true=>
     have kn:Zc8 t (k:Int)=true:=hf
     obtain ⟨kf1,vf1⟩:=kfe k hkn
     rw[if_neg (by decide),Ze,hn,if_pos (Zas hkn),Ze,if_pos kf1,Ze,vf1]
     cases hfk:fenceAtT t k with
     | true=>
      rw[if_pos rfl,Zs (by omega)]
      refine ih2 M moved hok fun hm k' j hk' hk1 hj=>?_
      by_cases e:k'=k
      ·subst e;unfold stepB at hj;rw[hfk] at hj;cases hj
      ·exact hcl hm k' j (by omega) hk1 hj
     | false=>
      rw[if_neg (by decide),Ze,if_pos kn]
      have hvn:Za8 t (k:Int)=rowOf n (nextB t (k:Int)):=by unfold Za8;rw[hn]
      rw[hvn]
      refine inner k hkn hfk (∀k' j,k' < k→M0 k'=true→stepB t points k' j=true→M0 j=true) (fun M' moved' hok' hcl'=>ih2 M' moved' hok' fun hm k' j hk' hk1 hj=>?_) 0 (Nat.zero_le _) M moved hMk hok (fun hm=>⟨hcl hm,fun x hx=>by omega⟩)
      by_cases e:k'=k
      ·subst e;exact (hcl' hm).2 j hj
      ·exact (hcl' hm).1 k' j (by omega) hk1 hj
  rw[Zi,ZaO,Ze,if_pos rfl]
  exact pass 0 (Nat.zero_le _) M0 false ⟨hA,hC,fun _=>rfl,fun h=>by cases h⟩ fun _ k' j h=>by omega
 have kn:Zc8 t s=true:=hf
 unfold Zry
 rw[Ze,if_pos kn]
 have hvn:Za8 t s=rowOf n fun j=>if j < 0 then firstB t points s j else nextB t s j:=by
  unfold Za8;rw[hn]
  exact Z3 fun j _=>by rw[if_neg (by omega)]
 rw[hvn]
 have first:∀k,k≤n→Goes (ZaO t points s) (.jmp (.l4 (k:Int) (rowOf n fun j=>if j < k then firstB t points s j else nextB t s j))) (Zao t points s):=by
  refine down ?_ fun k hkn ih=>?_
  ·rw[Zi,ZaO,Ze,ZK,if_neg (by rw[Zw (Nat.lt_irrefl _)];decide)]
   rw[show (rowOf n fun j=>if j < n then firstB t points s j else nextB t s j)=rowOf n (firstB t points s) from Z3 fun j hj=>by rw[if_pos hj]]
   exact loop _ (firstB t points s) rfl (fun j h=>h) (fun j h=>.start h)
  ·have nx:∀b,b=firstB t points s k→Goes (ZaO t points s) (.jmp (.l4 ((k+1:Nat):Int) ((rowOf n fun j=>if j < k then firstB t points s j else nextB t s j).set k b))) (Zao t points s):=fun b hb=>by
    rw[ZBa]
    rw[show (rowOf n fun j=>if j=k then b else if j < k then firstB t points s j else nextB t s j)=rowOf n fun j=>if j < k+1 then firstB t points s j else nextB t s j from Z3 fun j _=>by
     by_cases h1:j=k
     ·subst h1;rw[if_pos rfl,if_pos (by omega),hb]
     ·rw[if_neg h1]
      by_cases h2:j < k
      ·rw[if_pos h2,if_pos (by omega)]
      ·rw[if_neg h2,if_neg (by omega)]]
    exact ih
   rw[Zi,ZaO,Ze,ZK,if_pos (ZQ hkn),Ze,if_pos (Zas hkn),Ze,Int.toNat_natCast,Zbv hkn,if_neg (c:=k < k) (Nat.lt_irrefl k),Zs (by omega)]
   cases hN:nextB t s k with
   | true=>
    rw[if_pos rfl,Ze,if_pos (kIn _),Ze,if_pos (Zas hkn),vIn]
    exact nx _ (by unfold firstB;rw[hN,Bool.true_and])
   | false=>
    rw[if_neg (by decide),Ze,if_pos (Zas hkn)]
    exact nx false (by unfold firstB;rw[hN,Bool.false_and])
 exact first 0 (Nat.zero_le _)
end Go.Ev
end

section
namespace Go.Ev
open Go
def listFrom:Nat→List Bool→List Int
 | _,[]=>[]
 | k,b :: r=>if b then (k:Int) :: listFrom (k+1) r else listFrom (k+1) r
theorem Zyy:∀(l:List Bool) (k:Nat),(listFrom k l).length≤l.length
 | [],_=>Nat.le_refl _
 | b :: r,k=>by
  have:=Zyy r (k+1)
  unfold listFrom
  split <;> simp only[List.length_cons] <;> omega
theorem ZxQ:∀ {l:List Bool} {k:Nat} {x:Int},x∈listFrom k l↔∃i,l[i]? =some true∧x=((k+i:Nat):Int)
 | [],k,x=>by simp[listFrom]
 | b :: r,k,x=>by
  have ih:= @ZxQ r (k+1) x
  unfold listFrom
  constructor
  ·intro h
   cases b with
   | true=>
    rw[if_pos rfl] at h
    rcases List.mem_cons.1 h with rfl | h
    ·exact ⟨0,rfl,by simp⟩
    ·obtain ⟨i,h1,h2⟩:=ih.1 h
     exact ⟨i+1,by simpa using h1,by rw[h2];omega⟩
   | false=>
    rw[if_neg (by decide)] at h
    obtain ⟨i,h1,h2⟩:=ih.1 h
    exact ⟨i+1,by simpa using h1,by rw[h2];omega⟩
  ·rintro ⟨i,h1,h2⟩
   cases i with
   | zero=>
    have hb:b=true:=by simpa using h1
    subst hb
    rw[if_pos rfl,h2]
    exact List.mem_cons_self ..
   | succ i=>
    have:=ih.2 ⟨i,by simpa using h1,by rw[h2];omega⟩
    split
    ·exact List.mem_cons_of_mem _ this
    ·exact this
end Go.Ev
end

section
namespace Go.Ev
open Go
end Go.Ev
end

section
open Go Go.Ev
namespace Go.Ev
noncomputable section
noncomputable def ZAF:Run:=entG Zhx Zpn (fun a=>Zex a.1 a.2.1 a.2.2.1) (fun a=>Zao a.1 a.2.1 a.2.2.1)
theorem ZI5:EntOK Go.Proofs.Tryz.prog 71 ZAF:=ZJ (tb:=Zsh) (c:=Zqr) ZJJ (by kernel_rfl) (by kernel_rfl) (by kernel_rfl) (fun a=>by kernel_rfl) fun ⟨t,points,s,_⟩ hk=>Zn (c:=Zqr) (K:=fun v=>(Zpn v,tps (toForms Zhx (t,points,s,())))) (S:=Zgt t points s) (by kernel_rfl) (ZJe t points s) (ZIx t points s) (ZLd t points s hk)
end
end Go.Ev
end

section
open Go Go.Ev
namespace Go.Ev
noncomputable section
def Zhk:Sig:=[(true,(.sl Za)),(false,(.sl (.int .i64))),(false,(.int .i64)),(false,(.int .i64))]
noncomputable def Zus:Tbl:=[(71,ZAF)]
theorem ZIC:∀p∈Zus,EntOK Go.Proofs.Tryz.prog p.1 p.2:=Zg ZI5 (Zu)
noncomputable def Zpg:Code:=Go.Proofs.Tryz.f49.body.getD .skip
def ZrZ:Tb:=[]
def ZAk (t:List (El Za)) (points:List Int) (s:Int) (l:Int):Empty→JT Empty (Bool):=fun j=>nomatch j
def Zyr (t:List (El Za)) (points:List Int) (s:Int) (l:Int):JT Empty (Bool):=.br (decide (l≥(0:Int))) (.br (decide (l < (Int.ofNat (List.length t)))) (.br (Zex t points s) (.br ((decide ((0:Int)≤l))&&(decide (l < (Int.ofNat (List.length (Zao t points s)))))) (.leaf (List.getD (Zao t points s) (Int.toNat l) (dflt .bool))) (.no)) (.no)) (.leaf false)) (.leaf false)
def ZgF (t:List (El Za)) (points:List Int) (s:Int) (l:Int):Bool:=bif (decide (l≥(0:Int))) then bif (decide (l < (Int.ofNat (List.length t)))) then bif (Zex t points s) then bif ((decide ((0:Int)≤l))&&(decide (l < (Int.ofNat (List.length (Zao t points s)))))) then (List.getD (Zao t points s) (Int.toNat l) (dflt .bool)) else false else false else false else false
def Zix (t:List (El Za)) (points:List Int) (s:Int) (l:Int):Bool:=bif (decide (l≥(0:Int))) then bif (decide (l < (Int.ofNat (List.length t)))) then bif (Zex t points s) then bif ((decide ((0:Int)≤l))&&(decide (l < (Int.ofNat (List.length (Zao t points s)))))) then true else false else false else true else true
theorem ZKh (t:List (El Za)) (points:List Int) (s:Int) (l:Int) (hk:Zix t points s l=true):Goes (ZAk t points s l) (Zyr t points s l) (ZgF t points s l):=Goes.brk hk (fun hk=>Goes.brk hk (fun hk=>Goes.brk hk (fun hk=>Goes.brk hk (fun hk=>Goes.leaf) (fun hk=>Goes.nok hk)) (fun hk=>Goes.nok hk)) (fun hk=>Goes.leaf)) (fun hk=>Goes.leaf)
def ZoN:Bool→AV:=fun (r:Bool)=>.d .bool r
def ZgE (t:List (El Za)) (points:List Int) (s:Int) (l:Int):Empty→Nat×St:=fun j=>nomatch j
theorem ZGS (t:List (El Za)) (points:List Int) (s:Int) (l:Int) (L:Lt):entryA Go.Proofs.Tryz.prog (clOf Zus) ZrZ Go.Proofs.Tryz.f49 Zpg L (toForms Zhk (t,points,s,l,()))=(Zyr t points s l).run (fun v=>some (ZoN v,tps (toForms Zhk (t,points,s,l,())))) fun j=>L (ZgE t points s l j).1 (ZgE t points s l j).2:=by kernel_rfl
theorem ZH2 (t:List (El Za)) (points:List Int) (s:Int) (l:Int):∀(L:Lt) (j:Empty),procOf (procsF Go.Proofs.Tryz.prog (clOf Zus) ZrZ Go.Proofs.Tryz.f49 Zpg (toForms Zhk (t,points,s,l,()))) (ZgE t points s l j).1 L (ZgE t points s l j).2=(ZAk t points s l j).run (fun v=>some (ZoN v,tps (toForms Zhk (t,points,s,l,())))) fun j=>L (ZgE t points s l j).1 (ZgE t points s l j).2:=fun L j=>nomatch j
noncomputable def Zz3:Run:=entG Zhk ZoN (fun a=>Zix a.1 a.2.1 a.2.2.1 a.2.2.2.1) (fun a=>ZgF a.1 a.2.1 a.2.2.1 a.2.2.2.1)
theorem ZIb:EntOK Go.Proofs.Tryz.prog 49 Zz3:=ZJ (tb:=ZrZ) (c:=Zpg) ZIC (by kernel_rfl) (by kernel_rfl) (by kernel_rfl) (fun a=>by kernel_rfl) fun ⟨t,points,s,l,_⟩ hk=>Zn (c:=Zpg) (K:=fun v=>(ZoN v,tps (toForms Zhk (t,points,s,l,())))) (S:=ZgE t points s l) (by kernel_rfl) (ZGS t points s l) (ZH2 t points s l) (ZKh t points s l hk)
end
end Go.Ev
end

section
open Go
namespace Go.Ev
theorem ZFu {t:List (El Za)} {points:List Int} (h:flowOK t=true) (hp:points.length < 4611686018427387904) (s l:Int):
  ZgX t points s l=true∧Zix t points s l=true∧ZgF t points s l=ZdT t points s l∧ZdT t points s l=(decide (0≤l∧l < (t.length:Int))&&endsB t points s l.toNat):=by
 have hl:=ZbS h
 have k4:Zex t points s=true:=by unfold Zex;rw[h,decide_eq_true hp];rfl
 obtain ⟨kr,vr⟩:=ZM6 h hp s l
 refine ⟨kr,?_,?_,vr⟩
 ·unfold Zix
  by_cases h0:l≥0
  ·rw[decide_eq_true h0,cond_true]
   by_cases h1:l < Int.ofNat t.length
   ·have h2:decide (l < Int.ofNat (Zao t points s).length)=true:=by
     unfold Zao
     rw[ZK];exact decide_eq_true h1
    simp only[decide_eq_true h1,k4,h2,Bool.and_self,Bool.true_and,cond_true]
   ·rw[decide_eq_false h1];rfl
  ·rw[decide_eq_false h0];rfl
 ·rw[vr]
  unfold ZgF
  by_cases h0:l≥0
  ·rw[decide_eq_true h0,cond_true]
   by_cases h1:l < Int.ofNat t.length
   ·have h2:decide (l < Int.ofNat (Zao t points s).length)=true:=by
     unfold Zao
     rw[ZK];exact decide_eq_true h1
    simp only[decide_eq_true h1,k4,h2,Bool.and_self,Bool.true_and,cond_true]
    rw[decide_eq_true (show 0≤l∧l < (t.length:Int) from ⟨h0,h1⟩),Bool.true_and]
    unfold Zao
    obtain ⟨j,rfl⟩:=Int.eq_ofNat_of_zero_le h0
    rw[Int.toNat_natCast,Zbv (by have:(j:Int) < (t.length:Int):=h1;omega)]
   ·rw[decide_eq_false h1,decide_eq_false (show ¬(0≤l∧l < (t.length:Int)) from fun h=>h1 h.2)];rfl
  ·rw[decide_eq_false h0,decide_eq_false (show ¬(0≤l∧l < (t.length:Int)) from fun h=>h0 h.1)];rfl
end Go.Ev
end

section
open Go Go.Ev
namespace Go.Ev
noncomputable section
noncomputable def Zvf:Run:=entG Zd8 Zj6 (fun a=>Zbl a.1) (fun a=>ZH a.1)
theorem ZBW:EntOK Go.Proofs.Tryz.prog 29 Zvf:=ZJ (tb:=ZnQ) (c:=Zki) ZBH (by kernel_rfl) (by kernel_rfl) (by kernel_rfl) (fun a=>by kernel_rfl) fun ⟨p,_⟩ hk=>Zn (c:=Zki) (K:=fun v=>(Zj6 v,tps (toForms Zd8 (p,())))) (S:=ZdQ p) (by kernel_rfl) (ZBV p) (ZCj p) (ZGo p hk)
end
end Go.Ev
end

section
open Go
namespace Go.Ev
noncomputable def openR (p:El Zc) (x:El Zd):Bool:=ZgF (List.getD p.2 (Int.toNat x.1) (dflt (.sl Za))) [] x.2.1 x.2.2
noncomputable def openRK (p:El Zc) (x:El Zd):Bool:=(decide ((0:Int)≤x.1)&&decide (x.1 < Int.ofNat (List.length p.2)))&&Zix (List.getD p.2 (Int.toNat x.1) (dflt (.sl Za))) [] x.2.1 x.2.2
noncomputable def Zov (p:El Zc):List (El Zd):=(ZH p).filter (openR p)
noncomputable def Zo2 (p:El Zc):Bool:=Zbl p&&(decide ((ZH p).length < 10000000000)&&(ZH p).all (openRK p))
end Go.Ev
end

section
open Go
namespace Go.Ev
end Go.Ev
end

section
open Go
namespace Go.Ev
def fromX (t:List (El Za)) (i:Int) (j:Nat):Bool:=(comeL (fun k j=>nextB t (k:Int) j) (nextB t i) t.length).getD j false
theorem ZLz (t:List (El Za)) (i:Int) (j:Nat):fromB t i j=fromX t i j:=ZGu (fun j=>ZdV) (fun k j=>ZdV) j
def behX (p:El Zc) (l:List Acc) (c d:Nat):Bool:=
 decide (d < l.length)&&(thA l d==thA l c&&(d==c || ((inA l d==inA l c&&decide (paA l d > paA l c)) || (decide (0≤inA l d)&&fromX (thrOf p l c) (inA l c) (inA l d).toNat))))
theorem ZPF (p:El Zc) (l:List Acc) (c d:Nat):behB p l c d=behX p l c d:=by
 unfold behB behX
 rw[ZLz]
def chX (p:El Zc) (l:List Acc) (a i k:Nat):Bool:=decide (k < l.length)&&(!(thA l k==thA l a)&&(clB l i k || behX p l i k))
def isX (p:El Zc) (l:List Acc) (a k:Nat):Bool:=(comeL (chX p l a) (chS l a) l.length).getD k false
theorem ZQh (p:El Zc) (l:List Acc) (a k:Nat):isB p l a k=isX p l a k:=by
 have e:chB p l a=chX p l a:=by
  funext i k
  unfold chB chX
  rw[ZPF]
 unfold isB isX
 rw[e]
 refine ZGu (fun j h=>?_) (fun k j h=>?_) k
 ·unfold chS at h
  rw[Bool.and_eq_true,decide_eq_true_eq] at h
  exact h.1
 ·unfold chX at h
  rw[Bool.and_eq_true,decide_eq_true_eq] at h
  exact h.1
def backX (p:El Zc) (l:List Acc) (a b:Nat):Bool:=thA l b==thA l a&&(List.range l.length).any fun k=>isX p l a k&&clB l k b
theorem ZOH (p:El Zc) (l:List Acc) (a b:Nat):backB p l a b=backX p l a b:=by
 unfold backB backX
 simp only[ZQh]
end Go.Ev
end

section
open Go
namespace Go.Ev
theorem ZLN (p:El Zc):(ZH p).length≤(ofC p).length*(ofC p).length:=by
 unfold ZH delsFrom
 have:=Zpb (ZLS p (ofC p)) (List.range' 0 ((ofC p).length - 0))
 rw[List.length_range',Nat.sub_zero] at this
 exact this
theorem ZER {p:El Zc} {x:El Zd} (h:x∈ZH p):∃s r,s < (ofC p).length∧r < (ofC p).length∧stB' (ofC p) s=true∧delB p (ofC p) s r=true∧x=delPair (ofC p) s r:=by
 unfold ZH delsFrom at h
 obtain ⟨s,hs,hx⟩:=List.mem_flatMap.1 h
 rw[Nat.sub_zero,←List.range_eq_range'] at hs
 unfold delS at hx
 split at hx
 ·rename_i hst
  obtain ⟨r,hr,rfl⟩:=List.mem_map.1 hx
  obtain ⟨hr1,hr2⟩:=List.mem_filter.1 hr
  rw[←List.range_eq_range'] at hr1
  exact ⟨s,r,List.mem_range.1 hs,List.mem_range.1 hr1,hst,hr2,rfl⟩
 ·cases hx
theorem ZAN {p:El Zc} (h:smallAll p=true) {x:El Zd} (hx:x∈ZH p):openK p x=true∧openRK p x=true∧openR p x=openB p x:=by
 obtain ⟨s,r,hs,hr,h1,h2,rfl⟩:=ZER hx
 obtain ⟨t0,t1,hf,i0,i1⟩:=Zgf h hs
 have hf':flowOK (List.getD p.2 (Int.toNat (delPair (ofC p) s r).1) (dflt (.sl Za)))=true:=hf
 obtain ⟨f1,f2,f3,_⟩:=ZFu hf' (points:=[]) (by decide) (delPair (ofC p) s r).2.1 (delPair (ofC p) s r).2.2
 have hin:(decide ((0:Int)≤(delPair (ofC p) s r).1)&&decide ((delPair (ofC p) s r).1 < Int.ofNat (List.length p.2)))=true:=by
  rw[Bool.and_eq_true,decide_eq_true_eq,decide_eq_true_eq];exact ⟨t0,t1⟩
 unfold openK openRK openR openB
 rw[hin,f1,f2]
 exact ⟨rfl,rfl,f3⟩
theorem ZMb {p:El Zc} (h:smallAll p=true) (hN:(ofC p).length≤20000) (hT:p.2.length≤100):
  ZS p=true∧Zbl p=true∧ZH p=Zk p∧ZqQ (Zk p) (Zk p)=true∧Zbq p=true∧Zo2 p=true∧Zov p=Zv p∧ZqQ (Zv p) (Zv p)=true:=by
 have hNN:(ofC p).length*(ofC p).length≤20000*20000:=Nat.mul_le_mul hN hN
 have hTN:p.2.length*((ofC p).length*(ofC p).length)≤100*(20000*20000):=Nat.mul_le_mul hT hNN
 have k1:ZS p=true:=by
  unfold ZS
  rw[h,decide_eq_true (show (ofC p).length < 1000000000 by omega),decide_eq_true (show p.2.length < 1000000000 by omega),decide_eq_true]
  ·rfl
  ·unfold limit;omega
 have k2:Zbl p=true:=by unfold Zbl;rw[h,decide_eq_true (show (ofC p).length < 1000000 by omega)];rfl
 have e:=ZN8 k1
 have hl:=ZLN p
 have hl2:(ZH p).length≤400000000:=by omega
 have k3:Zbq p=true:=by
  unfold Zbq
  rw[k1,e,decide_eq_true (Nat.lt_of_le_of_lt hl2 (by decide)),Bool.true_and,Bool.true_and]
  exact List.all_eq_true.2 fun x hx=>(ZAN h hx).1
 have k4:Zo2 p=true:=by
  unfold Zo2
  rw[k2,decide_eq_true (Nat.lt_of_le_of_lt hl2 (by decide)),Bool.true_and,Bool.true_and]
  exact List.all_eq_true.2 fun x hx=>(ZAN h hx).2.1
 have e2:Zov p=Zv p:=by
  unfold Zov Zv
  rw[e]
  exact List.filter_congr fun x hx=>(ZAN h hx).2.2
 refine ⟨k1,k2,e.symm,decide_eq_true (by rw[e];exact Nat.lt_of_le_of_lt hl2 (by decide)),k3,k4,e2,decide_eq_true ?_⟩
 have:(Zv p).length≤(Zk p).length:=by unfold Zv;exact List.length_filter_le _ _
 rw[e] at this
 exact Nat.lt_of_le_of_lt (Nat.le_trans this hl2) (by decide)
def delBX (p:El Zc) (l:List Acc) (s r:Nat):Bool:=((thA l r==thA l s)&&ldB' l r)&&(fromX (thrOf p l s) (inA l s) (inA l r).toNat&&backX p l r s)
def delsX (p:El Zc) (l:List Acc):List (El Zd):=(List.range' 0 l.length).flatMap fun s=>if stB' l s then ((List.range' 0 l.length).filter fun r=>delBX p l s r).map (delPair l s) else []
theorem ZOM (p:El Zc):ZH p=delsX p (ofC p):=by
 unfold ZH delsFrom delsX delS
 rw[Nat.sub_zero]
 have:∀l s r,delB p l s r=delBX p l s r:=fun l s r=>by unfold delB delBX;rw[ZLz,ZOH]
 simp only[this]
def endsX (t:List (El Za)) (points:List Int) (s:Int) (j:Nat):Bool:=(comeL (stepB t points) (firstB t points s) t.length).getD j false
theorem ZLJ (t:List (El Za)) (points:List Int) (s:Int) (j:Nat):endsB t points s j=endsX t points s j:=ZGu (fun j=>ZHk) (fun k j=>ZES) j
end Go.Ev
end

section
namespace Go.Ev
open Go
theorem Zrp {zs:List Int} {j:Nat} (h:j < zs.length):zs.toArray[j]! =zs[j]:=by simp[h]
theorem ZLc {zs:List Int} {x:Int} :x∈Go.Lib.compact zs↔x∈zs:=by
 unfold Go.Lib.compact Go.Lib.compactUpTo
 rw[List.mem_map]
 constructor
 ·rintro ⟨j,hj,rfl⟩
  obtain ⟨h1,_⟩:=List.mem_filter.1 hj
  have hj:=List.mem_range.1 h1
  rw[Zrp hj]
  exact List.getElem_mem hj
 ·intro hx
  obtain ⟨j,hj,he⟩:=List.mem_iff_getElem.1 hx
  induction j using Nat.strongRecOn with
  | _ j ih=>
  by_cases hk:Go.Lib.keeps zs.toArray j=true
  ·exact ⟨j,List.mem_filter.2 ⟨List.mem_range.2 hj,hk⟩,by rw[Zrp hj,he]⟩
  ·unfold Go.Lib.keeps at hk
   simp only[ne_eq,decide_eq_true_eq,not_or,Decidable.not_not] at hk
   obtain ⟨h0,h1⟩:=hk
   have hj':j - 1 < zs.length:=by omega
   rw[Zrp hj,Zrp hj'] at h1
   exact ih (j - 1) (by omega) hj' (h1▸he)
theorem ZCv {zs:List Int} (h:zs.Pairwise (· ≤ ·)):(Go.Lib.compact zs).Pairwise (· < ·):=by
 unfold Go.Lib.compact Go.Lib.compactUpTo
 have hg:=List.pairwise_iff_getElem.1 h
 refine List.pairwise_map.2 ((List.Pairwise.filter _ List.pairwise_lt_range).imp_of_mem ?_)
 intro i j hi hj hij
 obtain ⟨h1,_⟩:=List.mem_filter.1 hi
 obtain ⟨h2,h3⟩:=List.mem_filter.1 hj
 have hi:=List.mem_range.1 h1
 have hj:=List.mem_range.1 h2
 have hj':j - 1 < zs.length:=by omega
 unfold Go.Lib.keeps at h3
 simp only[ne_eq,decide_eq_true_eq] at h3
 rw[Zrp hi,Zrp hj]
 rw[Zrp hj,Zrp hj'] at h3
 have a1:zs[i]≤zs[j - 1]:=by
  by_cases e:i=j - 1
  ·subst e;exact Int.le_refl _
  ·exact hg i (j - 1) hi hj' (by omega)
 have a2:zs[j - 1]≤zs[j]:=hg (j - 1) j hj' hj (by omega)
 rcases h3 with h3 | h3
 ·omega
 ·have:zs[j]≠zs[j - 1]:=h3
  omega
@[reducible] def risL (l:List Int):List Int:=Go.Lib.compact (sorted l)
theorem ZNM (l:List Int):(sorted l).Pairwise (· ≤ ·):=by
 have:=List.pairwise_mergeSort (le:=fun x y:Int=>decide (x≤y)) (fun a b c h1 h2=>by simp at*;omega) (fun a b=>by simp;omega) l
 exact this.imp fun h=>by simpa using h
theorem ZLC {l:List Int} {x:Int} :x∈risL l↔x∈l:=by rw[ZLc,List.mem_mergeSort]
theorem ZA4 {l:List Int} :(risL l).Pairwise (· < ·):=ZCv (ZNM l)
theorem ZLo {l:List Int} :(risL l).length≤l.length:=by
 have:=Go.Lib.compact_length_le (sorted l)
 rwa[List.length_mergeSort] at this
def putL (n:Int):List Int→List Int
 | []=>[n]
 | x :: r=>if x < n then x :: putL n r else if x=n then x :: r else n :: x :: r
theorem ZDL {n x:Int} :∀ {l:List Int},x∈putL n l↔x=n∨x∈l
 | []=>by simp[putL]
 | y :: r=>by
  unfold putL
  split
  ·rw[List.mem_cons,ZDL,List.mem_cons]
   constructor
   ·rintro (h | h | h) <;> simp[h]
   ·rintro (h | h | h) <;> simp[h]
  ·split
   ·rename_i h
    subst h
    simp
   ·simp
theorem ZzQ {n:Int} :∀ {l:List Int},l.Pairwise (· < ·)→(putL n l).Pairwise (· < ·)
 | [],_=>by simp[putL]
 | y :: r,h=>by
  obtain ⟨h1,h2⟩:=List.pairwise_cons.1 h
  unfold putL
  split
  ·refine List.pairwise_cons.2 ⟨fun z hz=>?_,ZzQ h2⟩
   rcases ZDL.1 hz with rfl | hz
   ·assumption
   ·exact h1 z hz
  ·split
   ·exact h
   ·refine List.pairwise_cons.2 ⟨fun z hz=>?_,h⟩
    rcases List.mem_cons.1 hz with rfl | hz
    ·omega
    ·have:=h1 z hz;omega
def putsL (acc:List Int) (l:List Int):List Int:=l.foldl (fun a n=>putL n a) acc
theorem Zoa {x:Int} :∀ {l acc:List Int},x∈putsL acc l↔x∈acc∨x∈l
 | [],acc=>by simp[putsL]
 | n :: r,acc=>by
  show x∈putsL (putL n acc) r↔_
  rw[Zoa,ZDL,List.mem_cons]
  constructor
  ·rintro ((h | h) | h) <;> simp[h]
  ·rintro (h | h | h) <;> simp[h]
theorem Zjf:∀ {l acc:List Int},acc.Pairwise (· < ·)→(putsL acc l).Pairwise (· < ·)
 | [],acc,h=>h
 | n :: r,acc,h=>Zjf (l:=r) (ZzQ h)
end Go.Ev
end

section
open Go
namespace Go.Ev
section
variable {α:Type} (U:List Int→α→Bool)
def stepG (pts:List Int) (l:List α) (acc:Int×List α) (k:Nat):Int×List α:=if (l.filter (U (pts++[(k:Int)]))).length < acc.2.length then ((k:Int),l.filter (U (pts++[(k:Int)]))) else acc
def bestFrom (n:Nat) (pts:List Int) (l:List α) (k:Nat) (acc:Int×List α):Int×List α:=(List.range' k (n - k)).foldl (stepG U pts l) acc
def bestG (n:Nat) (pts:List Int) (l:List α):Int×List α:=bestFrom U n pts l 0 (0,l)
def greedyL (n:Nat):Nat→List Int→List α→List Int
 | 0,pts,_=>pts
 | f+1,pts,l=>if l.length=0 then pts else greedyL n f (pts++[(bestG U n pts l).1]) (bestG U n pts l).2
def pruneL (all:List α):List Int→List Int→List Int
 | done,[]=>done
 | done,x :: r=>if (all.filter (U (done++r))).length=0 then pruneL all done r else pruneL all (done++[x]) r
variable {U}
theorem Zxz {n:Nat} {pts:List Int} {l:List α} {acc:Int×List α} :bestFrom U n pts l n acc=acc:=by unfold bestFrom;rw[Nat.sub_self];rfl
theorem ZvN {n:Nat} {pts:List Int} {l:List α} {k:Nat} (hk:k < n) {acc:Int×List α} :bestFrom U n pts l k acc=bestFrom U n pts l (k+1) (stepG U pts l acc k):=by
 unfold bestFrom
 rw[show n - k=(n - (k+1))+1 by omega,List.range'_succ,List.foldl_cons]
theorem ZHA {n:Nat} {pts:List Int} {l:List α} :∀(m k:Nat),k+m=n→∀acc:Int×List α,
  ((bestFrom U n pts l k acc)=acc∨∃j:Nat,k≤j∧j < n∧(bestFrom U n pts l k acc).1=(j:Int)∧(bestFrom U n pts l k acc).2=l.filter (U (pts++[(j:Int)]))∧(bestFrom U n pts l k acc).2.length < acc.2.length)∧
  (bestFrom U n pts l k acc).2.length≤acc.2.length∧∀j:Nat,k≤j→j < n→(bestFrom U n pts l k acc).2.length≤(l.filter (U (pts++[(j:Int)]))).length:=by
 intro m
 induction m with
 | zero=>
  intro k hk acc
  have:k=n:=by omega
  subst this
  rw[Zxz]
  exact ⟨.inl rfl,Nat.le_refl _,fun j h1 h2=>by omega⟩
 | succ m ih=>
  intro k hk acc
  rw[ZvN (by omega)]
  obtain ⟨h1,h2,h3⟩:=ih (k+1) (by omega) (stepG U pts l acc k)
  unfold stepG at h1 h2 h3 ⊢
  by_cases hc:(l.filter (U (pts++[(k:Int)]))).length < acc.2.length
  ·rw[if_pos hc] at h1 h2 h3 ⊢
   refine ⟨.inr ?_,by simp only at h2;omega,fun j j1 j2=>?_⟩
   ·rcases h1 with h1 | ⟨j,j1,j2,j3,j4,j5⟩
    ·rw[h1];exact ⟨k,Nat.le_refl _,by omega,rfl,rfl,hc⟩
    ·exact ⟨j,by omega,j2,j3,j4,by simp only at j5;omega⟩
   ·by_cases e:j=k
    ·subst e;exact h2
    ·exact h3 j (by omega) j2
  ·rw[if_neg hc] at h1 h2 h3 ⊢
   refine ⟨?_,h2,fun j j1 j2=>?_⟩
   ·rcases h1 with h1 | ⟨j,j1,j2,j3⟩
    ·exact .inl h1
    ·exact .inr ⟨j,by omega,j2,j3⟩
   ·by_cases e:j=k
    ·subst e;omega
    ·exact h3 j (by omega) j2
def Cuts (U:List Int→α→Bool) (n:Nat) (l:List α):Prop:=∀x∈l,∃k:Nat,k < n∧∀pts:List Int,U (pts++[(k:Int)]) x=false
theorem ZOr {p:α→Bool} {l:List α} {x:α} (hx:x∈l) (hp:p x=false):(l.filter p).length < l.length:=by
 induction l with
 | nil=>cases hx
 | cons y r ih=>
  rw[List.filter_cons]
  rcases List.mem_cons.1 hx with rfl | hx
  ·rw[hp,if_neg Bool.false_ne_true]
   have:=List.length_filter_le p r
   show (List.filter p r).length < r.length+1
   omega
  ·have:=ih hx
   split
   ·show (List.filter p r).length+1 < r.length+1
    omega
   ·show (List.filter p r).length < r.length+1
    omega
theorem ZMk {n:Nat} {pts:List Int} {l:List α} (hc:Cuts U n l) (hl:0 < l.length):
  ∃j:Nat,j < n∧(bestG U n pts l).1=(j:Int)∧(bestG U n pts l).2=l.filter (U (pts++[(j:Int)]))∧(bestG U n pts l).2.length < l.length:=by
 obtain ⟨h1,h2,h3⟩:=ZHA (U:=U) (n:=n) (pts:=pts) (l:=l) n 0 (by omega) (0,l)
 have hx:l[0]∈l:=List.getElem_mem hl
 obtain ⟨k,hk,hU⟩:=hc _ hx
 have h4:=h3 k (Nat.zero_le _) hk
 have h5:=ZOr hx (hU pts)
 unfold bestG
 rcases h1 with h1 | ⟨j,_,j2,j3,j4,j5⟩
 ·rw[h1] at h4
  simp only at h4
  omega
 ·exact ⟨j,j2,j3,j4,j5⟩
theorem ZO2 {n:Nat} {l m:List α} (h:Cuts U n l) (hs:∀x∈m,x∈l):Cuts U n m:=fun x hx=>h x (hs x hx)
def Mem (U:List Int→α→Bool):Prop:=∀ {p q:List Int},(∀k,k∈p↔k∈q)→∀x,U p x=U q x
theorem Ztn {all:List α} :∀(done rest:List Int),(pruneL U all done rest).length≤done.length+rest.length∧∀x∈pruneL U all done rest,x∈done∨x∈rest
 | done,[]=>by simp[pruneL]
 | done,x :: r=>by
  unfold pruneL
  split
  ·obtain ⟨h1,h2⟩:=Ztn (all:=all) done r
   exact ⟨by simp;omega,fun y hy=>(h2 y hy).imp id fun h=>by simp[h]⟩
  ·obtain ⟨h1,h2⟩:=Ztn (all:=all) (done++[x]) r
   refine ⟨by simp at h1 ⊢;omega,fun y hy=>?_⟩
   rcases h2 y hy with h | h
   ·rcases List.mem_append.1 h with h | h
    ·exact .inl h
    ·rw[List.mem_singleton] at h;simp[h]
   ·simp[h]
end
end Go.Ev
end

section
open Go
namespace Go.Ev
abbrev PairD:=El Zd
theorem ZLf {a b:Nat} (h:a < b):decide (Int.ofNat a < Int.ofNat b)=true:=decide_eq_true (Int.ofNat_lt.2 h)
theorem ZEC {a b:Nat} (h:¬a < b):decide (Int.ofNat a < Int.ofNat b)=false:=decide_eq_false fun h'=>h (Int.ofNat_lt.1 h')
theorem ZNl {y:Int} {n:Nat} (h0:0≤y) (h:y < (n:Int)):y.toNat < n:=by omega
noncomputable def uB (t:List (El Za)) (pts:List Int) (x:PairD):Bool:=decide ((0:Int)≤x.2.2∧(show Int from x.2.2) < (t.length:Int))&&endsB t pts x.2.1 (Int.toNat x.2.2)
def uX (t:List (El Za)) (pts:List Int) (x:PairD):Bool:=decide ((0:Int)≤x.2.2∧(show Int from x.2.2) < (t.length:Int))&&endsX t pts x.2.1 (Int.toNat x.2.2)
theorem ZQc (t:List (El Za)):uB t=uX t:=by
 funext pts x
 unfold uB uX
 rw[ZLJ]
theorem ZtF {p q:List Int} (h:∀k,k∈p↔k∈q) (j:Int):p.contains j=q.contains j:=by
 rw[Bool.eq_iff_iff,List.contains_iff_mem,List.contains_iff_mem,h]
theorem ZQC (t:List (El Za)):Mem (uB t):=fun {p q} h x=>by
 unfold uB endsB
 have e1:stepB t p=stepB t q:=by
  funext k j
  unfold stepB
  rw[ZtF h]
 have e2:firstB t p x.2.1=firstB t q x.2.1:=by
  funext j
  unfold firstB
  rw[ZtF h]
 rw[e1,e2]
theorem ZP0 {t:List (El Za)} {pts:List Int} {x:PairD} (h:(show Int from x.2.2)∈pts):uB t pts x=false:=by
 unfold uB
 by_cases hr:(0:Int)≤x.2.2∧(show Int from x.2.2) < (t.length:Int)
 ·rw[decide_eq_true hr,Bool.true_and,Bool.eq_false_iff]
  intro he
  unfold endsB at he
  have hc:∀j,pts.contains ((j:Nat):Int)=true→firstB t pts x.2.1 j=false∧∀k,stepB t pts k j=false:=fun j hj=>by
   unfold firstB stepB
   rw[hj]
   simp
  have hj:pts.contains (((Int.toNat x.2.2:Nat)):Int)=true:=by
   rw[List.contains_iff_mem,Int.toNat_of_nonneg hr.1]
   exact h
  cases ZcI.1 he with
  | start h=>rw[(hc _ hj).1] at h;cases h
  | step _ h=>rw[(hc _ hj).2] at h;cases h
 ·rw[decide_eq_false hr,Bool.false_and]
theorem ZPV {t:List (El Za)} {p q:List Int} (h:∀k,k∈p→k∈q) {x:PairD} (hx:uB t q x=true):uB t p x=true:=by
 unfold uB at hx ⊢
 rw[Bool.and_eq_true] at hx ⊢
 refine ⟨hx.1,?_⟩
 have hc:∀j:Int,(! q.contains j)=true→(! p.contains j)=true:=fun j hj=>by
  rw[Bool.not_eq_true',Bool.eq_false_iff] at hj ⊢
  intro hp
  rw[List.contains_iff_mem] at hp
  exact hj (by rw[List.contains_iff_mem];exact h j hp)
 unfold endsB at hx ⊢
 rw[ZcI]
 refine ZM9 (fun j hj=>?_) (fun k j hj=>?_) (ZcI.1 hx.2)
 ·unfold firstB at hj ⊢
  rw[Bool.and_eq_true] at hj ⊢
  exact ⟨hj.1,hc _ hj.2⟩
 ·unfold stepB at hj ⊢
  rw[Bool.and_eq_true,Bool.and_eq_true] at hj ⊢
  exact ⟨hj.1,hj.2.1,hc _ hj.2.2⟩
theorem ZNa (l:List Int):risL l=putsL [] l:=ZkP ZA4 (Zjf .nil) fun x=>by rw[ZLC,Zoa];simp
theorem ZP8 {l:List Int} (h:l.Pairwise (· < ·)):putsL [] l=l:=ZkP (Zjf .nil) h fun x=>by rw[Zoa];simp
def ofB (t:Int) (x:PairD):Bool:=(show Int from x.1)==t
def missL (U:List Int→PairD→Bool) (pts:List Int) (l:List PairD):List PairD:=l.filter (U pts)
def inR (n:Nat) (k:Int):Bool:=decide (0≤k)&&decide (k < (n:Int))
def pruneV (U:List Int→PairD→Bool) (n:Nat) (all:List PairD) (pts:List Int):List Int:=pruneL U all [] (putsL [] (pts.filter (inR n)))
def greedyV (U:List Int→PairD→Bool) (n:Nat) (l:List PairD):List Int:=putsL [] (greedyL U n l.length [] l)
def shorter (a b:List Int):List Int:=if b.length < a.length then b else a
def pointsV (U:List Int→PairD→Bool) (n:Nat) (all op:List PairD):List Int:=
 shorter (shorter (pruneV U n all (greedyV U n op)) (pruneV U n all (op.map fun x=>(show Int from x.2.1)+1))) (pruneV U n all (op.map fun x=>x.2.2))
def cutOK (p:El Zc):Bool:=smallAll p&&(decide ((ofC p).length≤20000)&&decide (p.2.length≤100))
def thrT (p:El Zc) (t:Int):List (El Za):=List.getD p.2 (Int.toNat t) (dflt (.sl Za))
def rightT (p:El Zc) (t:Int):Bool:=decide ((0:Int)≤t)&&(decide (t < (p.2.length:Int))&&decide (checkC p=0))
end Go.Ev
end

section
open Go
namespace Go.Ev
def Z5 (l:List (El Zd)) (t:Int):List (El Zd):=l.filter (ofB t)
def ZcA (l:List (El Zd)) (t:Int):Bool:=decide (l.length < 1000000000000)
theorem ZOR (l:List (El Zd)) (t:Int) (hk:ZcA l t=true):Goes (Zve l t) (ZIW l t) (Z5 l t):=by
 have hN:=of_decide_eq_true hk
 have loop:∀k,k≤l.length→∀out:List (El Zd),out.length≤k→Goes (Zve l t) (.jmp (.l4 (k:Int) out)) (out++(l.drop k).filter (ofB t)):=by
  refine down ?_ fun k hk ih=>?_
  ·intro out ho
   rw[Zi,Zve,Ze,if_neg (by rw[Zw (Nat.lt_irrefl _)];decide),List.drop_length]
   simp only[List.filter_nil,List.append_nil]
   exact .leaf
  ·intro out ho
   have b1:Nat.ble ((out.length+1)*24) limit=true:=Nat.ble_eq_true_of_le (by unfold limit;omega)
   rw[Zi,Zve,ZN hk,List.filter_cons]
   simp only[Ze,ZQ hk,nng,Bool.and_self,if_true,Int.toNat_natCast,ZG hk,b1,Zs (k:=k) (by omega)]
   by_cases c:ofB t l[k]=true
   ·have c':=c
    unfold ofB at c'
    rw[if_pos c',if_pos c]
    have:=ih (out++[l[k]]) (by simp;omega)
    rw[List.append_assoc] at this
    exact this
   ·have c':=c
    unfold ofB at c'
    rw[if_neg c',if_neg c]
    exact ih out (by omega)
 have:=loop 0 (Nat.zero_le _) [] (Nat.zero_le _)
 rw[List.nil_append,List.drop_zero] at this
 exact this
end Go.Ev
end

section
open Go Go.Ev
namespace Go.Ev
noncomputable section
noncomputable def ZwC:Run:=entG Zn9 Zzp (fun a=>ZcA a.1 a.2.1) (fun a=>Z5 a.1 a.2.1)
theorem Zwo:EntOK Go.Proofs.Tryz.prog 24 ZwC:=ZJ (tb:=ZAq) (c:=Zzq) ZNL (by kernel_rfl) (by kernel_rfl) (by kernel_rfl) (fun a=>by kernel_rfl) fun ⟨l,t,_⟩ hk=>Zn (c:=Zzq) (K:=fun v=>(Zzp v,tps (toForms Zn9 (l,t,())))) (S:=ZoH l t) (by kernel_rfl) (ZNh l t) (ZOn l t) (ZOR l t hk)
end
end Go.Ev
end

section
open Go Go.Ev
namespace Go.Ev
def renClo:Go.Shelf.Ren:=⟨fun n=>if n=15 then 40 else n,
 fun n=>if n=22 then 23 else n,
 fun n=>n⟩
theorem Zu6:Go.Proofs.Lays2.n15 Go.Proofs.Tryz.prog renClo where
 mixed:=by kernel_rfl
 f15:=by kernel_rfl
 t3:=by kernel_rfl
 a3:=fun w=>by kernel_rfl
 z3:=fun w=>by kernel_rfl
 v3:=fun w=>by kernel_rfl
 t4:=by kernel_rfl
 a4:=fun w=>by kernel_rfl
 z4:=fun w=>by kernel_rfl
 v4:=fun w=>by kernel_rfl
 t22:=by kernel_rfl
 a22:=fun w=>by kernel_rfl
 z22:=fun w=>by kernel_rfl
 v22:=fun w=>by kernel_rfl
 i3:=by kernel_rfl
theorem cloOK:CloneOK Go.Proofs.Tryz.prog 40 3:=⟨fun b off n c zs w h1 h2 h3=>Go.Proofs.Any.slices_Clone_int Zu6 b off n c zs w h1 h2 h3,fun n c w=>Go.Proofs.Any.slices_Clone_int_nil Zu6 n c w,fun a c w=>Go.Proofs.Any.slices_Clone_int_zero Zu6 a c w⟩
noncomputable section
def ZlY:Sig:=[(false,.sl (.int .i64))]
def ZL (l:List Int):List Int:=l
def Za1 (l:List Int):Bool:=decide (l.length*8≤140737488355328)
def Znz:List Int→AV:=fun r=>.rw 3 (.int .i64) r
def ZcT:Run:=entG ZlY Znz (fun a=>Za1 a.1) (fun a=>ZL a.1)
theorem Zf3:EntOK Go.Proofs.Tryz.prog 40 ZcT:=ZAy (ZiT (fn:=Go.Proofs.Tryz.f40) (c:=Go.Proofs.Tryz.f40.body.getD .skip) (by kernel_rfl) (by kernel_rfl) (by kernel_rfl)) fun a h=>ZMd cloOK a.1 (of_decide_eq_true h)
end
end Go.Ev
end

section
open Go Go.Ev
namespace Go.Ev
noncomputable section
def Zb7:Sig:=[(false,(.int .i64))]
noncomputable def ZjS:Tbl:=[]
theorem Zxg:∀p∈ZjS,EntOK Go.Proofs.Tryz.prog p.1 p.2:=Zu
noncomputable def Zgo:Code:=Go.Proofs.Tryz.f118.body.getD .skip
def ZiE:Tb:=[]
def ZqT (x:Int):Empty→JT Empty (Bool):=fun j=>nomatch j
def Zom (x:Int):JT Empty (Bool):=.leaf (x !=x)
def ZbT (x:Int):Bool:=(x !=x)
theorem ZyN (x:Int):Goes (ZqT x) (Zom x) (ZbT x):=Goes.leaf
def Zgn:Bool→AV:=fun (r:Bool)=>.d .bool r
def Zb0 (x:Int):Empty→Nat×St:=fun j=>nomatch j
theorem Zxl (x:Int) (L:Lt):entryA Go.Proofs.Tryz.prog (clOf ZjS) ZiE Go.Proofs.Tryz.f118 Zgo L (toForms Zb7 (x,()))=(Zom x).run (fun v=>some (Zgn v,tps (toForms Zb7 (x,())))) fun j=>L (Zb0 x j).1 (Zb0 x j).2:=by kernel_rfl
theorem Zw5 (x:Int):∀(L:Lt) (j:Empty),procOf (procsF Go.Proofs.Tryz.prog (clOf ZjS) ZiE Go.Proofs.Tryz.f118 Zgo (toForms Zb7 (x,()))) (Zb0 x j).1 L (Zb0 x j).2=(ZqT x j).run (fun v=>some (Zgn v,tps (toForms Zb7 (x,())))) fun j=>L (Zb0 x j).1 (Zb0 x j).2:=fun L j=>nomatch j
noncomputable def ZqY:Run:=entT Zb7 Zgn (fun a=>ZbT a.1)
theorem Zxk:EntOK Go.Proofs.Tryz.prog 118 ZqY:=Zau (tb:=ZiE) (c:=Zgo) Zxg (by kernel_rfl) (by kernel_rfl) (by kernel_rfl) (fun a=>by kernel_rfl) fun ⟨x,_⟩=>Zn (c:=Zgo) (K:=fun v=>(Zgn v,tps (toForms Zb7 (x,())))) (S:=Zb0 x) (by kernel_rfl) (Zxl x) (Zw5 x) (ZyN x)
end
end Go.Ev
end

section
open Go Go.Ev
namespace Go.Ev
noncomputable section
def Zcu:Sig:=[(false,(.int .i64)),(false,(.int .i64))]
noncomputable def Zk1:Tbl:=[(118,ZqY)]
theorem ZyU:∀p∈Zk1,EntOK Go.Proofs.Tryz.prog p.1 p.2:=Zg Zxk (Zu)
noncomputable def Zia:Code:=Go.Proofs.Tryz.f82.body.getD .skip
def ZjK:Tb:=[]
def ZsB (x:Int) (y:Int):Empty→JT Empty (Bool):=fun j=>nomatch j
def ZqV (x:Int) (y:Int):JT Empty (Bool):=.br (ZbT x) (.br (! (ZbT y)) (.leaf true) (.leaf (decide (x < y)))) (.leaf (decide (x < y)))
def ZeX (x:Int) (y:Int):Bool:=bif (ZbT x) then bif (! (ZbT y)) then true else (decide (x < y)) else (decide (x < y))
theorem Zzr (x:Int) (y:Int):Goes (ZsB x y) (ZqV x y) (ZeX x y):=Goes.br (Goes.br (Goes.leaf) (Goes.leaf)) (Goes.leaf)
def ZhJ:Bool→AV:=fun (r:Bool)=>.d .bool r
def Zcj (x:Int) (y:Int):Empty→Nat×St:=fun j=>nomatch j
theorem Zy3 (x:Int) (y:Int) (L:Lt):entryA Go.Proofs.Tryz.prog (clOf Zk1) ZjK Go.Proofs.Tryz.f82 Zia L (toForms Zcu (x,y,()))=(ZqV x y).run (fun v=>some (ZhJ v,tps (toForms Zcu (x,y,())))) fun j=>L (Zcj x y j).1 (Zcj x y j).2:=by kernel_rfl
theorem ZyZ (x:Int) (y:Int):∀(L:Lt) (j:Empty),procOf (procsF Go.Proofs.Tryz.prog (clOf Zk1) ZjK Go.Proofs.Tryz.f82 Zia (toForms Zcu (x,y,()))) (Zcj x y j).1 L (Zcj x y j).2=(ZsB x y j).run (fun v=>some (ZhJ v,tps (toForms Zcu (x,y,())))) fun j=>L (Zcj x y j).1 (Zcj x y j).2:=fun L j=>nomatch j
noncomputable def ZrV:Run:=entT Zcu ZhJ (fun a=>ZeX a.1 a.2.1)
theorem Zza:EntOK Go.Proofs.Tryz.prog 82 ZrV:=Zau (tb:=ZjK) (c:=Zia) ZyU (by kernel_rfl) (by kernel_rfl) (by kernel_rfl) (fun a=>by kernel_rfl) fun ⟨x,y,_⟩=>Zn (c:=Zia) (K:=fun v=>(ZhJ v,tps (toForms Zcu (x,y,())))) (S:=Zcj x y) (by kernel_rfl) (Zy3 x y) (ZyZ x y) (Zzr x y)
end
end Go.Ev
end

section
open Go Go.Ev
namespace Go.Ev
noncomputable section
def Zbp:Sig:=[(false,(.int .i64))]
noncomputable def ZgL:Tbl:=[]
theorem Zty:∀p∈ZgL,EntOK Go.Proofs.Tryz.prog p.1 p.2:=Zu
noncomputable def Zdy:Code:=Go.Proofs.Tryz.f83.body.getD .skip
def Zf4:Tb:=[]
def ZkX (x:Int):Empty→JT Empty (Bool):=fun j=>nomatch j
def ZjV (x:Int):JT Empty (Bool):=.leaf (x !=x)
def Zbt (x:Int):Bool:=(x !=x)
theorem ZuZ (x:Int):Goes (ZkX x) (ZjV x) (Zbt x):=Goes.leaf
def ZdD:Bool→AV:=fun (r:Bool)=>.d .bool r
def Za7 (x:Int):Empty→Nat×St:=fun j=>nomatch j
theorem Ztu (x:Int) (L:Lt):entryA Go.Proofs.Tryz.prog (clOf ZgL) Zf4 Go.Proofs.Tryz.f83 Zdy L (toForms Zbp (x,()))=(ZjV x).run (fun v=>some (ZdD v,tps (toForms Zbp (x,())))) fun j=>L (Za7 x j).1 (Za7 x j).2:=by kernel_rfl
theorem Ztx (x:Int):∀(L:Lt) (j:Empty),procOf (procsF Go.Proofs.Tryz.prog (clOf ZgL) Zf4 Go.Proofs.Tryz.f83 Zdy (toForms Zbp (x,()))) (Za7 x j).1 L (Za7 x j).2=(ZkX x j).run (fun v=>some (ZdD v,tps (toForms Zbp (x,())))) fun j=>L (Za7 x j).1 (Za7 x j).2:=fun L j=>nomatch j
noncomputable def Zk7:Run:=entT Zbp ZdD (fun a=>Zbt a.1)
theorem Ztv:EntOK Go.Proofs.Tryz.prog 83 Zk7:=Zau (tb:=Zf4) (c:=Zdy) Zty (by kernel_rfl) (by kernel_rfl) (by kernel_rfl) (fun a=>by kernel_rfl) fun ⟨x,_⟩=>Zn (c:=Zdy) (K:=fun v=>(ZdD v,tps (toForms Zbp (x,())))) (S:=Za7 x) (by kernel_rfl) (Ztu x) (Ztx x) (ZuZ x)
end
end Go.Ev
end

section
open Go Go.Ev
namespace Go.Ev
noncomputable section
def Z2:Sig:=[(false,(.sl (.int .i64))),(false,(.int .i64))]
noncomputable def Zbr:Tbl:=[(82,ZrV),(83,Zk7)]
theorem ZhN:∀p∈Zbr,EntOK Go.Proofs.Tryz.prog p.1 p.2:=Zg Zza (Zg Ztv (Zu))
noncomputable def ZaN:Code:=Go.Proofs.Tryz.f57.body.getD .skip
def Zbi:Tb:=[(4,⟨[0,1,6,7,8,42,48,50,51],[]⟩)]
inductive Zar where | l4 (i:Int) (j_:Int)
def Z6 (x:List Int) (target:Int):Zar→JT Zar (Int×Bool) |.l4 i j_=>.br (decide (i < j_)) (.br ((decide ((0:Int)≤(IntKind.i64.wrap (Int.fdiv (IntKind.u64.wrap (IntKind.i64.wrap (i+j_))) (2 ^ (min 1 (IntKind.u64).bits))))))&&(decide ((IntKind.i64.wrap (Int.fdiv (IntKind.u64.wrap (IntKind.i64.wrap (i+j_))) (2 ^ (min 1 (IntKind.u64).bits)))) < (Int.ofNat (List.length x))))) (.br (ZeX (List.getD x (Int.toNat (IntKind.i64.wrap (Int.fdiv (IntKind.u64.wrap (IntKind.i64.wrap (i+j_))) (2 ^ (min 1 (IntKind.u64).bits))))) (dflt (.int .i64))) target) (.jmp (.l4 (IntKind.i64.wrap ((IntKind.i64.wrap (Int.fdiv (IntKind.u64.wrap (IntKind.i64.wrap (i+j_))) (2 ^ (min 1 (IntKind.u64).bits))))+(1:Int))) j_)) (.jmp (.l4 i (IntKind.i64.wrap (Int.fdiv (IntKind.u64.wrap (IntKind.i64.wrap (i+j_))) (2 ^ (min 1 (IntKind.u64).bits))))))) (.no)) (.br (decide (i < (Int.ofNat (List.length x)))) (.br ((decide ((0:Int)≤i))&&(decide (i < (Int.ofNat (List.length x))))) (.br ((List.getD x (Int.toNat i) (dflt (.int .i64)))==target) (.leaf (i,true)) (.br ((decide ((0:Int)≤i))&&(decide (i < (Int.ofNat (List.length x))))) (.br (Zbt (List.getD x (Int.toNat i) (dflt (.int .i64)))) (.leaf (i,(Zbt target))) (.leaf (i,false))) (.no))) (.no)) (.leaf (i,false)))
def ZcJ (x:List Int) (target:Int):JT Zar (Int×Bool):=.jmp (.l4 (0:Int) (Int.ofNat (List.length x)))
def ZaM:Int×Bool→AV:=fun (r:Int×Bool)=>.tu [.d (.int .i64) r.1,.d .bool r.2]
def ZV (x:List Int) (target:Int):Zar→Nat×St |.l4 i j_=>(4,⟨mkTm 54 [(0,.d (.sl (.int .i64)) x),(1,.d (.int .i64) target),(6,.d (.int .i64) (Int.ofNat (List.length x))),(7,.d (.int .i64) i),(8,.d (.int .i64) j_)],[]⟩)
theorem ZhR (x:List Int) (target:Int) (L:Lt):entryA Go.Proofs.Tryz.prog (clOf Zbr) Zbi Go.Proofs.Tryz.f57 ZaN L (toForms Z2 (x,target,()))=(ZcJ x target).run (fun v=>some (ZaM v,tps (toForms Z2 (x,target,())))) fun j=>L (ZV x target j).1 (ZV x target j).2:=by kernel_rfl
theorem ZhC (x:List Int) (target:Int):∀(L:Lt) (j:Zar),procOf (procsF Go.Proofs.Tryz.prog (clOf Zbr) Zbi Go.Proofs.Tryz.f57 ZaN (toForms Z2 (x,target,()))) (ZV x target j).1 L (ZV x target j).2=(Z6 x target j).run (fun v=>some (ZaM v,tps (toForms Z2 (x,target,())))) fun j=>L (ZV x target j).1 (ZV x target j).2 | L,.l4 i j_=>by kernel_rfl
end
end Go.Ev
end

section
open Go
namespace Go.Ev
def ZM (x:List Int) (target:Int):Int×Bool:=(((x.countP fun y=>decide (y < target)):Nat),x.contains target)
def Z7 (x:List Int) (target:Int):Bool:=decide (x.Pairwise (· < ·))&&decide (x.length < 4611686018427387904)
theorem ZQj {a b:Nat} (h:a+b < 9223372036854775807):IntKind.i64.wrap (Int.fdiv (IntKind.u64.wrap (IntKind.i64.wrap ((a:Int)+(b:Int)))) (2 ^ (min 1 (IntKind.u64).bits)))=(((a+b) / 2:Nat):Int):=by
 have e1:IntKind.i64.wrap ((a:Int)+(b:Int))=((a+b:Nat):Int):=by rw[wrap_i64 (by omega) (by omega)];omega
 have e2:IntKind.u64.wrap ((a+b:Nat):Int)=((a+b:Nat):Int):=Zze (by omega)
 have e3:(2:Int) ^ (min 1 (IntKind.u64).bits)=2:=by decide
 rw[e1,e2,e3,Int.fdiv_eq_ediv_of_nonneg _ (by decide),wrap_i64 (by omega) (by omega)]
 omega
theorem ZG2 {x:List Int} {t:Int} {lo:Nat} (hlo:lo≤x.length) (h1:∀j (h:j < x.length),j < lo→x[j] < t) (h2:∀j (h:j < x.length),lo≤j→t≤x[j]):(x.countP fun y=>decide (y < t))=lo:=by
 have e:x=x.take lo++x.drop lo:=(List.take_append_drop lo x).symm
 rw[e,List.countP_append]
 have a:(x.take lo).countP (fun y=>decide (y < t))=lo:=by
  have:(x.take lo).countP (fun y=>decide (y < t))=(x.take lo).length:=List.countP_eq_length.2 fun y hy=>by
   obtain ⟨j,hj,rfl⟩:=List.mem_iff_getElem.1 hy
   rw[List.getElem_take]
   rw[List.length_take] at hj
   exact decide_eq_true (h1 j (by omega) (by omega))
  rw[this,List.length_take];omega
 have b:(x.drop lo).countP (fun y=>decide (y < t))=0:=List.countP_eq_zero.2 fun y hy=>by
  obtain ⟨j,hj,rfl⟩:=List.mem_iff_getElem.1 hy
  rw[List.getElem_drop]
  rw[List.length_drop] at hj
  have:=h2 (lo+j) (by omega) (by omega)
  simpa using this
 rw[a,b,Nat.add_zero]
theorem Zik (x:List Int) (target:Int) (hk:Z7 x target=true):Goes (Z6 x target) (ZcJ x target) (ZM x target):=by
 unfold Z7 at hk
 rw[Bool.and_eq_true,decide_eq_true_eq,decide_eq_true_eq] at hk
 obtain ⟨hp,hn⟩:=hk
 have hg:=List.pairwise_iff_getElem.1 hp
 have vless:∀a b:Int,ZeX a b=decide (a < b):=fun a b=>by
  unfold ZeX ZbT
  simp
 have vnan:∀a:Int,Zbt a=false:=fun a=>by unfold Zbt;simp
 have fin:∀lo:Nat,lo≤x.length→(∀j (h:j < x.length),j < lo→x[j] < target)→(∀j (h:j < x.length),lo≤j→target≤x[j])→Goes (Z6 x target) (.jmp (.l4 (lo:Int) (lo:Int))) (ZM x target):=by
  intro lo hlo h1 h2
  have hc:=ZG2 hlo h1 h2
  have hv:ZM x target=((lo:Int),x.contains target):=by unfold ZM;rw[hc]
  rw[hv,Zi,Z6,Ze,if_neg (by simp),Ze]
  have hcon:∀h:lo < x.length,x[lo]≠target→x.contains target=false:=fun h hne=>by
   rw[Bool.eq_false_iff]
   intro hm
   rw[List.contains_iff_mem] at hm
   obtain ⟨j,hj,he⟩:=List.mem_iff_getElem.1 hm
   rcases Nat.lt_trichotomy j lo with hjl | rfl | hjl
   ·have:=h1 j hj hjl;omega
   ·exact hne he
   ·have:=hg lo j h hj hjl
    have:=h2 lo h (Nat.le_refl _)
    omega
  by_cases hl:lo < x.length
  ·rw[if_pos (ZQ hl)]
   simp only[Ze,nng,ZQ hl,Bool.and_self,if_true,Int.toNat_natCast,ZG hl,vnan]
   by_cases he:x[lo]=target
   ·rw[if_pos (by simpa using he),show x.contains target=true from List.contains_iff_mem.2 (he▸List.getElem_mem hl)]
    exact .leaf
   ·rw[if_neg (by simpa using he),if_neg (by decide),hcon hl he]
    exact .leaf
  ·have:lo=x.length:=by omega
   subst this
   rw[if_neg (by rw[Zw (Nat.lt_irrefl _)];decide)]
   have:x.contains target=false:=by
    rw[Bool.eq_false_iff]
    intro hm
    rw[List.contains_iff_mem] at hm
    obtain ⟨j,hj,he⟩:=List.mem_iff_getElem.1 hm
    have:=h1 j hj hj
    omega
   rw[this]
   exact .leaf
 have loop:∀m lo hi:Nat,hi - lo≤m→lo≤hi→hi≤x.length→(∀j (h:j < x.length),j < lo→x[j] < target)→(∀j (h:j < x.length),hi≤j→target≤x[j])→Goes (Z6 x target) (.jmp (.l4 (lo:Int) (hi:Int))) (ZM x target):=by
  intro m
  induction m with
  | zero=>
   intro lo hi hm hlh hhi h1 h2
   have:lo=hi:=by omega
   subst this
   exact fin lo hhi h1 h2
  | succ m ih=>
   intro lo hi hm hlh hhi h1 h2
   by_cases he:lo=hi
   ·subst he
    exact fin lo hhi h1 h2
   have hlt:lo < hi:=by omega
   have hM:(lo+hi) / 2 < x.length:=by omega
   rw[Zi,Z6,ZQj (by omega),Ze,if_pos (decide_eq_true (by omega))]
   simp only[Ze,nng,ZQ hM,Bool.and_self,if_true,Int.toNat_natCast,ZG hM,vless]
   by_cases c:x[(lo+hi) / 2] < target
   ·rw[if_pos (decide_eq_true c),Zs (by omega)]
    refine ih _ _ (by omega) (by omega) hhi (fun j h hj=>?_) h2
    by_cases e:j=(lo+hi) / 2
    ·subst e;exact c
    ·have:=hg j ((lo+hi) / 2) h hM (by omega)
     omega
   ·rw[if_neg (by simpa using c)]
    refine ih _ _ (by omega) (by omega) (by omega) h1 (fun j h hj=>?_)
    by_cases e:j=(lo+hi) / 2
    ·subst e;omega
    ·have:=hg ((lo+hi) / 2) j hM h (by omega)
     omega
 exact loop x.length 0 x.length (by omega) (by omega) (Nat.le_refl _) (fun j h hj=>absurd hj (Nat.not_lt_zero _)) (fun j h hj=>absurd h (by omega))
end Go.Ev
end

section
open Go Go.Ev
namespace Go.Ev
noncomputable section
noncomputable def Zdb:Run:=entG Z2 ZaM (fun a=>Z7 a.1 a.2.1) (fun a=>ZM a.1 a.2.1)
theorem Zif:EntOK Go.Proofs.Tryz.prog 57 Zdb:=ZJ (tb:=Zbi) (c:=ZaN) ZhN (by kernel_rfl) (by kernel_rfl) (by kernel_rfl) (fun a=>by kernel_rfl) fun ⟨x,target,_⟩ hk=>Zn (c:=ZaN) (K:=fun v=>(ZaM v,tps (toForms Z2 (x,target,())))) (S:=ZV x target) (by kernel_rfl) (ZhR x target) (ZhC x target) (Zik x target hk)
end
end Go.Ev
end

section
open Go Go.Ev
namespace Go.Ev
noncomputable section
abbrev mProg:Program:=Go.Proofs.Tryz.prog
noncomputable def msB:Code:=Go.Proofs.Tryz.f37.body.getD .skip
noncomputable def mlR1 (K:Code):Code:=fstC (innC (innC K))
noncomputable def mlB (K:Code):Code:=innC (fstC (sndC (sndC (innC (innC K)))))
noncomputable def mlR2 (K:Code):Code:=sndC (sndC (sndC (innC (innC K))))
noncomputable def ms0:Code:=fstC msB
noncomputable def ms1:Code:=fstC (sndC msB)
noncomputable def ms2:Code:=fstC (sndC (sndC msB))
noncomputable def ms3:Code:=fstC (fstC (sndC (sndC (sndC msB))))
noncomputable def msK:Code:=sndC (fstC (sndC (sndC (sndC msB))))
noncomputable def msE:Code:=fstC (sndC (sndC (sndC (sndC msB))))
noncomputable def msT:Tbl:=[(56,Zuq),(57,Zdb)]
theorem ZQm:∀p∈msT,EntOK Go.Proofs.Tryz.prog p.1 p.2:=Zg ZxE (Zg Zif Zu)
theorem mcl:Spec mProg (clOf msT)∧DetC (clOf msT):=ZqL ZQm
theorem ZQz:msB=.seq ms0 (.seq ms1 (.seq (.region (ridC ms2) (ropsC ms2) false) (.seq (.seq ms3 msK) (.seq msE .ret)))):=by kernel_rfl
theorem ZQx:msK=.block 0 (.loop (.seq (mlR1 msK) (.seq (.cond (.tmp 19) .skip (.exit 0)) (.seq (.block 1 (mlB msK)) (mlR2 msK))))):=by kernel_rfl
noncomputable def ms4:Code:=fstC (mlB msK)
noncomputable def ms5:Code:=fstC (sndC (mlB msK))
noncomputable def ms6:Code:=fstC (fstC (sndC (sndC (mlB msK))))
noncomputable def msX:Code:=thenC (sndC (fstC (sndC (sndC (mlB msK)))))
noncomputable def ms7:Code:=fstC msX
noncomputable def ms8:Code:=sndC msX
noncomputable def ms9:Code:=sndC (sndC (sndC (mlB msK)))
theorem ZQo:mlB msK=.seq ms4 (.seq (.region (ridC ms5) (ropsC ms5) false) (.seq (.seq ms6 (.cond (.tmp 30) (.seq ms7 (.region (ridC ms8) (ropsC ms8) false)) .skip)) ms9)):=by kernel_rfl
def mOb (t:List (El Za)):Id×Nat×Obj:=(4,0,.box 34 [.d (.sl Za) t] none)
def mOut (out:List (El Zd)):Id×Nat×Obj:=(8,0,.row 67 Zd out false)
def mX (x:El Zd):Id×Nat×Obj:=(11,0,.box 67 [.d (.int .i64) x.1,.d (.int .i64) x.2.1,.d (.int .i64) x.2.2] none)
section
variable (t:List (El Za)) (l:List (El Zd)) (pts:List Int) (out:List (El Zd)) (m:Nat) (k:Int) (x:El Zd) (e:List Int) (b:Bool)
def mS0:St:=⟨.ag [.d (.sl Za) t] :: .d (.sl Zd) l :: .d (.sl (.int .i64)) pts :: tops 51,[]⟩
def mS1:St:=⟨mkTm 54 [(1,.d (.sl Zd) l),(2,.d (.sl (.int .i64)) pts),(3,.pt 4 0 0)],[mOb t]⟩
def mS2:St:=⟨mkTm 54 [(1,.d (.sl Zd) l),(2,.d (.sl (.int .i64)) pts),(3,.pt 4 0 0),(7,.own 8 0 none)],[mOb t,mOut []]⟩
def mS3:St:=((mS2 t l pts).put (some 15) (.cst (.map (some m)))).put (some 8) (.cst (.map (some m)))
def mSA:St:=⟨mkTm 54 [(2,.d (.sl (.int .i64)) pts),(3,.pt 4 0 0),(7,.own 8 0 none),(8,.cst (.map (some m))),(16,.d (.sl Zd) l),(17,.d (.int .i64) (Int.ofNat (List.length l))),(18,.d (.int .i64) k)],[mOb t,mOut out]⟩
def mLA:Lab:=⟨[2,3,7,8,16,17,18],[(8,122)]⟩
def mSB:St:=⟨mkTm 54 [(2,.d (.sl (.int .i64)) pts),(3,.pt 4 0 0),(7,.own 8 0 none),(8,.cst (.map (some m))),(10,.pt 11 0 0),(16,.d (.sl Zd) l),(17,.d (.int .i64) (Int.ofNat (List.length l))),(18,.d (.int .i64) k)],[mOb t,mOut out,mX x]⟩
def mLB:Lab:=⟨[2,3,7,8,10,16,17,18],[(8,122)]⟩
def mSC:St:=⟨mkTm 54 [(2,.d (.sl (.int .i64)) pts),(3,.pt 4 0 0),(7,.own 8 0 none),(8,.cst (.map (some m))),(10,.pt 11 0 0),(11,.d (.sl (.int .i64)) e),(12,.d .bool b),(16,.d (.sl Zd) l),(17,.d (.int .i64) (Int.ofNat (List.length l))),(18,.d (.int .i64) k)],[mOb t,mOut out,mX x]⟩
def mLC:Lab:=⟨[2,3,7,8,10,11,12,16,17,18],[(8,122)]⟩
def mLC30:Lab:=⟨[2,3,7,8,10,11,16,17,18,30],[(8,122)]⟩
def mSD:St:=⟨mkTm 54 [(2,.d (.sl (.int .i64)) pts),(3,.pt 4 0 0),(7,.own 8 0 none),(8,.cst (.map (some m))),(10,.pt 11 0 0),(11,.d (.sl (.int .i64)) e),(16,.d (.sl Zd) l),(17,.d (.int .i64) (Int.ofNat (List.length l))),(18,.d (.int .i64) k)],[mOb t,mOut out,mX x]⟩
def mLD:Lab:=⟨[2,3,7,8,10,11,16,17,18],[(8,122)]⟩
def mSO:St:=⟨mkTm 54 [(2,.d (.sl (.int .i64)) pts),(3,.pt 4 0 0),(7,.own 8 0 none),(8,.cst (.map (some m))),(10,.pt 11 0 0),(11,.own 12 0 none),(16,.d (.sl Zd) l),(17,.d (.int .i64) (Int.ofNat (List.length l))),(18,.d (.int .i64) k)],[mOb t,mOut out,mX x,(12,0,.row 3 (.int .i64) e false)]⟩
@[reducible] def inM (i:Int) (n:Nat):Bool:=decide ((0:Int)≤i)&&decide (i < Int.ofNat n)
abbrev mEv (c:Code) (lab:Lab) (s s':St):Prop:=∀(L:Lt) (k:Kt) (x:Nat→Kt) (r:Kt),evC mProg (clOf msT) [] L c 0 (fun t=>k (norm mProg lab t)) x r s=k s'
abbrev mEvI (c:Code) (s s':St):Prop:=∀(L:Lt) (k:Kt) (x:Nat→Kt) (r:Kt),evC mProg (clOf msT) [] L c 0 (fun t=>k t) x r s=k s'
abbrev mEvG (c:Code) (lab:Lab) (s s':St) (b:Bool):Prop:=∀(L:Lt) (k:Kt) (x:Nat→Kt) (r:Kt),evC mProg (clOf msT) [] L c 0 (fun t=>k (norm mProg lab t)) x r s=bif b then k s' else none
theorem mEvG.ok {c:Code} {lab:Lab} {s s':St} {b:Bool} (h:mEvG c lab s s' b) (hb:b=true):mEv c lab s s':=fun L k x r=>by rw[h,hb];rfl
theorem m_0:mEv ms0 ⟨[1,2,3],[]⟩ (mS0 t l pts) (mS1 t l pts):=fun L k x r=>by kernel_rfl
theorem m_1:mEv ms1 ⟨[1,2,3,7],[(8,122)]⟩ (mS1 t l pts) (mS2 t l pts):=fun L k x r=>by kernel_rfl
theorem m_3:mEv ms3 mLA (mS3 t l pts m) (mSA t l pts [] m 0):=fun L k x r=>by kernel_rfl
theorem m_R1:mEvI (mlR1 msK) (mSA t l pts out m k) ((mSA t l pts out m k).put (some 19) (.d .bool (decide (k < Int.ofNat (List.length l))))):=fun L k x r=>by kernel_rfl
theorem m_4:mEvG ms4 mLB ((mSA t l pts out m k).put (some 19) (.d .bool b)) (mSB t l pts out m k (List.getD l (Int.toNat k) (dflt Zd))) (inM k (List.length l)):=fun L k x r=>by kernel_rfl
theorem m_6:mEv ms6 mLC30 (mSC t l pts out m k x e b) ((mSD t l pts out m k x e).put (some 30) (.d .bool (! b))):=fun L k x r=>by kernel_rfl
theorem m_7:mEvG ms7 mLD ((mSD t l pts out m k x e).put (some 30) (.d .bool b)) (mSO t l pts out m k x (ZP t pts x.2.1)) (ZbY t pts x.2.1):=fun L k x r=>by kernel_rfl
theorem ZQ0:norm mProg mLD ((mSD t l pts out m k x e).put (some 30) (.d .bool b))=mSD t l pts out m k x e:=by kernel_rfl
theorem m_9 (L:Lt) (kk:Kt) (xx:Nat→Kt) (r:Kt):evC mProg (clOf msT) [] L ms9 0 (fun t=>kk (norm mProg mLA t)) xx r (mSD t l pts out m k x e)=
  bif Z7 e x.2.2 then (bif (ZM e x.2.2).2 then (bif Nat.ble ((List.length out+1)*24) limit then kk (mSA t l pts (out++[x]) m k) else none) else kk (mSA t l pts out m k)) else none:=by kernel_rfl
theorem m_R2:mEv (mlR2 msK) mLA (mSA t l pts out m k) (mSA t l pts out m (IntKind.i64.wrap (k+1))):=fun L k x r=>by kernel_rfl
theorem m_E:mEvI msE ((mSA t l pts out m k).put (some 19) (.d .bool b)) ((((mSA t l pts out m k).put (some 19) (.d .bool b)).put (some 53) (.own 8 0 none)).put (some 6) (.own 8 0 none)):=fun L k x r=>by kernel_rfl
def mSB5 (e:List Int) (b:Bool):St:=((((mSB t l pts out m k x).put (some 23) (.cst (.map (some m)))).put (some 24) (.pt 11 0 1)).put (some 25) (.d (.int .i64) x.2.1)).put (some 26) (.tu [.d (.sl (.int .i64)) e,.d .bool b])
def mSB9 (e:List Int) (b:Bool):St:=(((((mSB5 t l pts out m k x e b).put (some 22) (.tu [.d (.sl (.int .i64)) e,.d .bool b])).put (some 27) (.d (.sl (.int .i64)) e)).put (some 28) (.d .bool b)).put (some 11) (.d (.sl (.int .i64)) e)).put (some 12) (.d .bool b)
theorem m_n9:norm mProg mLC (mSB9 t l pts out m k x e b)=mSC t l pts out m k x e b:=by kernel_rfl
def mSO4:St:=((((mSO t l pts out m k x e).put (some 36) (.cst (.map (some m)))).put (some 37) (.pt 11 0 1)).put (some 38) (.d (.int .i64) x.2.1)).put (some 39) (.own 12 0 none)
theorem m_n8 (o:Option Nat) (ho:o=none):norm mProg ⟨[2,3,7,8,10,11,16,17,18],[(8,122),(12+lockK,1)]⟩ (((mSO4 t l pts out m k x e).lock [12]).put o .top)=mSD t l pts out m k x e:=by
 subst ho
 kernel_rfl
end
section
variable [Orgs] {Mod F0:Nat→Prop} {w0:World} {a:Act} {w:World} {Q:Exit→Act→World→Prop}
variable {t:List (El Za)} {l:List (El Zd)} {pts:List Int} {out:List (El Zd)} {m:Nat} {k:Int} {x:El Zd} {ms:MapD}
theorem mw_2 (hr:Rel Mod F0 w0 (mS2 t l pts) a w) (hQ:∀m a' w',RelX (mapHid m []) Mod F0 w0 (mS3 t l pts m) a' w'→Q .normal a' w'):(Code.region (ridC ms2) (ropsC ms2) false).wp mProg Q a w:=by
 refine wp_region ?_
 rw[show List.range (ropsC ms2).size=[0,1] from by kernel_rfl]
 refine handOp (o:=opC ms2 0) (by kernel_rfl) (by kernel_rfl) ?_
 refine makeMapX (TM:=90) (by kernel_rfl) hr fun m a w hr=>?_
 rw[show (opC ms2 0).dst=some 15 from by kernel_rfl] at hr
 refine evOpX mcl.1 (o:=opC ms2 1) (st1:=mS3 t l pts m) (by kernel_rfl) (by kernel_rfl) (fun k=>by kernel_rfl) hr fun a w hr=>?_
 exact hQ m a w hr
theorem mw_5 (hr:RelX (mapHid m ms) Mod F0 w0 (mSB t l pts out m k x) a w) (hQ:∀a' w',RelX (mapHid m ms) Mod F0 w0 (mSC t l pts out m k x ((getM ms x.2.1).getD []) (getM ms x.2.1).isSome) a' w'→Q .normal a' w'):(Code.region (ridC ms5) (ropsC ms5) false).wp mProg Q a w:=by
 refine wp_region ?_
 rw[show List.range (ropsC ms5).size=[0,1,2,3,4,5,6,7,8] from by kernel_rfl]
 refine evOpX mcl.1 (o:=opC ms5 0) (st1:=(mSB t l pts out m k x).put (some 23) (.cst (.map (some m)))) (by kernel_rfl) (by kernel_rfl) (fun k=>by kernel_rfl) hr fun a w hr=>?_
 refine evOpX mcl.1 (o:=opC ms5 1) (st1:=((mSB t l pts out m k x).put (some 23) (.cst (.map (some m)))).put (some 24) (.pt 11 0 1)) (by kernel_rfl) (by kernel_rfl) (fun k=>by kernel_rfl) hr fun a w hr=>?_
 refine evOpX mcl.1 (o:=opC ms5 2) (st1:=(((mSB t l pts out m k x).put (some 23) (.cst (.map (some m)))).put (some 24) (.pt 11 0 1)).put (some 25) (.d (.int .i64) x.2.1)) (by kernel_rfl) (by kernel_rfl) (fun k=>by kernel_rfl) hr fun a w hr=>?_
 refine handOp (o:=opC ms5 3) (by kernel_rfl) (by kernel_rfl) ?_
 refine lookupX (TM:=90) (K:=3) (V:=23) (x:=.tmp 23) (k:=.tmp 25) (key:=x.2.1) (by kernel_rfl) (by kernel_rfl) (by kernel_rfl) (by kernel_rfl) (by kernel_rfl) (by kernel_rfl) hr fun a w hr=>?_
 rw[show (opC ms5 3).dst=some 26 from by kernel_rfl] at hr
 generalize (getM ms x.2.1).getD []=e at hr hQ
 generalize (getM ms x.2.1).isSome=b at hr hQ
 refine evOpX mcl.1 (o:=opC ms5 4) (st1:=(mSB5 t l pts out m k x e b).put (some 22) (.tu [.d (.sl (.int .i64)) e,.d .bool b])) (by kernel_rfl) (by kernel_rfl) (fun k=>by kernel_rfl) hr fun a w hr=>?_
 refine evOpX mcl.1 (o:=opC ms5 5) (st1:=((mSB5 t l pts out m k x e b).put (some 22) (.tu [.d (.sl (.int .i64)) e,.d .bool b])).put (some 27) (.d (.sl (.int .i64)) e)) (by kernel_rfl) (by kernel_rfl) (fun k=>by kernel_rfl) hr fun a w hr=>?_
 refine evOpX mcl.1 (o:=opC ms5 6) (st1:=(((mSB5 t l pts out m k x e b).put (some 22) (.tu [.d (.sl (.int .i64)) e,.d .bool b])).put (some 27) (.d (.sl (.int .i64)) e)).put (some 28) (.d .bool b)) (by kernel_rfl) (by kernel_rfl) (fun k=>by kernel_rfl) hr fun a w hr=>?_
 refine evOpX mcl.1 (o:=opC ms5 7) (st1:=((((mSB5 t l pts out m k x e b).put (some 22) (.tu [.d (.sl (.int .i64)) e,.d .bool b])).put (some 27) (.d (.sl (.int .i64)) e)).put (some 28) (.d .bool b)).put (some 11) (.d (.sl (.int .i64)) e)) (by kernel_rfl) (by kernel_rfl) (fun k=>by kernel_rfl) hr fun a w hr=>?_
 refine evOpX mcl.1 (o:=opC ms5 8) (st1:=mSB9 t l pts out m k x e b) (by kernel_rfl) (by kernel_rfl) (fun k=>by kernel_rfl) hr fun a w hr=>?_
 exact hQ a w (RelX.norm (P:=mProg) (m_n9 t l pts out m k x e b) hr)
theorem mw_8 {e:List Int} (hn:getM ms x.2.1=none) (hr:RelX (mapHid m ms) Mod F0 w0 (mSO t l pts out m k x e) a w) (hQ:∀a' w',RelX (mapHid m (ms++[((show Int from x.2.1),e)])) Mod F0 w0 (mSD t l pts out m k x e) a' w'→Q .normal a' w'):(Code.region (ridC ms8) (ropsC ms8) false).wp mProg Q a w:=by
 refine wp_region ?_
 rw[show List.range (ropsC ms8).size=[0,1,2,3,4] from by kernel_rfl]
 refine evOpX mcl.1 (o:=opC ms8 0) (st1:=(mSO t l pts out m k x e).put (some 36) (.cst (.map (some m)))) (by kernel_rfl) (by kernel_rfl) (fun k=>by kernel_rfl) hr fun a w hr=>?_
 refine evOpX mcl.1 (o:=opC ms8 1) (st1:=((mSO t l pts out m k x e).put (some 36) (.cst (.map (some m)))).put (some 37) (.pt 11 0 1)) (by kernel_rfl) (by kernel_rfl) (fun k=>by kernel_rfl) hr fun a w hr=>?_
 refine evOpX mcl.1 (o:=opC ms8 2) (st1:=(((mSO t l pts out m k x e).put (some 36) (.cst (.map (some m)))).put (some 37) (.pt 11 0 1)).put (some 38) (.d (.int .i64) x.2.1)) (by kernel_rfl) (by kernel_rfl) (fun k=>by kernel_rfl) hr fun a w hr=>?_
 refine evOpX mcl.1 (o:=opC ms8 3) (st1:=mSO4 t l pts out m k x e) (by kernel_rfl) (by kernel_rfl) (fun k=>by kernel_rfl) hr fun a w hr=>?_
 refine handOp (o:=opC ms8 4) (by kernel_rfl) (by kernel_rfl) ?_
 refine updateX (TM:=90) (K:=3) (V:=23) (E:=3) (x:=.tmp 36) (k:=.tmp 38) (v:=.tmp 39) (key:=x.2.1) (id:=12) (ver:=0) (r:=e) (lk:=false) (by kernel_rfl) (by kernel_rfl) (by kernel_rfl) (by kernel_rfl) (by kernel_rfl) (by kernel_rfl) (by kernel_rfl) hn hr fun a w hr=>?_
 exact hQ a w (RelX.norm (P:=mProg) (m_n8 t l pts out m k x e _ (by kernel_rfl)) hr)
def OkM (t:List (El Za)) (pts:List Int) (ms:MapD):Prop:=∀s r,getM ms s=some r→r=ZP t pts s
theorem ZPZ {s:Int} (h:OkM t pts ms):OkM t pts (ms++[(s,ZP t pts s)]):=fun s' r hr=>by
 unfold getM at hr
 rw[List.find?_append] at hr
 cases hf:ms.find? (fun e=>e.1==s') with
 | some y=>
  rw[hf] at hr
  exact h s' r (by unfold getM;rw[hf];exact hr)
 | none=>
  rw[hf] at hr
  simp only[Option.none_or,List.find?_cons,List.find?_nil] at hr
  split at hr
  ·rename_i hs
   have hs:s=s':=by simpa using hs
   subst hs
   cases hr
   rfl
  ·cases hr
theorem ZOQ (hf:flowOK t=true) (hp:pts.length < 4611686018427387904) (x:El Zd):Z7 (ZP t pts x.2.1) x.2.2=true∧(ZM (ZP t pts x.2.1) x.2.2).2=uB t pts x:=by
 have hl:=ZbS hf
 have h1:(ZP t pts x.2.1).length≤t.length:=ZBq
 refine ⟨?_,?_⟩
 ·unfold Z7
  rw[Bool.and_eq_true,decide_eq_true_eq,decide_eq_true_eq]
  exact ⟨Zqw,by omega⟩
 ·show (ZP t pts x.2.1).contains x.2.2=_
  unfold ZP uB
  exact ZrR
theorem ZQp {n j:Nat} (h:j < n):inM (j:Int) n=true:=by
 unfold inM
 rw[Bool.and_eq_true,decide_eq_true_eq,decide_eq_true_eq]
 exact ⟨Int.natCast_nonneg j,Int.ofNat_lt.2 h⟩
theorem mw_L (hf:flowOK t=true) (hp:pts.length < 4611686018427387904) {j:Nat} (hj:j < l.length) {b:Bool} (hlim:(out.length+1)*24≤limit) (ho:OkM t pts ms) (hr:RelX (mapHid m ms) Mod F0 w0 ((mSA t l pts out m (j:Int)).put (some 19) (.d .bool b)) a w):
  (mlB msK).wp mProg (fun e a' w'=>(e=.normal∨e=.exit 1)∧∃ms',OkM t pts ms'∧RelX (mapHid m ms') Mod F0 w0 (mSA t l pts (out++if uB t pts l[j]=true then [l[j]] else []) m (j:Int)) a' w') a w:=by
 rw[ZQo]
 refine wp_seq (pieceX mcl.1 mcl.2 (norm mProg mLB) (fun h=>Z1 h) ((m_4 t l pts out m (j:Int) b).ok (ZQp hj)) hr fun a w hr=>?_)
 rw[Int.toNat_natCast,ZG hj] at hr
 generalize l[j]=x at hr
 have kE:ZbY t pts x.2.1=true:=by unfold ZbY;rw[hf,decide_eq_true hp];rfl
 obtain ⟨q1,q2⟩:=ZOQ hf hp x
 have last:∀(ms':MapD),OkM t pts ms'→∀a w,RelX (mapHid m ms') Mod F0 w0 (mSD t l pts out m (j:Int) x (ZP t pts x.2.1)) a w→ms9.wp mProg (fun e a' w'=>(e=.normal∨e=.exit 1)∧∃ms',OkM t pts ms'∧RelX (mapHid m ms') Mod F0 w0 (mSA t l pts (out++if uB t pts x=true then [x] else []) m (j:Int)) a' w') a w:=by
  intro ms' ho' a w hr
  by_cases hu:uB t pts x=true
  ·refine pieceX mcl.1 mcl.2 (norm mProg mLA) (fun h=>Z1 h) (st1:=mSA t l pts (out++[x]) m (j:Int)) (fun L k xx r=>by rw[m_9,q1,q2,hu,Nat.ble_eq_true_of_le hlim];rfl) hr fun a w hr=>?_
   rw[if_pos hu]
   exact ⟨.inl rfl,ms',ho',hr⟩
  ·have hu':uB t pts x=false:=by simpa using hu
   refine pieceX mcl.1 mcl.2 (norm mProg mLA) (fun h=>Z1 h) (st1:=mSA t l pts out m (j:Int)) (fun L k xx r=>by rw[m_9,q1,q2,hu'];rfl) hr fun a w hr=>?_
   rw[if_neg hu,List.append_nil]
   exact ⟨.inl rfl,ms',ho',hr⟩
 refine wp_seq (mw_5 hr fun a w hr=>?_)
 refine wp_seq (wp_seq (pieceX mcl.1 mcl.2 (norm mProg mLC30) (fun h=>Z1 h) (m_6 t l pts out m (j:Int) x _ _) hr fun a w hr=>?_))
 have ht:=hr.evb (x:=.tmp 30) (b:=! (getM ms x.2.1).isSome) (by kernel_rfl)
 cases hg:getM ms x.2.1 with
 | none=>
  rw[hg] at ht hr
  refine wp_cond_true ht ?_
  refine wp_seq (pieceX mcl.1 mcl.2 (norm mProg mLD) (fun h=>Z1 h) ((m_7 t l pts out m (j:Int) x _ _).ok kE) hr fun a w hr=>?_)
  exact mw_8 hg hr fun a w hr=>last _ (ZPZ ho) a w hr
 | some e=>
  rw[hg] at ht hr
  refine wp_cond_false ht (wp_skip ?_)
  have:=RelX.norm (P:=mProg) (ZQ0 t l pts out m (j:Int) x _ _) hr
  have he:=ho _ _ hg
  subst he
  exact last _ ho a w this
end
def ZnF:Sig:=[(true,(.sl Za)),(false,(.sl Zd)),(false,(.sl (.int .i64)))]
noncomputable def ZbB (t:List (El Za)) (l:List (El Zd)) (points:List Int):List (El Zd):=missL (uB t) points l
def ZaB (t:List (El Za)) (l:List (El Zd)) (points:List Int):Bool:=flowOK t&&(decide (points.length < 4611686018427387904)&&decide (l.length < 1000000000000))
def Zvd:List (El Zd)→AV:=fun r=>.rw 67 Zd r
theorem ZNd {U:El Zd→Bool} {l:List (El Zd)} {j:Nat} (hj:j < l.length):(l.take (j+1)).filter U=(l.take j).filter U++if U l[j]=true then [l[j]] else []:=by
 rw[List.take_succ_eq_append_getElem hj,List.filter_append,List.filter_cons,List.filter_nil]
theorem Zwf (t:List (El Za)) (l:List (El Zd)) (pts:List Int) (hk:ZaB t l pts=true):CallOK mProg 37 (toForms ZnF (t,l,pts,())) (Zvd (ZbB t l pts),tps (toForms ZnF (t,l,pts,()))):=by
 unfold ZaB at hk
 rw[Bool.and_eq_true,Bool.and_eq_true,decide_eq_true_eq,decide_eq_true_eq] at hk
 obtain ⟨hf,hp,hN⟩:=hk
 refine ZmF (tb:=[]) (fn:=Go.Proofs.Tryz.f37) (c:=msB) (vs:=[.ag [.d (.sl Za) t],.d (.sl Zd) l,.d (.sl (.int .i64)) pts]) (st:=⟨[],[]⟩) (by kernel_rfl) (by kernel_rfl) (by kernel_rfl) ?_
 intro _ Mod F0 w0 a w hr
 have hr:Rel Mod F0 w0 (mS0 t l pts) a w:=hr
 rw[ZQz]
 refine wp_seq (piece mcl.1 mcl.2 (norm mProg ⟨[1,2,3],[]⟩) (fun h=>Z1 h) (m_0 t l pts) hr fun a w hr=>?_)
 refine wp_seq (piece mcl.1 mcl.2 (norm mProg ⟨[1,2,3,7],[(8,122)]⟩) (fun h=>Z1 h) (m_1 t l pts) hr fun a w hr=>?_)
 refine wp_seq (mw_2 hr fun m a w hr=>?_)
 refine wp_seq (wp_seq (pieceX mcl.1 mcl.2 (norm mProg mLA) (fun h=>Z1 h) (m_3 t l pts m) hr fun a w hr=>?_))
 rw[ZQx]
 refine forLoop (fun j a w=>∃ms,OkM t pts ms∧RelX (mapHid m ms) Mod F0 w0 (mSA t l pts ((l.take j).filter (uB t pts)) m (j:Int)) a w)
  (fun j a w=>∃ms,OkM t pts ms∧RelX (mapHid m ms) Mod F0 w0 ((mSA t l pts ((l.take j).filter (uB t pts)) m (j:Int)).put (some 19) (.d .bool (decide ((j:Int) < Int.ofNat (List.length l))))) a w)
  (fun j a w=>∃ms,OkM t pts ms∧RelX (mapHid m ms) Mod F0 w0 (mSA t l pts ((l.take (j+1)).filter (uB t pts)) m (j:Int)) a w)
  l.length (toGo 18 l.length) ?_ ?_ ?_ ?_ ?_ ⟨[],fun s r h=>(by cases h),hr⟩ ?_
 ·intro j a w hj ⟨ms,ho,hr⟩
  exact pieceX mcl.1 mcl.2 (fun s=>s) (fun h=>h) (m_R1 _ _ _ _ _ _) hr fun a' w' hr'=>⟨rfl,ms,ho,hr'⟩
 ·intro j a w hj ⟨ms,ho,hr⟩
  rw[hr.evb (x:=.tmp 19) (b:=decide ((j:Int) < Int.ofNat (List.length l))) (by kernel_rfl)]
  exact congrArg Value.bool (by rw[Bool.eq_iff_iff,decide_eq_true_eq,decide_eq_true_eq];exact Int.ofNat_lt)
 ·intro j a w hj ⟨ms,ho,hr⟩
  rw[ZNd hj]
  refine mw_L hf hp hj ?_ ho hr
  have h1:=List.length_filter_le (uB t pts) (l.take j)
  rw[List.length_take] at h1
  unfold limit
  omega
 ·intro j a w hj ⟨ms,ho,hr⟩
  have e:=m_R2 t l pts ((l.take (j+1)).filter (uB t pts)) m (j:Int)
  rw[Zs (by omega)] at e
  exact pieceX mcl.1 mcl.2 (norm mProg mLA) (fun h=>Z1 h) e hr fun a' w' hr'=>⟨rfl,ms,ho,hr'⟩
 ·intro j a w hj ⟨ms,ho,hr⟩
  unfold toGo
  rw[hr.ev (x:=.tmp 18) (k:=.i64) (n:=(j:Int)) (by kernel_rfl)]
  rfl
 ·intro a w ⟨ms,ho,hr⟩
  rw[List.take_length] at hr
  have hr:=hr.out
  refine wp_seq (piece mcl.1 mcl.2 (fun s=>s) (fun h=>h) (m_E t l pts (l.filter (uB t pts)) m _ _) hr fun a w hr=>?_)
  exact wp_ret ⟨.inr rfl,_,hr,by kernel_rfl⟩
noncomputable def Zkv:Run:=entG ZnF Zvd (fun a=>ZaB a.1 a.2.1 a.2.2.1) (fun a=>ZbB a.1 a.2.1 a.2.2.1)
theorem ZnH:EntOK mProg 37 Zkv:=ZAy (ZiT (fn:=Go.Proofs.Tryz.f37) (c:=msB) (by kernel_rfl) (by kernel_rfl) (by kernel_rfl)) fun a h=>Zwf a.1 a.2.1 a.2.2.1 h
end
end Go.Ev
end

section
open Go Go.Ev
namespace Go.Ev
def renComp:Go.Shelf.Ren:=⟨fun n=>if n=20 then 55 else n,
 fun n=>if n=22 then 23 else n,
 fun n=>n⟩
theorem ZxX:Go.Proofs.Lays2.n20 Go.Proofs.Tryz.prog renComp where
 mixed:=by kernel_rfl
 f20:=by kernel_rfl
 t0:=by kernel_rfl
 a0:=fun w=>by kernel_rfl
 z0:=fun w=>by kernel_rfl
 v0:=fun w=>by kernel_rfl
 t3:=by kernel_rfl
 a3:=fun w=>by kernel_rfl
 z3:=fun w=>by kernel_rfl
 v3:=fun w=>by kernel_rfl
 t4:=by kernel_rfl
 a4:=fun w=>by kernel_rfl
 z4:=fun w=>by kernel_rfl
 v4:=fun w=>by kernel_rfl
 t22:=by kernel_rfl
 a22:=fun w=>by kernel_rfl
 z22:=fun w=>by kernel_rfl
 v22:=fun w=>by kernel_rfl
 i3:=by kernel_rfl
theorem compOK:CompactOK Go.Proofs.Tryz.prog 55:=⟨fun blk off cap zs w h1 h2 h3=>Go.Proofs.Any.slices_Compact_int ZxX blk off cap zs w h1 h2 h3,fun a cap w=>Go.Proofs.Any.slices_Compact_int_empty ZxX a cap w⟩
noncomputable section
noncomputable def ZDg:Run:=rowRun (entO [.row 3 (.int .i64)] (fun (r:List Int)=>(.rw 3 (.int .i64) r,[.top])) (fun _=>true) (fun a=>Go.Lib.compact a.1))
theorem ZKl:EntOK Go.Proofs.Tryz.prog 55 ZDg:=ZzF (Zww (Zoz (ZiT (fn:=Go.Proofs.Tryz.f55) (c:=Go.Proofs.Tryz.f55.body.getD .skip) (by kernel_rfl) (by kernel_rfl) (by kernel_rfl))) fun a _=>ZIH compOK a.1)
noncomputable def Zvr:PSig:=[.row 3 (.int .i64)]
def Zhh (l:List Int):List Int:=putsL [] l
noncomputable def ZsH:List Int→Ans:=fun r=>(.rw 3 (.int .i64) r,[.top])
noncomputable def riB:Code:=Go.Proofs.Tryz.f32.body.getD .skip
noncomputable def ri1:Code:=fstC riB
noncomputable def ri2:Code:=fstC (sndC riB)
noncomputable def ri3:Code:=sndC (sndC riB)
noncomputable def riT:Tbl:=[(55,ZDg)]
theorem ZQg:∀p∈riT,EntOK Go.Proofs.Tryz.prog p.1 p.2:=Zg ZKl Zu
theorem ZQe:riB=.seq ri1 (.seq (.region (ridC ri2) (ropsC ri2) false) ri3):=by kernel_rfl
noncomputable def riS (l:List Int):St:=⟨mkTm 7 [(0,.own 1 0 none)],[(1,0,.row 3 (.int .i64) l false)]⟩
theorem ri_1 (l:List Int) (L:Lt) (k:Kt) (x:Nat→Kt) (r:Kt):evC Go.Proofs.Tryz.prog (clOf riT) [] L ri1 0 (fun t=>k (norm Go.Proofs.Tryz.prog ⟨[0],[]⟩ t)) x r (riS l)=k (riS l):=by kernel_rfl
theorem ri_3 (l:List Int) (L:Lt):evC Go.Proofs.Tryz.prog (clOf riT) [] L ri3 0 (finA Go.Proofs.Tryz.prog [] Go.Proofs.Tryz.f32 [.rw 3 (.int .i64) l]) (fun _ _=>none) (finA Go.Proofs.Tryz.prog [] Go.Proofs.Tryz.f32 [.rw 3 (.int .i64) l]) (riS (sorted l))=some (.rw 3 (.int .i64) (risL l),[.top]):=by kernel_rfl
theorem ZNK (l:List Int):risL l=putsL [] l:=ZkP ZA4 (Zjf .nil) fun x=>by rw[ZLC,Zoa];simp
def Zdp (l:List Int):Bool:=decide (l.length < 4611686018427387904)
theorem Zxw (l:List Int) (hk:Zdp l=true):CallOK Go.Proofs.Tryz.prog 32 (toPs Zvr (l,())) (ZsH (Zhh l)):=by
 obtain ⟨hcl,hdet⟩:=ZqL ZQg
 refine ZmF (tb:=[]) (fn:=Go.Proofs.Tryz.f32) (c:=riB) (vs:=[.own 1 0 none]) (st:=⟨[],[(1,0,.row 3 (.int .i64) l false)]⟩) (by kernel_rfl) (by kernel_rfl) (by kernel_rfl) ?_
 intro _ Mod F0 w0 a w hr
 have hr:Rel Mod F0 w0 (riS l) a w:=hr
 rw[ZQe]
 refine wp_seq (piece hcl hdet (norm Go.Proofs.Tryz.prog ⟨[0],[]⟩) (fun h=>Z1 h) (ri_1 l) hr fun a w hr=>?_)
 refine wp_seq (wp_region ?_)
 rw[show List.range (ropsC ri2).size=[0,1] from by kernel_rfl]
 refine evOp hcl (o:=opC ri2 0) (st1:=(riS l).put (some 3) (.own 1 0 none)) (by kernel_rfl) (by kernel_rfl) (fun k=>by kernel_rfl) hr fun a w hr=>?_
 refine handOp (o:=opC ri2 1) (by kernel_rfl) (by kernel_rfl) ?_
 refine sortStep (ts:=3) (id:=1) (ver:=0) (E:=3) (l:=l) (c:=(match (opC ri2 1).op with |.call c=>c | _=>default)) (fn:=Go.Proofs.Tryz.f54) (body:=Go.Proofs.Tryz.f54.body.getD .skip) (by kernel_rfl) (by kernel_rfl) (by kernel_rfl) (by kernel_rfl) (by kernel_rfl) (by kernel_rfl) (by kernel_rfl) (by kernel_rfl) sortOK (of_decide_eq_true hk) hr fun a w hr=>?_
 have hr:Rel Mod F0 w0 (riS (sorted l)) a w:=Z1 (P:=Go.Proofs.Tryz.prog) (lab:=⟨[0],[]⟩) hr
 unfold ZsH Zhh
 rw[←ZNK]
 exact endStep hcl hdet (ri_3 l) hr
noncomputable def Zmt:Run:=rowRun (entO Zvr ZsH (fun a=>Zdp a.1) (fun a=>Zhh a.1))
theorem Zo3:EntOK Go.Proofs.Tryz.prog 32 Zmt:=ZzF (Zww (Zoz (ZiT (fn:=Go.Proofs.Tryz.f32) (c:=riB) (by kernel_rfl) (by kernel_rfl) (by kernel_rfl))) fun a h=>Zxw a.1 h)
end
end Go.Ev
end

section
open Go Go.Ev
namespace Go.Ev
noncomputable section
def ZfF:Sig:=[(true,(.sl Za)),(false,(.sl Zd))]
noncomputable def Zsl:Tbl:=[(40,ZcT),(37,Zkv),(32,Zmt)]
theorem ZDX:∀p∈Zsl,EntOK Go.Proofs.Tryz.prog p.1 p.2:=Zg Zf3 (Zg ZnH (Zg Zo3 (Zu)))
noncomputable def ZmA:Code:=Go.Proofs.Tryz.f33.body.getD .skip
def Zqf:Tb:=[(3,⟨[1,2,5],[(6,46)]⟩),(9,⟨[1,2,5,6,7,16,17],[(10000000000000000000000000000000000000000000000000000000000008,1)]⟩)]
inductive Zjs where | l3 (points:List Int) (open_1:List (El Zd)) | l9 (left:List (El Zd)) (h:Int) (best:Int) (points:List Int) (open_1:List (El Zd))
def ZcM (t:List (El Za)) (open_:List (El Zd)):Zjs→JT Zjs (List Int) |.l3 points open_1=>.br (decide ((Int.ofNat (List.length open_1)) > (0:Int))) (.jmp (.l9 open_1 (0:Int) (0:Int) points open_1)) (.br (Zdp points) (.leaf (Zhh points)) (.no)) |.l9 left h best points open_1=>.br (decide (h < (Int.ofNat (List.length t)))) (.br (Za1 points) (.br (Nat.ble (((List.length (ZL points))+1)*8) limit) (.br (ZaB t open_1 ((ZL points)++[h])) (.br (decide ((Int.ofNat (List.length (ZbB t open_1 ((ZL points)++[h])))) < (Int.ofNat (List.length left)))) (.jmp (.l9 (ZbB t open_1 ((ZL points)++[h])) (IntKind.i64.wrap (h+(1:Int))) h points open_1)) (.jmp (.l9 left (IntKind.i64.wrap (h+(1:Int))) best points open_1))) (.no)) (.no)) (.no)) (.br (Nat.ble (((List.length points)+1)*8) limit) (.jmp (.l3 (points++[best]) left)) (.no))
def Zwk (t:List (El Za)) (open_:List (El Zd)):JT Zjs (List Int):=.jmp (.l3 [] open_)
def ZmN:List Int→AV:=fun (r:List Int)=>.rw 3 (.int .i64) r
def Zfh (t:List (El Za)) (open_:List (El Zd)):Zjs→Nat×St |.l3 points open_1=>(3,⟨mkTm 43 [(1,.d (.sl Zd) open_1),(2,.pt 3 0 0),(5,.own 6 0 none)],[(3,0,.box 34 [.d (.sl Za) t] none),(6,0,.row 3 (.int .i64) points false)]⟩) |.l9 left h best points open_1=>(9,⟨mkTm 43 [(1,.d (.sl Zd) open_1),(2,.pt 3 0 0),(5,.own 6 0 none),(6,.d (.int .i64) best),(7,.d (.sl Zd) left),(16,.d (.int .i64) (Int.ofNat (List.length t))),(17,.d (.int .i64) h)],[(3,0,.box 34 [.d (.sl Za) t] none),(6,0,.row 3 (.int .i64) points false)]⟩)
theorem ZEu (t:List (El Za)) (open_:List (El Zd)) (L:Lt):entryA Go.Proofs.Tryz.prog (clOf Zsl) Zqf Go.Proofs.Tryz.f33 ZmA L (toForms ZfF (t,open_,()))=(Zwk t open_).run (fun v=>some (ZmN v,tps (toForms ZfF (t,open_,())))) fun j=>L (Zfh t open_ j).1 (Zfh t open_ j).2:=by kernel_rfl
theorem ZEK (t:List (El Za)) (open_:List (El Zd)):∀(L:Lt) (j:Zjs),procOf (procsF Go.Proofs.Tryz.prog (clOf Zsl) Zqf Go.Proofs.Tryz.f33 ZmA (toForms ZfF (t,open_,()))) (Zfh t open_ j).1 L (Zfh t open_ j).2=(ZcM t open_ j).run (fun v=>some (ZmN v,tps (toForms ZfF (t,open_,())))) fun j=>L (Zfh t open_ j).1 (Zfh t open_ j).2 | L,.l3 points open_1=>by kernel_rfl | L,.l9 left h best points open_1=>by kernel_rfl
end
end Go.Ev
end

section
open Go
namespace Go.Ev
def loadIn (n:Nat) (x:PairD):Bool:=decide ((0:Int)≤x.2.2∧(show Int from x.2.2) < (n:Int))
theorem ZNt {t:List (El Za)} {l:List PairD} (h:l.all (loadIn t.length)=true):Cuts (uB t) t.length l:=fun x hx=>by
 obtain ⟨h1,h2⟩:=of_decide_eq_true (List.all_eq_true.1 h x hx)
 refine ⟨Int.toNat x.2.2,ZNl h1 h2,fun pts=>ZP0 ?_⟩
 rw[List.mem_append,List.mem_singleton,Int.toNat_of_nonneg h1]
 exact .inr rfl
noncomputable def ZeL (t:List (El Za)) (open_:List (El Zd)):List Int:=greedyV (uB t) t.length open_
def Zhj (t:List (El Za)) (open_:List (El Zd)):Bool:=flowOK t&&(decide (open_.length < 1000000000)&&open_.all (loadIn t.length))
theorem ZHd (t:List (El Za)) (open_:List (El Zd)) (hk:Zhj t open_=true):Goes (ZcM t open_) (Zwk t open_) (ZeL t open_):=by
 unfold Zhj at hk
 rw[Bool.and_eq_true,Bool.and_eq_true,decide_eq_true_eq] at hk
 obtain ⟨hf,hN,hall⟩:=hk
 have hlen:=ZbS hf
 have fin:∀(pts:List Int) (l:List PairD),l.length=0→pts.length≤1000000000→Goes (ZcM t open_) (.jmp (.l3 pts l)) (putsL [] pts):=by
  intro pts l h0 hp
  rw[Zi,ZcM,Ze,if_neg (by rw[h0];decide),Ze,if_pos (show Zdp pts=true from decide_eq_true (by omega))]
  exact .leaf
 have outer:∀f:Nat,∀(pts:List Int) (l:List PairD),l.length≤f→f+pts.length≤1000000000→Cuts (uB t) t.length l→Goes (ZcM t open_) (.jmp (.l3 pts l)) (putsL [] (greedyL (uB t) t.length f pts l)):=by
  intro f
  induction f with
  | zero=>
   intro pts l hl hb hc
   exact fin pts l (by omega) (by omega)
  | succ f ih=>
   intro pts l hl hb hc
   by_cases h0:l.length=0
   ·have:=fin pts l h0 (by omega)
    rw[greedyL,if_pos h0]
    exact this
   ·rw[greedyL,if_neg h0]
    obtain ⟨j,hj,e1,e2,e3⟩:=ZMk (pts:=pts) hc (by omega)
    have inner:∀k,k≤t.length→∀acc:Int×List PairD,bestFrom (uB t) t.length pts l k acc=bestG (uB t) t.length pts l→
      Goes (ZcM t open_) (.jmp (.l9 acc.2 (k:Int) acc.1 pts l)) (putsL [] (greedyL (uB t) t.length f (pts++[(bestG (uB t) t.length pts l).1]) (bestG (uB t) t.length pts l).2)):=by
     refine down ?_ fun k hk ihk=>?_
     ·intro acc ha
      rw[Zxz] at ha
      rw[Zi,ZcM,Ze,if_neg (by rw[Zw (Nat.lt_irrefl _)];decide),Ze,if_pos (Nat.ble_eq_true_of_le (by unfold limit;omega)),ha]
      exact ih _ _ (by omega) (by simp;omega) (ZO2 hc fun x hx=>by rw[e2] at hx;exact (List.mem_filter.1 hx).1)
     ·intro acc ha
      rw[ZvN hk] at ha
      have hcl:Za1 pts=true:=decide_eq_true (by omega)
      have hvc:ZL pts=pts:=rfl
      have hkm:ZaB t l (pts++[(k:Int)])=true:=by
       unfold ZaB
       rw[hf,decide_eq_true (show (pts++[(k:Int)]).length < 4611686018427387904 by simp;omega),decide_eq_true (show l.length < 1000000000000 by omega)];rfl
      have hvm:ZbB t l (pts++[(k:Int)])=l.filter (uB t (pts++[(k:Int)])):=rfl
      rw[Zi,ZcM,hvc,hvm,Zs (by omega),Ze,if_pos (ZQ hk),Ze,if_pos hcl,Ze,if_pos (Nat.ble_eq_true_of_le (by unfold limit;omega)),Ze,if_pos hkm,Ze]
      unfold stepG at ha
      by_cases hc2:(l.filter (uB t (pts++[(k:Int)]))).length < acc.2.length
      ·rw[if_pos hc2] at ha
       rw[if_pos (ZLf hc2)]
       exact ihk _ ha
      ·rw[if_neg hc2] at ha
       rw[if_neg (by rw[ZEC hc2];decide)]
       exact ihk _ ha
    rw[Zi,ZcM,Ze,if_pos (decide_eq_true (by simp only[Int.ofNat_eq_natCast];omega))]
    exact inner 0 (Nat.zero_le _) (0,l) rfl
 exact outer open_.length [] open_ (Nat.le_refl _) (by simp;omega) (ZNt hall)
end Go.Ev
end

section
open Go Go.Ev
namespace Go.Ev
noncomputable section
noncomputable def ZxU:Run:=entG ZfF ZmN (fun a=>Zhj a.1 a.2.1) (fun a=>ZeL a.1 a.2.1)
theorem ZE2:EntOK Go.Proofs.Tryz.prog 33 ZxU:=ZJ (tb:=Zqf) (c:=ZmA) ZDX (by kernel_rfl) (by kernel_rfl) (by kernel_rfl) (fun a=>by kernel_rfl) fun ⟨t,open_,_⟩ hk=>Zn (c:=ZmA) (K:=fun v=>(ZmN v,tps (toForms ZfF (t,open_,())))) (S:=Zfh t open_) (by kernel_rfl) (ZEu t open_) (ZEK t open_) (ZHd t open_ hk)
end
end Go.Ev
end

section
open Go Go.Ev
namespace Go.Ev
def renDel:Go.Shelf.Ren:=⟨fun n=>if n=23 then 39 else n,
 fun n=>if n=22 then 23 else n,
 fun n=>n⟩
theorem ZKD:Go.Proofs.Lays2.n23 Go.Proofs.Tryz.prog renDel where
 mixed:=by kernel_rfl
 f23:=by kernel_rfl
 t0:=by kernel_rfl
 a0:=fun w=>by kernel_rfl
 z0:=fun w=>by kernel_rfl
 v0:=fun w=>by kernel_rfl
 t3:=by kernel_rfl
 a3:=fun w=>by kernel_rfl
 z3:=fun w=>by kernel_rfl
 v3:=fun w=>by kernel_rfl
 t4:=by kernel_rfl
 a4:=fun w=>by kernel_rfl
 z4:=fun w=>by kernel_rfl
 v4:=fun w=>by kernel_rfl
 t22:=by kernel_rfl
 a22:=fun w=>by kernel_rfl
 z22:=fun w=>by kernel_rfl
 v22:=fun w=>by kernel_rfl
 i3:=by kernel_rfl
theorem delOK:DeleteOK Go.Proofs.Tryz.prog 39:=fun blk off cap i j zs w h1 h2 h3 h4 h5=>Go.Proofs.Any.slices_Delete_int ZKD blk off cap i j zs w h1 h2 h3 h4 h5
noncomputable section
def ZlB:PSig:=[.row 3 (.int .i64),.dat false (.int .i64),.dat false (.int .i64)]
def ZaA (l:List Int) (i j:Int):List Int:=l.take i.toNat++l.drop j.toNat
def Zcn (l:List Int) (i j:Int):Bool:=decide (0≤i∧i≤j∧j≤(l.length:Int)∧0 < l.length)
def ZlX:List Int→Ans:=fun r=>(.rw 3 (.int .i64) r,[.top,.top,.top])
def Zf1:Run:=rowRun (entO ZlB ZlX (fun a=>Zcn a.1 a.2.1 a.2.2.1) (fun a=>ZaA a.1 a.2.1 a.2.2.1))
theorem Zll:EntOK Go.Proofs.Tryz.prog 39 Zf1:=ZzF (Zww (Zoz (ZiT (fn:=Go.Proofs.Tryz.f39) (c:=Go.Proofs.Tryz.f39.body.getD .skip) (by kernel_rfl) (by kernel_rfl) (by kernel_rfl))) fun a h=>by
 obtain ⟨h1,h2,h3,h4⟩:=of_decide_eq_true h
 exact ZJ1 delOK a.1 h1 h2 h3 (List.length_pos_iff.1 h4))
end
end Go.Ev
end

section
open Go Go.Ev
namespace Go.Ev
noncomputable section
def Zhs:Sig:=[(true,(.sl Za)),(false,(.sl Zd)),(false,(.sl (.int .i64)))]
noncomputable def Zue:Tbl:=[(32,Zmt),(40,ZcT),(39,Zf1),(37,Zkv)]
theorem ZGA:∀p∈Zue,EntOK Go.Proofs.Tryz.prog p.1 p.2:=Zg Zo3 (Zg Zf3 (Zg Zll (Zg ZnH (Zu))))
noncomputable def Zqp:Code:=Go.Proofs.Tryz.f23.body.getD .skip
def Zrl:Tb:=[(4,⟨[1,3,7,12,13,14],[(8,46)]⟩),(13,⟨[1,3,7,10],[]⟩)]
inductive Zlk where | l4 (h:Int) (out:List Int) | l13 (out:List Int) (i:Int)
def ZeD (t:List (El Za)) (all:List (El Zd)) (points:List Int):Zlk→JT Zlk (List Int) |.l4 h out=>.br (decide (h < (Int.ofNat (List.length points)))) (.br ((decide ((0:Int)≤h))&&(decide (h < (Int.ofNat (List.length points))))) (.br (decide ((List.getD points (Int.toNat h) (dflt (.int .i64)))≥(0:Int))) (.br (decide ((List.getD points (Int.toNat h) (dflt (.int .i64))) < (Int.ofNat (List.length t)))) (.br (Nat.ble (((List.length out)+1)*8) limit) (.jmp (.l4 (IntKind.i64.wrap (h+(1:Int))) (out++[(List.getD points (Int.toNat h) (dflt (.int .i64)))]))) (.no)) (.jmp (.l4 (IntKind.i64.wrap (h+(1:Int))) out))) (.jmp (.l4 (IntKind.i64.wrap (h+(1:Int))) out))) (.no)) (.br (Zdp out) (.jmp (.l13 (Zhh out) (0:Int))) (.no)) |.l13 out i=>.br (decide (i < (Int.ofNat (List.length out)))) (.br (Za1 out) (.br (Zcn (ZL out) i (IntKind.i64.wrap (i+(1:Int)))) (.br (ZaB t all (ZaA (ZL out) i (IntKind.i64.wrap (i+(1:Int))))) (.br ((Int.ofNat (List.length (ZbB t all (ZaA (ZL out) i (IntKind.i64.wrap (i+(1:Int)))))))==(0:Int)) (.jmp (.l13 (ZaA (ZL out) i (IntKind.i64.wrap (i+(1:Int)))) i)) (.jmp (.l13 out (IntKind.i64.wrap (i+(1:Int)))))) (.no)) (.no)) (.no)) (.leaf out)
def ZxG (t:List (El Za)) (all:List (El Zd)) (points:List Int):JT Zlk (List Int):=.jmp (.l4 (0:Int) [])
def Zo9:List Int→AV:=fun (r:List Int)=>.rw 3 (.int .i64) r
def ZgM (t:List (El Za)) (all:List (El Zd)) (points:List Int):Zlk→Nat×St |.l4 h out=>(4,⟨mkTm 54 [(1,.d (.sl Zd) all),(3,.pt 4 0 0),(7,.own 8 0 none),(12,.d (.sl (.int .i64)) points),(13,.d (.int .i64) (Int.ofNat (List.length points))),(14,.d (.int .i64) h)],[(4,0,.box 34 [.d (.sl Za) t] none),(8,0,.row 3 (.int .i64) out false)]⟩) |.l13 out i=>(13,⟨mkTm 54 [(1,.d (.sl Zd) all),(3,.pt 4 0 0),(7,.own 8 0 none),(10,.d (.int .i64) i)],[(4,0,.box 34 [.d (.sl Za) t] none),(8,0,.row 3 (.int .i64) out false)]⟩)
theorem ZIa (t:List (El Za)) (all:List (El Zd)) (points:List Int) (L:Lt):entryA Go.Proofs.Tryz.prog (clOf Zue) Zrl Go.Proofs.Tryz.f23 Zqp L (toForms Zhs (t,all,points,()))=(ZxG t all points).run (fun v=>some (Zo9 v,tps (toForms Zhs (t,all,points,())))) fun j=>L (ZgM t all points j).1 (ZgM t all points j).2:=by kernel_rfl
theorem ZIA (t:List (El Za)) (all:List (El Zd)) (points:List Int):∀(L:Lt) (j:Zlk),procOf (procsF Go.Proofs.Tryz.prog (clOf Zue) Zrl Go.Proofs.Tryz.f23 Zqp (toForms Zhs (t,all,points,()))) (ZgM t all points j).1 L (ZgM t all points j).2=(ZeD t all points j).run (fun v=>some (Zo9 v,tps (toForms Zhs (t,all,points,())))) fun j=>L (ZgM t all points j).1 (ZgM t all points j).2 | L,.l4 h out=>by kernel_rfl | L,.l13 out i=>by kernel_rfl
end
end Go.Ev
end

section
open Go
namespace Go.Ev
noncomputable def ZaP (t:List (El Za)) (all:List (El Zd)) (points:List Int):List Int:=pruneV (uB t) t.length all points
def ZbA (t:List (El Za)) (all:List (El Zd)) (points:List Int):Bool:=flowOK t&&(decide (points.length < 1000000000000)&&decide (all.length < 1000000000000))
theorem ZLK {l:List Int} :(putsL [] l).length≤l.length:=by rw[←ZNa];exact ZLo
theorem ZKI (t:List (El Za)) (all:List (El Zd)) (points:List Int) (hk:ZbA t all points=true):Goes (ZeD t all points) (ZxG t all points) (ZaP t all points):=by
 unfold ZbA at hk
 rw[Bool.and_eq_true,Bool.and_eq_true,decide_eq_true_eq,decide_eq_true_eq] at hk
 obtain ⟨hf,hp,hN⟩:=hk
 have second:∀rest done:List Int,(done++rest).length < 1000000000000→Goes (ZeD t all points) (.jmp (.l13 (done++rest) (done.length:Int))) (pruneL (uB t) all done rest):=by
  intro rest
  induction rest with
  | nil=>
   intro done hl
   rw[Zi,ZeD,List.append_nil,Ze,if_neg (by rw[Zw (Nat.lt_irrefl _)];decide)]
   exact .leaf
  | cons x r ih=>
   intro done hl
   have hlt:done.length < (done++x :: r).length:=by simp
   rw[Zi,ZeD,Zs (by omega)]
   have hcl:Za1 (done++x :: r)=true:=decide_eq_true (by omega)
   have hvc:ZL (done++x :: r)=done++x :: r:=rfl
   rw[hvc]
   have hkd:Zcn (done++x :: r) (done.length:Int) ((done.length+1:Nat):Int)=true:=decide_eq_true ⟨by omega,by omega,by omega,by omega⟩
   have hvd:ZaA (done++x :: r) (done.length:Int) ((done.length+1:Nat):Int)=done++r:=by
    unfold ZaA
    rw[Int.toNat_natCast,Int.toNat_natCast,List.take_left' rfl,List.drop_append]
    simp
   rw[hvd]
   have hlr:(done++r).length < 1000000000000:=by simp at hl ⊢;omega
   have hkm:ZaB t all (done++r)=true:=by
    unfold ZaB
    rw[hf,decide_eq_true (show (done++r).length < 4611686018427387904 by omega),decide_eq_true hN];rfl
   have hvm:ZbB t all (done++r)=all.filter (uB t (done++r)):=rfl
   rw[Ze,if_pos (ZQ hlt),Ze,if_pos hcl,Ze,if_pos hkd,Ze,if_pos hkm,hvm,Ze,pruneL]
   by_cases hz:(all.filter (uB t (done++r))).length=0
   ·rw[if_pos (by rw[hz];rfl),if_pos hz]
    exact ih done hlr
   ·rw[if_neg (by simp only[beq_iff_eq,Int.ofNat_eq_natCast];omega),if_neg hz]
    have:=ih (done++[x]) (by rw[List.append_assoc];exact hl)
    rw[List.append_assoc,List.length_append] at this
    exact this
 have first:∀k,k≤points.length→∀out:List Int,out.length≤k→Goes (ZeD t all points) (.jmp (.l4 (k:Int) out)) (pruneL (uB t) all [] (putsL [] (out++(points.drop k).filter (inR t.length)))):=by
  refine down ?_ fun k hk ih=>?_
  ·intro out ho
   rw[Zi,ZeD,Ze,if_neg (by rw[Zw (Nat.lt_irrefl _)];decide),List.drop_length,Ze,if_pos (show Zdp out=true from decide_eq_true (by omega))]
   simp only[List.filter_nil,List.append_nil]
   have h1:(putsL [] out).length≤out.length:=ZLK
   exact second (putsL [] out) [] (by simp;omega)
  ·intro out ho
   have b1:Nat.ble ((out.length+1)*8) limit=true:=Nat.ble_eq_true_of_le (by unfold limit;omega)
   rw[Zi,ZeD,ZN hk,List.filter_cons]
   simp only[Ze,ZQ hk,nng,Bool.and_self,if_true,Int.toNat_natCast,ZG hk,b1,Zs (k:=k) (by omega)]
   have e2:decide (points[k] < Int.ofNat t.length)=decide (points[k] < (t.length:Int)):=rfl
   have e1:inR t.length points[k]=(decide (points[k]≥0)&&decide (points[k] < (t.length:Int))):=rfl
   rw[e1,e2]
   cases c1:decide (points[k]≥0) with
   | true=>
    cases c2:decide (points[k] < (t.length:Int)) with
    | true=>
     have:=ih (out++[points[k]]) (by simp;omega)
     rw[List.append_assoc] at this
     exact this
    | false=>exact ih out (by omega)
   | false=>exact ih out (by omega)
 have:=first 0 (Nat.zero_le _) [] (Nat.zero_le _)
 rw[List.nil_append,List.drop_zero] at this
 exact this
end Go.Ev
end

section
open Go Go.Ev
namespace Go.Ev
noncomputable section
noncomputable def Zu4:Run:=entG Zhs Zo9 (fun a=>ZbA a.1 a.2.1 a.2.2.1) (fun a=>ZaP a.1 a.2.1 a.2.2.1)
theorem Zyp:EntOK Go.Proofs.Tryz.prog 23 Zu4:=ZJ (tb:=Zrl) (c:=Zqp) ZGA (by kernel_rfl) (by kernel_rfl) (by kernel_rfl) (fun a=>by kernel_rfl) fun ⟨t,all,points,_⟩ hk=>Zn (c:=Zqp) (K:=fun v=>(Zo9 v,tps (toForms Zhs (t,all,points,())))) (S:=ZgM t all points) (by kernel_rfl) (ZIa t all points) (ZIA t all points) (ZKI t all points hk)
end
end Go.Ev
end

section
open Go Go.Ev
namespace Go.Ev
noncomputable section
def ZfB:Sig:=[(true,Zc),(false,(.int .i64)),(false,(.sl Zd)),(false,(.sl Zd))]
noncomputable def ZrE:Tbl:=[(24,ZwC),(33,ZxU),(23,Zu4)]
theorem ZFS:∀p∈ZrE,EntOK Go.Proofs.Tryz.prog p.1 p.2:=Zg Zwo (Zg ZE2 (Zg Zyp (Zu)))
noncomputable def Zmn:Code:=Go.Proofs.Tryz.f30.body.getD .skip
def ZpF:Tb:=[(5,⟨[1,3,9,10,11,12,29,30,31],[(12,46),(13,46)]⟩),(13,⟨[9,10,15,57,58,59],[]⟩)]
inductive Zjt where | l5 (x:List (El Za)) (h:Int) (after:List Int) (ahead:List Int) | l13 (x:List (El Za)) (best:List Int) (h:List (List Int)) (h1:Int)
def ZbN (p:El Zc) (t:Int) (pairs:List (El Zd)) (open_:List (El Zd)):Zjt→JT Zjt (List Int) |.l5 x h after ahead=>.br (decide (h < (Int.ofNat (List.length (Z5 open_ t))))) (.br ((decide ((0:Int)≤h))&&(decide (h < (Int.ofNat (List.length (Z5 open_ t)))))) (.br (Nat.ble (((List.length after)+1)*8) limit) (.br (Nat.ble (((List.length ahead)+1)*8) limit) (.jmp (.l5 x (IntKind.i64.wrap (h+(1:Int))) (after++[(IntKind.i64.wrap ((List.getD (Z5 open_ t) (Int.toNat h) (dflt Zd)).2.1+(1:Int)))]) (ahead++[(List.getD (Z5 open_ t) (Int.toNat h) (dflt Zd)).2.2]))) (.no)) (.no)) (.no)) (.br (ZcA open_ t) (.br (Zhj x (Z5 open_ t)) (.br (ZbA x (Z5 pairs t) (ZeL x (Z5 open_ t))) (.jmp (.l13 x (ZaP x (Z5 pairs t) (ZeL x (Z5 open_ t))) [after,ahead] (0:Int))) (.no)) (.no)) (.no)) |.l13 x best h h1=>.br (decide (h1 < (2:Int))) (.br ((decide ((0:Int)≤h1))&&(decide (h1 < (Int.ofNat (List.length h))))) (.br (ZbA x (Z5 pairs t) (List.getD h (Int.toNat h1) (dflt (.sl (.int .i64))))) (.br (decide ((Int.ofNat (List.length (ZaP x (Z5 pairs t) (List.getD h (Int.toNat h1) (dflt (.sl (.int .i64))))))) < (Int.ofNat (List.length best)))) (.jmp (.l13 x (ZaP x (Z5 pairs t) (List.getD h (Int.toNat h1) (dflt (.sl (.int .i64))))) h (IntKind.i64.wrap (h1+(1:Int))))) (.jmp (.l13 x best h (IntKind.i64.wrap (h1+(1:Int)))))) (.no)) (.no)) (.leaf best)
def ZoJ (p:El Zc) (t:Int) (pairs:List (El Zd)) (open_:List (El Zd)):JT Zjt (List Int):=.br ((decide ((0:Int)≤t))&&(decide (t < (Int.ofNat (List.length p.2))))) (.br (ZcA pairs t) (.br (ZcA open_ t) (.jmp (.l5 (List.getD p.2 (Int.toNat t) (dflt (.sl Za))) (0:Int) [] [])) (.no)) (.no)) (.no)
def ZmV:List Int→AV:=fun (r:List Int)=>.rw 3 (.int .i64) r
def Zfa (p:El Zc) (t:Int) (pairs:List (El Zd)) (open_:List (El Zd)):Zjt→Nat×St |.l5 x h after ahead=>(5,⟨mkTm 75 [(1,.d (.int .i64) t),(3,.d (.sl Zd) open_),(9,.pt 10 0 0),(10,.own 11 0 none),(11,.own 12 0 none),(12,.own 13 0 none),(29,.own 30 0 none),(30,.d (.int .i64) (Int.ofNat (List.length (Z5 open_ t)))),(31,.d (.int .i64) h)],[(10,0,.box 34 [.d (.sl Za) x] none),(11,0,.row 67 Zd (Z5 pairs t) false),(12,0,.row 3 (.int .i64) after false),(13,0,.row 3 (.int .i64) ahead false),(30,0,.row 67 Zd (Z5 open_ t) false)]⟩) |.l13 x best h h1=>(13,⟨mkTm 75 [(9,.pt 10 0 0),(10,.own 11 0 none),(15,.own 16 0 none),(57,.own 58 0 none),(58,.d (.int .i64) (2:Int)),(59,.d (.int .i64) h1)],[(10,0,.box 34 [.d (.sl Za) x] none),(11,0,.row 67 Zd (Z5 pairs t) false),(16,0,.row 3 (.int .i64) best false),(58,0,.row 23 (.sl (.int .i64)) h false)]⟩)
theorem ZE5 (p:El Zc) (t:Int) (pairs:List (El Zd)) (open_:List (El Zd)) (L:Lt):entryA Go.Proofs.Tryz.prog (clOf ZrE) ZpF Go.Proofs.Tryz.f30 Zmn L (toForms ZfB (p,t,pairs,open_,()))=(ZoJ p t pairs open_).run (fun v=>some (ZmV v,tps (toForms ZfB (p,t,pairs,open_,())))) fun j=>L (Zfa p t pairs open_ j).1 (Zfa p t pairs open_ j).2:=by kernel_rfl
theorem ZDZ (p:El Zc) (t:Int) (pairs:List (El Zd)) (open_:List (El Zd)):∀(L:Lt) (j:Zjt),procOf (procsF Go.Proofs.Tryz.prog (clOf ZrE) ZpF Go.Proofs.Tryz.f30 Zmn (toForms ZfB (p,t,pairs,open_,()))) (Zfa p t pairs open_ j).1 L (Zfa p t pairs open_ j).2=(ZbN p t pairs open_ j).run (fun v=>some (ZmV v,tps (toForms ZfB (p,t,pairs,open_,())))) fun j=>L (Zfa p t pairs open_ j).1 (Zfa p t pairs open_ j).2 | L,.l5 x h after ahead=>by kernel_rfl | L,.l13 x best h h1=>by kernel_rfl
end
end Go.Ev
end

section
open Go
namespace Go.Ev
def storeIn (x:PairD):Bool:=decide ((0:Int)≤x.2.1∧(show Int from x.2.1) < 1099511627776)
noncomputable def ZbH (p:El Zc) (t:Int) (pairs:List (El Zd)) (open_:List (El Zd)):List Int:=pointsV (uB (thrT p t)) (thrT p t).length (pairs.filter (ofB t)) (open_.filter (ofB t))
def ZcC (p:El Zc) (t:Int) (pairs:List (El Zd)) (open_:List (El Zd)):Bool:=
 (decide ((0:Int)≤t)&&decide (t < Int.ofNat p.2.length))&&(flowOK (thrT p t)&&(decide (pairs.length < 1000000000)&&(decide (open_.length < 1000000000)&&(open_.filter (ofB t)).all fun x=>loadIn (thrT p t).length x&&storeIn x)))
theorem ZLY {x:PairD} (h:storeIn x=true):IntKind.i64.wrap ((show Int from x.2.1)+1)=(show Int from x.2.1)+1:=by
 obtain ⟨h1,h2⟩:=of_decide_eq_true h
 have h1:(0:Int)≤(show Int from x.2.1):=h1
 generalize (show Int from x.2.1)=y at*
 exact wrap_i64 (by omega) (by omega)
theorem ZHb (p:El Zc) (t:Int) (pairs:List (El Zd)) (open_:List (El Zd)) (hk:ZcC p t pairs open_=true):Goes (ZbN p t pairs open_) (ZoJ p t pairs open_) (ZbH p t pairs open_):=by
 unfold ZcC at hk
 rw[Bool.and_eq_true] at hk
 obtain ⟨hin,hk⟩:=hk
 rw[Bool.and_eq_true,Bool.and_eq_true,Bool.and_eq_true] at hk
 obtain ⟨hf,hP,hO,hall⟩:=hk
 have hP:=of_decide_eq_true hP
 have hO:=of_decide_eq_true hO
 have hall:=List.all_eq_true.1 hall
 have ho1:((open_.filter (ofB t)).all (loadIn (thrT p t).length))=true:=List.all_eq_true.2 fun x hx=>by
  have:=hall x hx
  rw[Bool.and_eq_true] at this
  exact this.1
 have hs:∀x∈open_.filter (ofB t),storeIn x=true:=fun x hx=>by
  have:=hall x hx
  rw[Bool.and_eq_true] at this
  exact this.2
 have hol:(open_.filter (ofB t)).length≤open_.length:=List.length_filter_le _ _
 have hpl:(pairs.filter (ofB t)).length≤pairs.length:=List.length_filter_le _ _
 have kof1:ZcA pairs t=true:=decide_eq_true (by omega)
 have kof2:ZcA open_ t=true:=decide_eq_true (by omega)
 have vof1:Z5 pairs t=pairs.filter (ofB t):=rfl
 have vof2:Z5 open_ t=open_.filter (ofB t):=rfl
 have kg:Zhj (thrT p t) (open_.filter (ofB t))=true:=by
  unfold Zhj
  rw[hf,decide_eq_true (show (open_.filter (ofB t)).length < 1000000000 by omega),ho1];rfl
 have kp:∀pts:List Int,pts.length < 1000000000000→ZbA (thrT p t) (pairs.filter (ofB t)) pts=true:=fun pts h=>by
  unfold ZbA
  rw[hf,decide_eq_true h,decide_eq_true (show (pairs.filter (ofB t)).length < 1000000000000 by omega)];rfl
 have hgl:∀(f:Nat) (pts:List Int) (l:List PairD),(greedyL (uB (thrT p t)) (thrT p t).length f pts l).length≤f+pts.length:=by
  intro f
  induction f with
  | zero=>intro pts l;rw[greedyL];omega
  | succ f ih=>
   intro pts l
   rw[greedyL]
   split
   ·omega
   ·have:=ih (pts++[(bestG (uB (thrT p t)) (thrT p t).length pts l).1]) (bestG (uB (thrT p t)) (thrT p t).length pts l).2
    rw[List.length_append,List.length_singleton] at this
    omega
 have hgv:(ZeL (thrT p t) (open_.filter (ofB t))).length < 1000000000000:=by
  have h1:(ZeL (thrT p t) (open_.filter (ofB t))).length≤(greedyL (uB (thrT p t)) (thrT p t).length (open_.filter (ofB t)).length [] (open_.filter (ofB t))).length:=ZLK
  have h2:=hgl (open_.filter (ofB t)).length [] (open_.filter (ofB t))
  simp only[List.length_nil,Nat.add_zero] at h2
  omega
 have hx:List.getD p.2 (Int.toNat t) (dflt (.sl Za))=thrT p t:=rfl
 have second:∀after ahead:List Int,after.length < 1000000000000→ahead.length < 1000000000000→∀b0:List Int,
   Goes (ZbN p t pairs open_) (.jmp (.l13 (thrT p t) b0 [after,ahead] (0:Int))) (shorter (shorter b0 (ZaP (thrT p t) (pairs.filter (ofB t)) after)) (ZaP (thrT p t) (pairs.filter (ofB t)) ahead)):=by
  intro after ahead h1 h2 b0
  have last:∀b:List Int,Goes (ZbN p t pairs open_) (.jmp (.l13 (thrT p t) b [after,ahead] (2:Int))) b:=fun b=>by
   rw[Zi,ZbN,Ze,if_neg (by decide)]
   exact .leaf
  have mid:∀b:List Int,Goes (ZbN p t pairs open_) (.jmp (.l13 (thrT p t) b [after,ahead] (1:Int))) (shorter b (ZaP (thrT p t) (pairs.filter (ofB t)) ahead)):=fun b=>by
   rw[Zi,ZbN,vof1,Ze,if_pos (by decide),Ze,if_pos (by rfl),Ze]
   have e:List.getD [after,ahead] (Int.toNat (1:Int)) (dflt (.sl (.int .i64)))=ahead:=rfl
   have w:IntKind.i64.wrap ((1:Int)+1)=2:=by decide
   rw[e,w,if_pos (kp _ h2),Ze]
   unfold shorter
   by_cases c:(ZaP (thrT p t) (pairs.filter (ofB t)) ahead).length < b.length
   ·rw[if_pos (ZLf c),if_pos c];exact last _
   ·rw[if_neg (by rw[ZEC c];decide),if_neg c];exact last _
  rw[Zi,ZbN,vof1,Ze,if_pos (by decide),Ze,if_pos (by rfl),Ze]
  have e:List.getD [after,ahead] (Int.toNat (0:Int)) (dflt (.sl (.int .i64)))=after:=rfl
  have w:IntKind.i64.wrap ((0:Int)+1)=1:=by decide
  rw[e,w,if_pos (kp _ h1),Ze]
  have s1:shorter b0 (ZaP (thrT p t) (pairs.filter (ofB t)) after)=if (ZaP (thrT p t) (pairs.filter (ofB t)) after).length < b0.length then ZaP (thrT p t) (pairs.filter (ofB t)) after else b0:=rfl
  rw[s1]
  by_cases c:(ZaP (thrT p t) (pairs.filter (ofB t)) after).length < b0.length
  ·rw[if_pos (ZLf c),if_pos c];exact mid _
  ·rw[if_neg (by rw[ZEC c];decide),if_neg c];exact mid _
 obtain ⟨O,hOe⟩:∃O,open_.filter (ofB t)=O:=⟨_,rfl⟩
 have first:∀k,k≤O.length→Goes (ZbN p t pairs open_) (.jmp (.l5 (thrT p t) (k:Int) ((O.take k).map fun x=>(show Int from x.2.1)+1) ((O.take k).map fun x=>x.2.2))) (ZbH p t pairs open_):=by
  rw[hOe] at hol hs vof2 kg hgv
  refine down ?_ fun k hk ih=>?_
  ·rw[Zi,ZbN,vof1,vof2,Ze,if_neg (by rw[Zw (Nat.lt_irrefl _)];decide),Ze,if_pos kof2,Ze,if_pos kg,Ze,if_pos (kp _ hgv),List.take_length]
   have:=second (O.map fun x=>(show Int from x.2.1)+1) (O.map fun x=>x.2.2) (by rw[List.length_map];omega) (by rw[List.length_map];omega) (ZaP (thrT p t) (pairs.filter (ofB t)) (ZeL (thrT p t) O))
   unfold ZbH
   rw[hOe]
   exact this
  ·have b1:Nat.ble ((((O.take k).map fun x=>(show Int from x.2.1)+1).length+1)*8) limit=true:=Nat.ble_eq_true_of_le (by rw[List.length_map,List.length_take];unfold limit;omega)
   have b2:Nat.ble ((((O.take k).map fun x=>(show Int from x.2.2)).length+1)*8) limit=true:=Nat.ble_eq_true_of_le (by rw[List.length_map,List.length_take];unfold limit;omega)
   have hw:=ZLY (hs _ (List.getElem_mem hk))
   rw[List.take_succ_eq_append_getElem hk,List.map_append,List.map_append] at ih
   rw[Zi,ZbN,vof2,Ze,if_pos (ZQ hk),Ze,if_pos (by rw[nng,ZQ hk];rfl),Ze,if_pos b1,Ze,if_pos b2,Int.toNat_natCast,ZG hk,Zs (by omega)]
   have hw':IntKind.i64.wrap (O[k].2.1+(1:Int))=(show Int from O[k].2.1)+1:=hw
   rw[hw']
   exact ih
 unfold ZoJ
 rw[Ze,if_pos hin,Ze,if_pos kof1,Ze,if_pos kof2,hx]
 exact first 0 (Nat.zero_le _)
end Go.Ev
end

section
open Go Go.Ev
namespace Go.Ev
noncomputable section
noncomputable def Zrj:Run:=entG ZfB ZmV (fun a=>ZcC a.1 a.2.1 a.2.2.1 a.2.2.2.1) (fun a=>ZbH a.1 a.2.1 a.2.2.1 a.2.2.2.1)
theorem ZvK:EntOK Go.Proofs.Tryz.prog 30 Zrj:=ZJ (tb:=ZpF) (c:=Zmn) ZFS (by kernel_rfl) (by kernel_rfl) (by kernel_rfl) (fun a=>by kernel_rfl) fun ⟨p,t,pairs,open_,_⟩ hk=>Zn (c:=Zmn) (K:=fun v=>(ZmV v,tps (toForms ZfB (p,t,pairs,open_,())))) (S:=Zfa p t pairs open_) (by kernel_rfl) (ZE5 p t pairs open_) (ZDZ p t pairs open_) (ZHb p t pairs open_ hk)
end
end Go.Ev
end

section
open Go Go.Ev
namespace Go.Ev
noncomputable section
def ZfH:Sig:=[(true,Zc),(false,(.int .i64))]
noncomputable def Zsu:Tbl:=[(22,ZlO),(25,Zfn),(31,Zmd),(30,Zrj)]
theorem ZGe:∀p∈Zsu,EntOK Go.Proofs.Tryz.prog p.1 p.2:=Zg Zmc (Zg Zgb (Zg ZoQ (Zg ZvK (Zu))))
noncomputable def Zmk:Code:=Go.Proofs.Tryz.f13.body.getD .skip
def ZoA:Tb:=[(hintK,⟨[],[(1,46)]⟩)]
def Zyi (p:El Zc) (t:Int):Empty→JT Empty (List Int):=fun j=>nomatch j
def Zvi (p:El Zc) (t:Int):JT Empty (List Int):=.br (Zba p t) (.br (! (Za9 p t)) (.leaf []) (.br (ZS p) (.br (Zbq p) (.br (ZcC p t (Zk p) (Zv p)) (.leaf (ZbH p t (Zk p) (Zv p))) (.no)) (.no)) (.no))) (.no)
def ZbQ (p:El Zc) (t:Int):List Int:=bif (Zba p t) then bif (! (Za9 p t)) then [] else bif (ZS p) then bif (Zbq p) then bif (ZcC p t (Zk p) (Zv p)) then (ZbH p t (Zk p) (Zv p)) else [] else [] else [] else []
def Ze5 (p:El Zc) (t:Int):Bool:=bif (Zba p t) then bif (! (Za9 p t)) then true else bif (ZS p) then bif (Zbq p) then bif (ZcC p t (Zk p) (Zv p)) then true else false else false else false else false
theorem ZHY (p:El Zc) (t:Int) (hk:Ze5 p t=true):Goes (Zyi p t) (Zvi p t) (ZbQ p t):=Goes.brk hk (fun hk=>Goes.brk hk (fun hk=>Goes.leaf) (fun hk=>Goes.brk hk (fun hk=>Goes.brk hk (fun hk=>Goes.brk hk (fun hk=>Goes.leaf) (fun hk=>Goes.nok hk)) (fun hk=>Goes.nok hk)) (fun hk=>Goes.nok hk))) (fun hk=>Goes.nok hk)
def ZmT:List Int→AV:=fun (r:List Int)=>.rw 3 (.int .i64) r
def Zfm (p:El Zc) (t:Int):Empty→Nat×St:=fun j=>nomatch j
theorem ZGq (p:El Zc) (t:Int) (L:Lt):entryA Go.Proofs.Tryz.prog (clOf Zsu) ZoA Go.Proofs.Tryz.f13 Zmk L (toForms ZfH (p,t,()))=(Zvi p t).run (fun v=>some (ZmT v,tps (toForms ZfH (p,t,())))) fun j=>L (Zfm p t j).1 (Zfm p t j).2:=by kernel_rfl
theorem ZDI (p:El Zc) (t:Int):∀(L:Lt) (j:Empty),procOf (procsF Go.Proofs.Tryz.prog (clOf Zsu) ZoA Go.Proofs.Tryz.f13 Zmk (toForms ZfH (p,t,()))) (Zfm p t j).1 L (Zfm p t j).2=(Zyi p t j).run (fun v=>some (ZmT v,tps (toForms ZfH (p,t,())))) fun j=>L (Zfm p t j).1 (Zfm p t j).2:=fun L j=>nomatch j
noncomputable def Zyk:Run:=entG ZfH ZmT (fun a=>Ze5 a.1 a.2.1) (fun a=>ZbQ a.1 a.2.1)
theorem ZF9:EntOK Go.Proofs.Tryz.prog 13 Zyk:=ZJ (tb:=ZoA) (c:=Zmk) ZGe (by kernel_rfl) (by kernel_rfl) (by kernel_rfl) (fun a=>by kernel_rfl) fun ⟨p,t,_⟩ hk=>Zn (c:=Zmk) (K:=fun v=>(ZmT v,tps (toForms ZfH (p,t,())))) (S:=Zfm p t) (by kernel_rfl) (ZGq p t) (ZDI p t) (ZHY p t hk)
end
end Go.Ev
end

section
open Go Go.Ev
namespace Go.Ev
noncomputable section
noncomputable def Zk0:Run:=entG Zcp Zh1 (fun a=>Zaw a.1 a.2.1) (fun a=>Zaj a.1 a.2.1)
theorem Zq0:EntOK Go.Proofs.Tryz.prog 11 Zk0:=ZJ (tb:=ZjD) (c:=Zh7) ZyK (by kernel_rfl) (by kernel_rfl) (by kernel_rfl) (fun a=>by kernel_rfl) fun ⟨a,b,_⟩ hk=>Zn (c:=Zh7) (K:=fun v=>(Zh1 v,tps (toForms Zcp (a,b,())))) (S:=Zce a b) (by kernel_rfl) (ZyP a b) (ZyW a b) (Zzt a b hk)
end
end Go.Ev
end

section
open Go Go.Ev
namespace Go.Ev
noncomputable section
def ZfW:Sig:=[(true,Zc),(false,(.int .i64)),(false,(.sl (.int .i64)))]
noncomputable def Zso:Tbl:=[(22,ZlO),(25,Zfn),(24,ZwC),(37,Zkv)]
theorem ZEh:∀p∈Zso,EntOK Go.Proofs.Tryz.prog p.1 p.2:=Zg Zmc (Zg Zgb (Zg Zwo (Zg ZnH (Zu))))
noncomputable def ZmC:Code:=Go.Proofs.Tryz.f20.body.getD .skip
def Zpi:Tb:=[]
def Zyh (p:El Zc) (t:Int) (points:List Int):Empty→JT Empty (Bool):=fun j=>nomatch j
def Zvx (p:El Zc) (t:Int) (points:List Int):JT Empty (Bool):=.br (Zba p t) (.br (Za9 p t) (.br ((decide ((0:Int)≤t))&&(decide (t < (Int.ofNat (List.length p.2))))) (.br (ZS p) (.br (ZcA (Zk p) t) (.br (ZaB (List.getD p.2 (Int.toNat t) (dflt (.sl Za))) (Z5 (Zk p) t) points) (.leaf ((Int.ofNat (List.length (ZbB (List.getD p.2 (Int.toNat t) (dflt (.sl Za))) (Z5 (Zk p) t) points)))==(0:Int))) (.no)) (.no)) (.no)) (.no)) (.leaf false)) (.no)
def ZaV (p:El Zc) (t:Int) (points:List Int):Bool:=bif (Zba p t) then bif (Za9 p t) then bif ((decide ((0:Int)≤t))&&(decide (t < (Int.ofNat (List.length p.2))))) then bif (ZS p) then bif (ZcA (Zk p) t) then bif (ZaB (List.getD p.2 (Int.toNat t) (dflt (.sl Za))) (Z5 (Zk p) t) points) then ((Int.ofNat (List.length (ZbB (List.getD p.2 (Int.toNat t) (dflt (.sl Za))) (Z5 (Zk p) t) points)))==(0:Int)) else false else false else false else false else false else false
def Zbb (p:El Zc) (t:Int) (points:List Int):Bool:=bif (Zba p t) then bif (Za9 p t) then bif ((decide ((0:Int)≤t))&&(decide (t < (Int.ofNat (List.length p.2))))) then bif (ZS p) then bif (ZcA (Zk p) t) then bif (ZaB (List.getD p.2 (Int.toNat t) (dflt (.sl Za))) (Z5 (Zk p) t) points) then true else false else false else false else false else true else false
theorem ZH6 (p:El Zc) (t:Int) (points:List Int) (hk:Zbb p t points=true):Goes (Zyh p t points) (Zvx p t points) (ZaV p t points):=Goes.brk hk (fun hk=>Goes.brk hk (fun hk=>Goes.brk hk (fun hk=>Goes.brk hk (fun hk=>Goes.brk hk (fun hk=>Goes.brk hk (fun hk=>Goes.leaf) (fun hk=>Goes.nok hk)) (fun hk=>Goes.nok hk)) (fun hk=>Goes.nok hk)) (fun hk=>Goes.nok hk)) (fun hk=>Goes.leaf)) (fun hk=>Goes.nok hk)
def ZmJ:Bool→AV:=fun (r:Bool)=>.d .bool r
def ZeT (p:El Zc) (t:Int) (points:List Int):Empty→Nat×St:=fun j=>nomatch j
theorem ZEQ (p:El Zc) (t:Int) (points:List Int) (L:Lt):entryA Go.Proofs.Tryz.prog (clOf Zso) Zpi Go.Proofs.Tryz.f20 ZmC L (toForms ZfW (p,t,points,()))=(Zvx p t points).run (fun v=>some (ZmJ v,tps (toForms ZfW (p,t,points,())))) fun j=>L (ZeT p t points j).1 (ZeT p t points j).2:=by kernel_rfl
theorem ZGi (p:El Zc) (t:Int) (points:List Int):∀(L:Lt) (j:Empty),procOf (procsF Go.Proofs.Tryz.prog (clOf Zso) Zpi Go.Proofs.Tryz.f20 ZmC (toForms ZfW (p,t,points,()))) (ZeT p t points j).1 L (ZeT p t points j).2=(Zyh p t points j).run (fun v=>some (ZmJ v,tps (toForms ZfW (p,t,points,())))) fun j=>L (ZeT p t points j).1 (ZeT p t points j).2:=fun L j=>nomatch j
noncomputable def Zyn:Run:=entG ZfW ZmJ (fun a=>Zbb a.1 a.2.1 a.2.2.1) (fun a=>ZaV a.1 a.2.1 a.2.2.1)
theorem ZGr:EntOK Go.Proofs.Tryz.prog 20 Zyn:=ZJ (tb:=Zpi) (c:=ZmC) ZEh (by kernel_rfl) (by kernel_rfl) (by kernel_rfl) (fun a=>by kernel_rfl) fun ⟨p,t,points,_⟩ hk=>Zn (c:=ZmC) (K:=fun v=>(ZmJ v,tps (toForms ZfW (p,t,points,())))) (S:=ZeT p t points) (by kernel_rfl) (ZEQ p t points) (ZGi p t points) (ZH6 p t points hk)
end
end Go.Ev
end

section
open Go Go.Ev
namespace Go.Ev
noncomputable section
def Zhq:Sig:=[(true,Zc),(false,(.int .i64))]
noncomputable def Zu5:Tbl:=[(22,ZlO),(31,Zmd),(24,ZwC),(32,Zmt)]
theorem ZJa:∀p∈Zu5,EntOK Go.Proofs.Tryz.prog p.1 p.2:=Zg Zmc (Zg ZoQ (Zg Zwo (Zg Zo3 (Zu))))
noncomputable def ZpC:Code:=Go.Proofs.Tryz.f14.body.getD .skip
def Zq9:Tb:=[(7,⟨[5,15,16,17],[(6,46)]⟩),(hintK,⟨[],[(1,46)]⟩)]
inductive Zlg where | l7 (h:Int) (out:List Int)
def Zlb (p:El Zc) (t:Int):Zlg→JT Zlg (List Int) |.l7 h out=>.br (decide (h < (Int.ofNat (List.length (Z5 (Zv p) t))))) (.br ((decide ((0:Int)≤h))&&(decide (h < (Int.ofNat (List.length (Z5 (Zv p) t)))))) (.br (Nat.ble (((List.length out)+1)*8) limit) (.jmp (.l7 (IntKind.i64.wrap (h+(1:Int))) (out++[(IntKind.i64.wrap ((List.getD (Z5 (Zv p) t) (Int.toNat h) (dflt Zd)).2.1+(1:Int)))]))) (.no)) (.no)) (.br (Zdp out) (.leaf (Zhh out)) (.no))
def Zsz (p:El Zc) (t:Int):JT Zlg (List Int):=.br (Zba p t) (.br (! (Za9 p t)) (.leaf []) (.br (Zbq p) (.br (ZcA (Zv p) t) (.jmp (.l7 (0:Int) [])) (.no)) (.no))) (.no)
def Zp3:List Int→AV:=fun (r:List Int)=>.rw 3 (.int .i64) r
def Zgp (p:El Zc) (t:Int):Zlg→Nat×St |.l7 h out=>(7,⟨mkTm 30 [(5,.own 6 0 none),(15,.own 16 0 none),(16,.d (.int .i64) (Int.ofNat (List.length (Z5 (Zv p) t)))),(17,.d (.int .i64) h)],[(6,0,.row 3 (.int .i64) out false),(16,0,.row 67 Zd (Z5 (Zv p) t) false)]⟩)
theorem ZIY (p:El Zc) (t:Int) (L:Lt):entryA Go.Proofs.Tryz.prog (clOf Zu5) Zq9 Go.Proofs.Tryz.f14 ZpC L (toForms Zhq (p,t,()))=(Zsz p t).run (fun v=>some (Zp3 v,tps (toForms Zhq (p,t,())))) fun j=>L (Zgp p t j).1 (Zgp p t j).2:=by kernel_rfl
theorem ZIM (p:El Zc) (t:Int):∀(L:Lt) (j:Zlg),procOf (procsF Go.Proofs.Tryz.prog (clOf Zu5) Zq9 Go.Proofs.Tryz.f14 ZpC (toForms Zhq (p,t,()))) (Zgp p t j).1 L (Zgp p t j).2=(Zlb p t j).run (fun v=>some (Zp3 v,tps (toForms Zhq (p,t,())))) fun j=>L (Zgp p t j).1 (Zgp p t j).2 | L,.l7 h out=>by kernel_rfl
end
end Go.Ev
end

section
open Go
namespace Go.Ev
noncomputable def allT (p:El Zc) (t:Int):List PairD:=(Zk p).filter (ofB t)
noncomputable def opT (p:El Zc) (t:Int):List PairD:=(Zv p).filter (ofB t)
structure PairIn (p:El Zc) (x:PairD):Prop where
 th0:0≤(show Int from x.1)
 th1:(show Int from x.1) < (p.2.length:Int)
 flow:flowOK (thrT p x.1)=true
 st0:0≤(show Int from x.2.1)
 st1:(show Int from x.2.1) < ((thrT p x.1).length:Int)
 ld0:0≤(show Int from x.2.2)
 ld1:(show Int from x.2.2) < ((thrT p x.1).length:Int)
structure CutF (p:El Zc):Prop where
 small:smallAll p=true
 kp:ZS p=true
 ko:Zbq p=true
 eq:ZH p=Zk p
 opq:Zov p=Zv p
 kd:Zbl p=true
 kro:Zo2 p=true
 lp:(Zk p).length≤400000000
 lo:(Zv p).length≤400000000
 pin:∀x∈Zk p,PairIn p x
 osub:∀x∈Zv p,x∈Zk p∧openB p x=true
 oin:∀x∈Zk p,openB p x=true→x∈Zv p
 right:∀t,Zba p t=true∧Za9 p t=rightT p t
 flow:∀t,rightT p t=true→flowOK (thrT p t)=true∧(decide ((0:Int)≤t)&&decide (t < Int.ofNat p.2.length))=true∧checkC p=0
 thr:p.2.length≤100
theorem ZN9 {p:El Zc} (h:smallProg p=true) (t:Int):Zba p t=true∧Za9 p t=rightT p t:=by
 have hk:Za6 p=true:=h
 have hv:ZbG p=checkC p:=rfl
 unfold Zba Za9 rightT
 rw[hk,hv]
 by_cases h0:(0:Int)≤t
 ·rw[decide_eq_true (show t≥0 from h0)]
  by_cases h1:t < (p.2.length:Int)
  ·rw[decide_eq_true (show t < Int.ofNat p.2.length from h1),decide_eq_true h1]
   refine ⟨rfl,?_⟩
   show (checkC p==0)=(true&&(true&&decide (checkC p=0)))
   rw[Bool.true_and,Bool.true_and,Bool.eq_iff_iff,beq_iff_eq,decide_eq_true_eq]
  ·rw[decide_eq_false (show ¬t < Int.ofNat p.2.length from h1),decide_eq_false h1]
   exact ⟨rfl,rfl⟩
 ·rw[decide_eq_false (show ¬t≥0 from h0)]
  exact ⟨rfl,rfl⟩
theorem Zwg {p:El Zc} (h:cutOK p=true):CutF p:=by
 unfold cutOK at h
 rw[Bool.and_eq_true,Bool.and_eq_true,decide_eq_true_eq,decide_eq_true_eq] at h
 obtain ⟨hs,hN,hT⟩:=h
 obtain ⟨a1,a2,a3,_,a5,a6,a7,_⟩:=ZMb hs hN hT
 have hA:=smallA hs
 have hl:=ZLN p
 have hNN:(ofC p).length*(ofC p).length≤20000*20000:=Nat.mul_le_mul hN hN
 have hlp:(Zk p).length≤400000000:=by rw[←a3];omega
 have hlo:(Zv p).length≤(Zk p).length:=by unfold Zv;exact List.length_filter_le _ _
 refine ⟨hs,a1,a5,a3,a7,a2,a6,hlp,by omega,fun x hx=>?_,fun x hx=>?_,fun x hx ho=>?_,fun t=>ZN9 hA.prog t,fun t ht=>?_,hT⟩
 ·rw[←a3] at hx
  obtain ⟨s,r,s1,r1,_,hd,rfl⟩:=ZER hx
  obtain ⟨t0,t1,f1,i0,i1⟩:=Zgf hs s1
  obtain ⟨_,_,f2,j0,j1⟩:=Zgf hs r1
  unfold delB at hd
  simp only[Bool.and_eq_true,beq_iff_eq] at hd
  have hth:=hd.1.1
  have e:thrOf p (ofC p) r=thrOf p (ofC p) s:=by unfold thrOf;rw[hth]
  rw[e] at j1
  exact ⟨t0,t1,f1,i0,i1,j0,j1⟩
 ·unfold Zv at hx
  exact List.mem_filter.1 hx
 ·unfold Zv
  exact List.mem_filter.2 ⟨hx,ho⟩
 ·unfold rightT at ht
  rw[Bool.and_eq_true,Bool.and_eq_true,decide_eq_true_eq,decide_eq_true_eq,decide_eq_true_eq] at ht
  obtain ⟨h0,h1,h2⟩:=ht
  refine ⟨?_,?_,h2⟩
  ·obtain ⟨n,rfl⟩:=Int.eq_ofNat_of_zero_le h0
   have hn:n < p.2.length:=by omega
   unfold thrT
   rw[Int.toNat_natCast,ZG hn]
   exact Zs4 (hA.thr _ (List.getElem_mem hn))
  ·rw[decide_eq_true h0,decide_eq_true (show t < Int.ofNat p.2.length from h1)];rfl
theorem ZPy {p:El Zc} (hF:CutF p) {t:Int} {x:PairD} (hx:x∈opT p t):PairIn p x∧(show Int from x.1)=t:=by
 obtain ⟨h1,h2⟩:=List.mem_filter.1 hx
 exact ⟨hF.pin x (hF.osub x h1).1,by unfold ofB at h2;simpa using h2⟩
theorem ZAE {p:El Zc} {x:PairD} (h:PairIn p x):0≤(show Int from x.2.1)∧(show Int from x.2.1) < 1099511627776:=by
 have h1:=h.st1
 have h2:=ZbS h.flow
 refine ⟨h.st0,?_⟩
 generalize (show Int from x.2.1)=y at*
 omega
theorem ZPO {p:El Zc} (hF:CutF p) (t:Int):(opT p t).length≤400000000:=Nat.le_trans (List.length_filter_le _ _) hF.lo
theorem ZLH {p:El Zc} (hF:CutF p) (t:Int):(allT p t).length≤400000000:=Nat.le_trans (List.length_filter_le _ _) hF.lp
end Go.Ev
end

section
open Go
namespace Go.Ev
noncomputable def Zca (p:El Zc) (t:Int):List Int:=if rightT p t=true then putsL [] ((opT p t).map fun x=>(show Int from x.2.1)+1) else []
def Zis (p:El Zc) (t:Int):Bool:=cutOK p
theorem ZJ2 (p:El Zc) (t:Int) (hk:Zis p t=true):Goes (Zlb p t) (Zsz p t) (Zca p t):=by
 have hF:=Zwg hk
 obtain ⟨r1,r2⟩:=hF.right t
 unfold Zsz Zca
 rw[Ze,if_pos r1,r2,Ze]
 by_cases hr:¬rightT p t=true
 ·rw[if_pos (by simpa using hr),if_neg hr]
  exact .leaf
 have hr:=Decidable.not_not.1 hr
 rw[if_neg (by rw[hr];decide),if_pos hr,Ze,if_pos hF.ko,Ze,if_pos (show ZcA (Zv p) t=true from decide_eq_true (by have:=hF.lo;omega))]
 have hv:Z5 (Zv p) t=opT p t:=rfl
 have hN:=ZPO hF t
 have hs:∀x∈opT p t,0≤(show Int from x.2.1)∧(show Int from x.2.1) < 1099511627776:=fun x hx=>ZAE (ZPy hF hx).1
 obtain ⟨O,hO⟩:∃O,opT p t=O:=⟨_,rfl⟩
 rw[hO] at hN hs hv ⊢
 have loop:∀k,k≤O.length→Goes (Zlb p t) (.jmp (.l7 (k:Int) ((O.take k).map fun x=>(show Int from x.2.1)+1))) (putsL [] (O.map fun x=>(show Int from x.2.1)+1)):=by
  refine down ?_ fun k hk ih=>?_
  ·rw[Zi,Zlb,hv,Ze,if_neg (by rw[Zw (Nat.lt_irrefl _)];decide),List.take_length,Ze,if_pos (show Zdp _=true from decide_eq_true (by rw[List.length_map];omega))]
   exact .leaf
  ·have b1:Nat.ble ((((O.take k).map fun x=>(show Int from x.2.1)+1).length+1)*8) limit=true:=Nat.ble_eq_true_of_le (by rw[List.length_map,List.length_take];unfold limit;omega)
   obtain ⟨s0,s1⟩:=hs _ (List.getElem_mem hk)
   have hw:IntKind.i64.wrap (O[k].2.1+(1:Int))=(show Int from O[k].2.1)+1:=by
    show IntKind.i64.wrap ((show Int from O[k].2.1)+(1:Int))=_
    generalize (show Int from O[k].2.1)=y at*
    exact wrap_i64 (by omega) (by omega)
   rw[List.take_succ_eq_append_getElem hk,List.map_append] at ih
   rw[Zi,Zlb,hv,Ze,if_pos (ZQ hk),Ze,if_pos (by rw[nng,ZQ hk];rfl),Ze,if_pos b1,Int.toNat_natCast,ZG hk,Zs (by omega),hw]
   exact ih
 exact loop 0 (Nat.zero_le _)
end Go.Ev
end

section
open Go Go.Ev
namespace Go.Ev
noncomputable section
noncomputable def ZAl:Run:=entG Zhq Zp3 (fun a=>Zis a.1 a.2.1) (fun a=>Zca a.1 a.2.1)
theorem ZJt:EntOK Go.Proofs.Tryz.prog 14 ZAl:=ZJ (tb:=Zq9) (c:=ZpC) ZJa (by kernel_rfl) (by kernel_rfl) (by kernel_rfl) (fun a=>by kernel_rfl) fun ⟨p,t,_⟩ hk=>Zn (c:=ZpC) (K:=fun v=>(Zp3 v,tps (toForms Zhq (p,t,())))) (S:=Zgp p t) (by kernel_rfl) (ZIY p t) (ZIM p t) (ZJ2 p t hk)
end
end Go.Ev
end

section
open Go Go.Ev
namespace Go.Ev
noncomputable section
def ZkN:Sig:=[(true,Zc)]
noncomputable def ZAC:Tbl:=[(38,ZjX),(25,Zfn),(31,Zmd),(30,Zrj)]
theorem ZMM:∀p∈ZAC,EntOK Go.Proofs.Tryz.prog p.1 p.2:=Zg Zn4 (Zg Zgb (Zg ZoQ (Zg ZvK (Zu))))
noncomputable def Zv2:Code:=Go.Proofs.Tryz.f21.body.getD .skip
def Zxd:Tb:=[(8,⟨[1,3,4,5,20,21],[]⟩),(hintK,⟨[],[(1,114)]⟩)]
inductive ZsD where | l8 (h:Int) (out:List (List Int))
def ZsT (p:El Zc):ZsD→JT ZsD (List (List Int)) |.l8 h out=>.br (decide (h < (Int.ofNat (List.length p.2)))) (.br (ZcC p h (Zk p) (Zv p)) (.br ((decide ((0:Int)≤h))&&(decide (h < (Int.ofNat (List.length out))))) (.jmp (.l8 (IntKind.i64.wrap (h+(1:Int))) (List.set out (Int.toNat h) (ZbH p h (Zk p) (Zv p))))) (.no)) (.no)) (.leaf out)
def Zxu (p:El Zc):JT ZsD (List (List Int)):=.br (Za6 p) (.br ((ZbG p) !=(0:Int)) (.leaf []) (.br (ZS p) (.br (Zbq p) (.br ((((Int.ofNat (List.length p.2))==(Int.ofNat (List.length p.2)))&&(decide ((0:Int)≤(Int.ofNat (List.length p.2)))))&&(decide (((Int.ofNat (List.length p.2))*(24:Int))≤(limit:Int)))) (.jmp (.l8 (0:Int) (List.replicate (List.length p.2) []))) (.no)) (.no)) (.no))) (.no)
def ZwM:List (List Int)→AV:=fun (r:List (List Int))=>.rw 23 (.sl (.int .i64)) r
def Zlw (p:El Zc):ZsD→Nat×St |.l8 h out=>(8,⟨mkTm 34 [(1,.pt 2 0 0),(3,.own 4 0 none),(4,.own 5 0 none),(5,.own 6 0 none),(20,.d (.int .i64) (Int.ofNat (List.length p.2))),(21,.d (.int .i64) h)],[(2,0,.box 27 [.d (.sl Zx) p.1,.d (.sl (.sl Za)) p.2] none),(4,0,.row 67 Zd (Zk p) false),(5,0,.row 67 Zd (Zv p) false),(6,0,.row 23 (.sl (.int .i64)) out false)]⟩)
theorem ZLX (p:El Zc) (L:Lt):entryA Go.Proofs.Tryz.prog (clOf ZAC) Zxd Go.Proofs.Tryz.f21 Zv2 L (toForms ZkN (p,()))=(Zxu p).run (fun v=>some (ZwM v,tps (toForms ZkN (p,())))) fun j=>L (Zlw p j).1 (Zlw p j).2:=by kernel_rfl
theorem ZLU (p:El Zc):∀(L:Lt) (j:ZsD),procOf (procsF Go.Proofs.Tryz.prog (clOf ZAC) Zxd Go.Proofs.Tryz.f21 Zv2 (toForms ZkN (p,()))) (Zlw p j).1 L (Zlw p j).2=(ZsT p j).run (fun v=>some (ZwM v,tps (toForms ZkN (p,())))) fun j=>L (Zlw p j).1 (Zlw p j).2 | L,.l8 h out=>by kernel_rfl
end
end Go.Ev
end

section
open Go
namespace Go.Ev
noncomputable def Zjc (p:El Zc):List (List Int):=if checkC p=0 then (List.range p.2.length).map fun t:Nat=>ZbH p (t:Int) (Zk p) (Zv p) else []
def Zon (p:El Zc):Bool:=cutOK p
theorem ZxM {p:El Zc} (hF:CutF p) {t:Int} (hr:rightT p t=true):ZcC p t (Zk p) (Zv p)=true:=by
 obtain ⟨f1,f2,_⟩:=hF.flow t hr
 have h1:=hF.lp
 have h2:=hF.lo
 unfold ZcC
 rw[f2,f1,decide_eq_true (show (Zk p).length < 1000000000 by omega),decide_eq_true (show (Zv p).length < 1000000000 by omega),Bool.true_and,Bool.true_and,Bool.true_and,Bool.true_and]
 refine List.all_eq_true.2 fun x hx=>?_
 obtain ⟨hp,ht⟩:=ZPy hF hx
 have s:=ZAE hp
 have l0:=hp.ld0
 have l1:=hp.ld1
 have e:thrT p (show Int from x.1)=thrT p t:=by rw[ht]
 rw[show thrT p x.1=thrT p t from e] at l1
 unfold loadIn storeIn
 rw[Bool.and_eq_true,decide_eq_true_eq,decide_eq_true_eq]
 exact ⟨⟨l0,l1⟩,s⟩
theorem ZNj (p:El Zc) (hk:Zon p=true):Goes (ZsT p) (Zxu p) (Zjc p):=by
 have hF:=Zwg hk
 have hA:=smallA hF.small
 have hT:=hF.thr
 have hkc:Za6 p=true:=hA.prog
 have hvc:ZbG p=checkC p:=rfl
 have hmk:((((Int.ofNat (List.length p.2))==(Int.ofNat (List.length p.2)))&&(decide ((0:Int)≤(Int.ofNat (List.length p.2)))))&&(decide (((Int.ofNat (List.length p.2))*(24:Int))≤(limit:Int))))=true:=by
  rw[beq_self_eq_true,decide_eq_true (show (0:Int)≤Int.ofNat (List.length p.2) from Int.natCast_nonneg _),Bool.true_and,Bool.true_and]
  refine decide_eq_true ?_
  show ((List.length p.2:Nat):Int)*24≤((35184372088832:Nat):Int)
  omega
 unfold Zxu Zjc
 rw[Ze,if_pos hkc,hvc,Ze]
 by_cases hc:checkC p=0
 ·rw[if_neg (by rw[hc];decide),if_pos hc,Ze,if_pos hF.kp,Ze,if_pos hF.ko,Ze,if_pos hmk]
  have hr:∀k,k < p.2.length→rightT p (k:Int)=true:=fun k hk=>by
   unfold rightT
   rw[decide_eq_true (Int.natCast_nonneg k),decide_eq_true (show (k:Int) < (p.2.length:Int) by omega),decide_eq_true hc];rfl
  obtain ⟨V,hV⟩:∃V:Nat→List Int,V=fun t:Nat=>ZbH p (t:Int) (Zk p) (Zv p):=⟨_,rfl⟩
  have loop:∀k,k≤p.2.length→Goes (ZsT p) (.jmp (.l8 (k:Int) ((List.range p.2.length).map fun t=>if t < k then V t else []))) ((List.range p.2.length).map V):=by
   refine down ?_ fun k hk ih=>?_
   ·rw[Zi,ZsT,Ze,if_neg (by rw[Zw (Nat.lt_irrefl _)];decide)]
    have:((List.range p.2.length).map fun t=>if t < p.2.length then V t else [])=(List.range p.2.length).map V:=List.map_congr_left fun t ht=>by rw[if_pos (List.mem_range.1 ht)]
    rw[this]
    exact .leaf
   ·have hlen:((List.range p.2.length).map fun t=>if t < k then V t else []).length=p.2.length:=by simp
    rw[Zi,ZsT,Ze,if_pos (ZQ hk),Ze,if_pos (ZxM hF (hr k hk)),Ze,if_pos (by rw[nng,hlen,ZQ hk];rfl),Int.toNat_natCast,Zs (by omega)]
    have e:((List.range p.2.length).map fun t=>if t < k then V t else []).set k (ZbH p (k:Int) (Zk p) (Zv p))=(List.range p.2.length).map fun t=>if t < k+1 then V t else []:=by
     apply List.ext_getElem
     ·simp
     ·intro i h1 h2
      rw[List.getElem_set]
      simp only[List.getElem_map,List.getElem_range]
      by_cases e:k=i
      ·subst e
       rw[if_pos rfl,if_pos (by omega),hV]
      ·rw[if_neg e]
       by_cases e2:i < k
       ·rw[if_pos e2,if_pos (by omega)]
       ·rw[if_neg e2,if_neg (by omega)]
    rw[e]
    exact ih
  have:=loop 0 (Nat.zero_le _)
  have e0:((List.range p.2.length).map fun t=>if t < 0 then V t else ([]:List Int))=List.replicate p.2.length []:=by
   rw[show (fun t=>if t < 0 then V t else ([]:List Int))=fun _=>[] from funext fun t=>if_neg (Nat.not_lt_zero t),List.map_const',List.length_range]
  rw[e0] at this
  rw[hV] at this
  exact this
 ·rw[if_pos (by simpa using hc),if_neg hc]
  exact .leaf
end Go.Ev
end

section
open Go Go.Ev
namespace Go.Ev
noncomputable section
noncomputable def ZHG:Run:=entG ZkN ZwM (fun a=>Zon a.1) (fun a=>Zjc a.1)
theorem ZMi:EntOK Go.Proofs.Tryz.prog 21 ZHG:=ZJ (tb:=Zxd) (c:=Zv2) ZMM (by kernel_rfl) (by kernel_rfl) (by kernel_rfl) (fun a=>by kernel_rfl) fun ⟨p,_⟩ hk=>Zn (c:=Zv2) (K:=fun v=>(ZwM v,tps (toForms ZkN (p,())))) (S:=Zlw p) (by kernel_rfl) (ZLX p) (ZLU p) (ZNj p hk)
end
end Go.Ev
end

section
open Go Go.Ev
namespace Go.Ev
noncomputable section
def Zem:Sig:=[]
noncomputable def ZoR:Tbl:=[(19,ZxB),(13,Zyk),(11,Zk0),(20,Zyn),(14,ZAl),(21,ZHG)]
theorem ZBP:∀p∈ZoR,EntOK Go.Proofs.Tryz.prog p.1 p.2:=Zg ZDS (Zg ZF9 (Zg Zq0 (Zg ZGr (Zg ZJt (Zg ZMi (Zu))))))
noncomputable def ZjZ:Code:=Go.Proofs.Tryz.f6.body.getD .skip
def Zn1:Tb:=[]
def Zwh:Empty→JT Empty (Bool):=fun j=>nomatch j
def ZtS:JT Empty (Bool):=.br (Ze5 Zm (0:Int)) (.br (Zaw (ZbQ Zm (0:Int)) [(1:Int)]) (.br (Zaj (ZbQ Zm (0:Int)) [(1:Int)]) (.br (Zbb Zm (0:Int) [(1:Int)]) (.br (ZaV Zm (0:Int) [(1:Int)]) (.br (Zbb Zm (0:Int) []) (.br (! (ZaV Zm (0:Int) [])) (.br (Zis Zm (1:Int)) (.br (Zaw (Zca Zm (1:Int)) [(1:Int)]) (.br (Zaj (Zca Zm (1:Int)) [(1:Int)]) (.br (Zon Zm) (.br ((Int.ofNat (List.length (Zjc Zm)))==(2:Int)) (.br (Zbb Zm (2:Int) []) (.leaf (! (ZaV Zm (2:Int) []))) (.no)) (.leaf false)) (.no)) (.leaf false)) (.no)) (.no)) (.leaf false)) (.no)) (.leaf false)) (.no)) (.leaf false)) (.no)) (.no)
def ZcH:Bool:=bif (Ze5 Zm (0:Int)) then bif (Zaw (ZbQ Zm (0:Int)) [(1:Int)]) then bif (Zaj (ZbQ Zm (0:Int)) [(1:Int)]) then bif (Zbb Zm (0:Int) [(1:Int)]) then bif (ZaV Zm (0:Int) [(1:Int)]) then bif (Zbb Zm (0:Int) []) then bif (! (ZaV Zm (0:Int) [])) then bif (Zis Zm (1:Int)) then bif (Zaw (Zca Zm (1:Int)) [(1:Int)]) then bif (Zaj (Zca Zm (1:Int)) [(1:Int)]) then bif (Zon Zm) then bif ((Int.ofNat (List.length (Zjc Zm)))==(2:Int)) then bif (Zbb Zm (2:Int) []) then (! (ZaV Zm (2:Int) [])) else false else false else false else false else false else false else false else false else false else false else false else false else false
def ZcB:Bool:=bif (Ze5 Zm (0:Int)) then bif (Zaw (ZbQ Zm (0:Int)) [(1:Int)]) then bif (Zaj (ZbQ Zm (0:Int)) [(1:Int)]) then bif (Zbb Zm (0:Int) [(1:Int)]) then bif (ZaV Zm (0:Int) [(1:Int)]) then bif (Zbb Zm (0:Int) []) then bif (! (ZaV Zm (0:Int) [])) then bif (Zis Zm (1:Int)) then bif (Zaw (Zca Zm (1:Int)) [(1:Int)]) then bif (Zaj (Zca Zm (1:Int)) [(1:Int)]) then bif (Zon Zm) then bif ((Int.ofNat (List.length (Zjc Zm)))==(2:Int)) then bif (Zbb Zm (2:Int) []) then true else false else true else false else true else false else false else true else false else true else false else true else false else false
theorem ZEF (hk:ZcB=true):Goes (Zwh) (ZtS) (ZcH):=Goes.brk hk (fun hk=>Goes.brk hk (fun hk=>Goes.brk hk (fun hk=>Goes.brk hk (fun hk=>Goes.brk hk (fun hk=>Goes.brk hk (fun hk=>Goes.brk hk (fun hk=>Goes.brk hk (fun hk=>Goes.brk hk (fun hk=>Goes.brk hk (fun hk=>Goes.brk hk (fun hk=>Goes.brk hk (fun hk=>Goes.brk hk (fun hk=>Goes.leaf) (fun hk=>Goes.nok hk)) (fun hk=>Goes.leaf)) (fun hk=>Goes.nok hk)) (fun hk=>Goes.leaf)) (fun hk=>Goes.nok hk)) (fun hk=>Goes.nok hk)) (fun hk=>Goes.leaf)) (fun hk=>Goes.nok hk)) (fun hk=>Goes.leaf)) (fun hk=>Goes.nok hk)) (fun hk=>Goes.leaf)) (fun hk=>Goes.nok hk)) (fun hk=>Goes.nok hk)
def Zj0:Bool→AV:=fun (r:Bool)=>.d .bool r
def Zdw:Empty→Nat×St:=fun j=>nomatch j
theorem ZBR (L:Lt):entryA Go.Proofs.Tryz.prog (clOf ZoR) Zn1 Go.Proofs.Tryz.f6 ZjZ L (toForms Zem (()))=(ZtS).run (fun v=>some (Zj0 v,tps (toForms Zem (())))) fun j=>L (Zdw j).1 (Zdw j).2:=by kernel_rfl
theorem ZCS:∀(L:Lt) (j:Empty),procOf (procsF Go.Proofs.Tryz.prog (clOf ZoR) Zn1 Go.Proofs.Tryz.f6 ZjZ (toForms Zem (()))) (Zdw j).1 L (Zdw j).2=(Zwh j).run (fun v=>some (Zj0 v,tps (toForms Zem (())))) fun j=>L (Zdw j).1 (Zdw j).2:=fun L j=>nomatch j
noncomputable def Zv7:Run:=entG Zem Zj0 (fun a=>ZcB) (fun a=>ZcH)
theorem ZCT:EntOK Go.Proofs.Tryz.prog 6 Zv7:=ZJ (tb:=Zn1) (c:=ZjZ) ZBP (by kernel_rfl) (by kernel_rfl) (by kernel_rfl) (fun a=>by kernel_rfl) fun _ hk=>Zn (c:=ZjZ) (K:=fun v=>(Zj0 v,tps (toForms Zem (())))) (S:=Zdw) (by kernel_rfl) (ZBR) (ZCS) (ZEF hk)
end
end Go.Ev
end

section
open Go Go.Ev
namespace Go.Ev
noncomputable section
def Zg2:Sig:=[(false,(.sl .bool))]
noncomputable def ZuF:Tbl:=[]
theorem ZHS:∀p∈ZuF,EntOK Go.Proofs.Tryz.prog p.1 p.2:=Zu
noncomputable def Zqs:Code:=Go.Proofs.Tryz.f8.body.getD .skip
def Zsb:Tb:=[(4,⟨[0,3,4],[(4,46)]⟩)]
inductive ZkZ where | l4 (i:Int) (out:List Int)
def ZkS (is:List Bool):ZkZ→JT ZkZ (List Int) |.l4 i out=>.br (decide (i < (Int.ofNat (List.length is)))) (.br ((decide ((0:Int)≤i))&&(decide (i < (Int.ofNat (List.length is))))) (.br (List.getD is (Int.toNat i) (dflt .bool)) (.br (Nat.ble (((List.length out)+1)*8) limit) (.jmp (.l4 (IntKind.i64.wrap (i+(1:Int))) (out++[i]))) (.no)) (.jmp (.l4 (IntKind.i64.wrap (i+(1:Int))) out))) (.no)) (.leaf out)
def Zru (is:List Bool):JT ZkZ (List Int):=.jmp (.l4 (0:Int) [])
def ZpY:List Int→AV:=fun (r:List Int)=>.rw 3 (.int .i64) r
def ZgS (is:List Bool):ZkZ→Nat×St |.l4 i out=>(4,⟨mkTm 20 [(0,.d (.sl .bool) is),(3,.own 4 0 none),(4,.d (.int .i64) i)],[(4,0,.row 3 (.int .i64) out false)]⟩)
theorem ZI1 (is:List Bool) (L:Lt):entryA Go.Proofs.Tryz.prog (clOf ZuF) Zsb Go.Proofs.Tryz.f8 Zqs L (toForms Zg2 (is,()))=(Zru is).run (fun v=>some (ZpY v,tps (toForms Zg2 (is,())))) fun j=>L (ZgS is j).1 (ZgS is j).2:=by kernel_rfl
theorem ZHy (is:List Bool):∀(L:Lt) (j:ZkZ),procOf (procsF Go.Proofs.Tryz.prog (clOf ZuF) Zsb Go.Proofs.Tryz.f8 Zqs (toForms Zg2 (is,()))) (ZgS is j).1 L (ZgS is j).2=(ZkS is j).run (fun v=>some (ZpY v,tps (toForms Zg2 (is,())))) fun j=>L (ZgS is j).1 (ZgS is j).2 | L,.l4 i out=>by kernel_rfl
end
end Go.Ev
end

section
open Go
namespace Go.Ev
def Zbz (is:List Bool):List Int:=listFrom 0 is
def Zpc (is:List Bool):Bool:=decide (is.length < 1099511627776)
theorem ZJ8 (is:List Bool) (hk:Zpc is=true):Goes (ZkS is) (Zru is) (Zbz is):=by
 have hn:is.length < 1099511627776:=of_decide_eq_true hk
 have loop:∀k,k≤is.length→∀out:List Int,out.length≤k→Goes (ZkS is) (.jmp (.l4 (k:Int) out)) (out++listFrom k (is.drop k)):=by
  refine down ?_ fun k hk ih=>?_
  ·intro out ho
   rw[Zi]
   simp only[ZkS,Ze,Zw (Nat.lt_irrefl _),List.drop_length]
   rw[show listFrom is.length []=[] from rfl,List.append_nil]
   exact .leaf
  ·intro out ho
   rw[Zi,ZN hk]
   have b1:Nat.ble ((out.length+1)*8) limit=true:=Nat.ble_eq_true_of_le (by unfold limit;omega)
   simp only[ZkS,Ze,ZQ hk,nng,Bool.and_self,if_true,Int.toNat_natCast,ZG hk,Zs (k:=k) (by omega),b1]
   unfold listFrom
   split
   ·have:=ih (out++[(k:Int)]) (by rw[List.length_append,List.length_singleton];omega)
    rw[List.append_assoc] at this
    exact this
   ·exact ih out (by omega)
 have:=loop 0 (Nat.zero_le _) [] (by simp)
 unfold Zru Zbz
 simpa using this
end Go.Ev
end

section
open Go Go.Ev
namespace Go.Ev
noncomputable section
noncomputable def ZAi:Run:=entG Zg2 ZpY (fun a=>Zpc a.1) (fun a=>Zbz a.1)
theorem ZI0:EntOK Go.Proofs.Tryz.prog 8 ZAi:=ZJ (tb:=Zsb) (c:=Zqs) ZHS (by kernel_rfl) (by kernel_rfl) (by kernel_rfl) (fun a=>by kernel_rfl) fun ⟨is,_⟩ hk=>Zn (c:=Zqs) (K:=fun v=>(ZpY v,tps (toForms Zg2 (is,())))) (S:=ZgS is) (by kernel_rfl) (ZI1 is) (ZHy is) (ZJ8 is hk)
end
end Go.Ev
end

section
open Go Go.Ev
namespace Go.Ev
noncomputable section
def Zha:Sig:=[(true,Zc),(false,(.int .i64)),(false,(.sl (.int .i64)))]
noncomputable def Zu8:Tbl:=[(22,ZlO),(25,Zfn),(24,ZwC),(23,Zu4)]
theorem ZJI:∀p∈Zu8,EntOK Go.Proofs.Tryz.prog p.1 p.2:=Zg Zmc (Zg Zgb (Zg Zwo (Zg Zyp (Zu))))
noncomputable def Zpo:Code:=Go.Proofs.Tryz.f9.body.getD .skip
def Zr7:Tb:=[(hintK,⟨[],[(1,46)]⟩)]
def ZAv (p:El Zc) (t:Int) (points:List Int):Empty→JT Empty (List Int):=fun j=>nomatch j
def Zyz (p:El Zc) (t:Int) (points:List Int):JT Empty (List Int):=.br (Zba p t) (.br (! (Za9 p t)) (.leaf []) (.br ((decide ((0:Int)≤t))&&(decide (t < (Int.ofNat (List.length p.2))))) (.br (ZS p) (.br (ZcA (Zk p) t) (.br (ZbA (List.getD p.2 (Int.toNat t) (dflt (.sl Za))) (Z5 (Zk p) t) points) (.leaf (ZaP (List.getD p.2 (Int.toNat t) (dflt (.sl Za))) (Z5 (Zk p) t) points)) (.no)) (.no)) (.no)) (.no))) (.no)
def Zfl (p:El Zc) (t:Int) (points:List Int):List Int:=bif (Zba p t) then bif (! (Za9 p t)) then [] else bif ((decide ((0:Int)≤t))&&(decide (t < (Int.ofNat (List.length p.2))))) then bif (ZS p) then bif (ZcA (Zk p) t) then bif (ZbA (List.getD p.2 (Int.toNat t) (dflt (.sl Za))) (Z5 (Zk p) t) points) then (ZaP (List.getD p.2 (Int.toNat t) (dflt (.sl Za))) (Z5 (Zk p) t) points) else [] else [] else [] else [] else []
def ZlT (p:El Zc) (t:Int) (points:List Int):Bool:=bif (Zba p t) then bif (! (Za9 p t)) then true else bif ((decide ((0:Int)≤t))&&(decide (t < (Int.ofNat (List.length p.2))))) then bif (ZS p) then bif (ZcA (Zk p) t) then bif (ZbA (List.getD p.2 (Int.toNat t) (dflt (.sl Za))) (Z5 (Zk p) t) points) then true else false else false else false else false else false
theorem ZKo (p:El Zc) (t:Int) (points:List Int) (hk:ZlT p t points=true):Goes (ZAv p t points) (Zyz p t points) (Zfl p t points):=Goes.brk hk (fun hk=>Goes.brk hk (fun hk=>Goes.leaf) (fun hk=>Goes.brk hk (fun hk=>Goes.brk hk (fun hk=>Goes.brk hk (fun hk=>Goes.brk hk (fun hk=>Goes.leaf) (fun hk=>Goes.nok hk)) (fun hk=>Goes.nok hk)) (fun hk=>Goes.nok hk)) (fun hk=>Goes.nok hk))) (fun hk=>Goes.nok hk)
def ZoO:List Int→AV:=fun (r:List Int)=>.rw 3 (.int .i64) r
def Zgr (p:El Zc) (t:Int) (points:List Int):Empty→Nat×St:=fun j=>nomatch j
theorem ZJB (p:El Zc) (t:Int) (points:List Int) (L:Lt):entryA Go.Proofs.Tryz.prog (clOf Zu8) Zr7 Go.Proofs.Tryz.f9 Zpo L (toForms Zha (p,t,points,()))=(Zyz p t points).run (fun v=>some (ZoO v,tps (toForms Zha (p,t,points,())))) fun j=>L (Zgr p t points j).1 (Zgr p t points j).2:=by kernel_rfl
theorem ZIy (p:El Zc) (t:Int) (points:List Int):∀(L:Lt) (j:Empty),procOf (procsF Go.Proofs.Tryz.prog (clOf Zu8) Zr7 Go.Proofs.Tryz.f9 Zpo (toForms Zha (p,t,points,()))) (Zgr p t points j).1 L (Zgr p t points j).2=(ZAv p t points j).run (fun v=>some (ZoO v,tps (toForms Zha (p,t,points,())))) fun j=>L (Zgr p t points j).1 (Zgr p t points j).2:=fun L j=>nomatch j
noncomputable def ZzP:Run:=entG Zha ZoO (fun a=>ZlT a.1 a.2.1 a.2.2.1) (fun a=>Zfl a.1 a.2.1 a.2.2.1)
theorem ZIm:EntOK Go.Proofs.Tryz.prog 9 ZzP:=ZJ (tb:=Zr7) (c:=Zpo) ZJI (by kernel_rfl) (by kernel_rfl) (by kernel_rfl) (fun a=>by kernel_rfl) fun ⟨p,t,points,_⟩ hk=>Zn (c:=Zpo) (K:=fun v=>(ZoO v,tps (toForms Zha (p,t,points,())))) (S:=Zgr p t points) (by kernel_rfl) (ZJB p t points) (ZIy p t points) (ZKo p t points hk)
end
end Go.Ev
end

section
open Go Go.Ev
namespace Go.Ev
noncomputable section
def Zhf:Sig:=[(true,Zc),(false,(.int .i64))]
noncomputable def Zu9:Tbl:=[(48,Zq3)]
theorem ZI8:∀p∈Zu9,EntOK Go.Proofs.Tryz.prog p.1 p.2:=Zg ZvH (Zu)
noncomputable def ZpB:Code:=Go.Proofs.Tryz.f26.body.getD .skip
def Zrf:Tb:=[]
def ZBm (p:El Zc) (t:Int):Empty→JT Empty (Bool):=fun j=>nomatch j
def ZxY (p:El Zc) (t:Int):JT Empty (Bool):=.br (Zb5 p) (.br ((ZcN p) !=(0:Int)) (.leaf true) (.br (decide (t < (0:Int))) (.leaf true) (.leaf (decide (t≥(Int.ofNat (List.length p.2))))))) (.no)
def ZgN (p:El Zc) (t:Int):Bool:=bif (Zb5 p) then bif ((ZcN p) !=(0:Int)) then true else bif (decide (t < (0:Int))) then true else (decide (t≥(Int.ofNat (List.length p.2)))) else false
def Zg1 (p:El Zc) (t:Int):Bool:=bif (Zb5 p) then bif ((ZcN p) !=(0:Int)) then true else bif (decide (t < (0:Int))) then true else true else false
theorem ZKm (p:El Zc) (t:Int) (hk:Zg1 p t=true):Goes (ZBm p t) (ZxY p t) (ZgN p t):=Goes.brk hk (fun hk=>Goes.brk hk (fun hk=>Goes.leaf) (fun hk=>Goes.brk hk (fun hk=>Goes.leaf) (fun hk=>Goes.leaf))) (fun hk=>Goes.nok hk)
def ZqB:Bool→AV:=fun (r:Bool)=>.d .bool r
def ZgQ (p:El Zc) (t:Int):Empty→Nat×St:=fun j=>nomatch j
theorem ZHx (p:El Zc) (t:Int) (L:Lt):entryA Go.Proofs.Tryz.prog (clOf Zu9) Zrf Go.Proofs.Tryz.f26 ZpB L (toForms Zhf (p,t,()))=(ZxY p t).run (fun v=>some (ZqB v,tps (toForms Zhf (p,t,())))) fun j=>L (ZgQ p t j).1 (ZgQ p t j).2:=by kernel_rfl
theorem ZIv (p:El Zc) (t:Int):∀(L:Lt) (j:Empty),procOf (procsF Go.Proofs.Tryz.prog (clOf Zu9) Zrf Go.Proofs.Tryz.f26 ZpB (toForms Zhf (p,t,()))) (ZgQ p t j).1 L (ZgQ p t j).2=(ZBm p t j).run (fun v=>some (ZqB v,tps (toForms Zhf (p,t,())))) fun j=>L (ZgQ p t j).1 (ZgQ p t j).2:=fun L j=>nomatch j
noncomputable def ZAu:Run:=entG Zhf ZqB (fun a=>Zg1 a.1 a.2.1) (fun a=>ZgN a.1 a.2.1)
theorem ZIZ:EntOK Go.Proofs.Tryz.prog 26 ZAu:=ZJ (tb:=Zrf) (c:=ZpB) ZI8 (by kernel_rfl) (by kernel_rfl) (by kernel_rfl) (fun a=>by kernel_rfl) fun ⟨p,t,_⟩ hk=>Zn (c:=ZpB) (K:=fun v=>(ZqB v,tps (toForms Zhf (p,t,())))) (S:=ZgQ p t) (by kernel_rfl) (ZHx p t) (ZIv p t) (ZKm p t hk)
end
end Go.Ev
end

section
open Go Go.Ev
namespace Go.Ev
noncomputable section
def ZkR:Sig:=[(false,(.sl Zd)),(false,(.int .i64))]
noncomputable def ZAm:Tbl:=[]
theorem ZMe:∀p∈ZAm,EntOK Go.Proofs.Tryz.prog p.1 p.2:=Zu
noncomputable def Zvb:Code:=Go.Proofs.Tryz.f28.body.getD .skip
def ZwV:Tb:=[(4,⟨[0,1,5,6],[(6,122)]⟩)]
inductive Zsn where | l4 (i:Int) (out:List (El Zd))
def Zr2 (l:List (El Zd)) (t:Int):Zsn→JT Zsn (List (El Zd)) |.l4 i out=>.br (decide (i < (Int.ofNat (List.length l)))) (.br ((decide ((0:Int)≤i))&&(decide (i < (Int.ofNat (List.length l))))) (.br ((List.getD l (Int.toNat i) (dflt Zd)).1==t) (.br ((decide ((0:Int)≤i))&&(decide (i < (Int.ofNat (List.length l))))) (.br (Nat.ble (((List.length out)+1)*24) limit) (.jmp (.l4 (IntKind.i64.wrap (i+(1:Int))) (out++[(List.getD l (Int.toNat i) (dflt Zd))]))) (.no)) (.no)) (.jmp (.l4 (IntKind.i64.wrap (i+(1:Int))) out))) (.no)) (.leaf out)
def ZDo (l:List (El Zd)) (t:Int):JT Zsn (List (El Zd)):=.jmp (.l4 (0:Int) [])
def ZvW:List (El Zd)→AV:=fun (r:List (El Zd))=>.rw 67 Zd r
def ZlA (l:List (El Zd)) (t:Int):Zsn→Nat×St |.l4 i out=>(4,⟨mkTm 28 [(0,.d (.sl Zd) l),(1,.d (.int .i64) t),(5,.own 6 0 none),(6,.d (.int .i64) i)],[(6,0,.row 67 Zd out false)]⟩)
theorem ZMo (l:List (El Zd)) (t:Int) (L:Lt):entryA Go.Proofs.Tryz.prog (clOf ZAm) ZwV Go.Proofs.Tryz.f28 Zvb L (toForms ZkR (l,t,()))=(ZDo l t).run (fun v=>some (ZvW v,tps (toForms ZkR (l,t,())))) fun j=>L (ZlA l t j).1 (ZlA l t j).2:=by kernel_rfl
theorem ZMK (l:List (El Zd)) (t:Int):∀(L:Lt) (j:Zsn),procOf (procsF Go.Proofs.Tryz.prog (clOf ZAm) ZwV Go.Proofs.Tryz.f28 Zvb (toForms ZkR (l,t,()))) (ZlA l t j).1 L (ZlA l t j).2=(Zr2 l t j).run (fun v=>some (ZvW v,tps (toForms ZkR (l,t,())))) fun j=>L (ZlA l t j).1 (ZlA l t j).2 | L,.l4 i out=>by kernel_rfl
end
end Go.Ev
end

section
open Go
namespace Go.Ev
def Zh3 (l:List (El Zd)) (t:Int):List (El Zd):=l.filter (ofB t)
def Zn5 (l:List (El Zd)) (t:Int):Bool:=decide (l.length < 1000000000000)
theorem ZOg (l:List (El Zd)) (t:Int) (hk:Zn5 l t=true):Goes (Zr2 l t) (ZDo l t) (Zh3 l t):=by
 have hN:=of_decide_eq_true hk
 have loop:∀k,k≤l.length→∀out:List (El Zd),out.length≤k→Goes (Zr2 l t) (.jmp (.l4 (k:Int) out)) (out++(l.drop k).filter (ofB t)):=by
  refine down ?_ fun k hk ih=>?_
  ·intro out ho
   rw[Zi,Zr2,Ze,if_neg (by rw[Zw (Nat.lt_irrefl _)];decide),List.drop_length]
   simp only[List.filter_nil,List.append_nil]
   exact .leaf
  ·intro out ho
   have b1:Nat.ble ((out.length+1)*24) limit=true:=Nat.ble_eq_true_of_le (by unfold limit;omega)
   rw[Zi,Zr2,ZN hk,List.filter_cons]
   simp only[Ze,ZQ hk,nng,Bool.and_self,if_true,Int.toNat_natCast,ZG hk,b1,Zs (k:=k) (by omega)]
   by_cases c:ofB t l[k]=true
   ·have c':=c
    unfold ofB at c'
    rw[if_pos c',if_pos c]
    have:=ih (out++[l[k]]) (by simp;omega)
    rw[List.append_assoc] at this
    exact this
   ·have c':=c
    unfold ofB at c'
    rw[if_neg c',if_neg c]
    exact ih out (by omega)
 have:=loop 0 (Nat.zero_le _) [] (Nat.zero_le _)
 rw[List.nil_append,List.drop_zero] at this
 exact this
end Go.Ev
end

section
open Go Go.Ev
namespace Go.Ev
noncomputable section
noncomputable def ZGR:Run:=entG ZkR ZvW (fun a=>Zn5 a.1 a.2.1) (fun a=>Zh3 a.1 a.2.1)
theorem ZML:EntOK Go.Proofs.Tryz.prog 28 ZGR:=ZJ (tb:=ZwV) (c:=Zvb) ZMe (by kernel_rfl) (by kernel_rfl) (by kernel_rfl) (fun a=>by kernel_rfl) fun ⟨l,t,_⟩ hk=>Zn (c:=Zvb) (K:=fun v=>(ZvW v,tps (toForms ZkR (l,t,())))) (S:=ZlA l t) (by kernel_rfl) (ZMo l t) (ZMK l t) (ZOg l t hk)
end
end Go.Ev
end

section
open Go Go.Ev
namespace Go.Ev
noncomputable section
def ZfY:Sig:=[(true,(.sl Za)),(false,(.sl Zd)),(false,(.sl (.int .i64)))]
noncomputable def ZsQ:Tbl:=[(49,Zz3)]
theorem ZGl:∀p∈ZsQ,EntOK Go.Proofs.Tryz.prog p.1 p.2:=Zg ZIb (Zu)
noncomputable def Zmq:Code:=Go.Proofs.Tryz.f27.body.getD .skip
def ZqN:Tb:=[(4,⟨[1,2,3,7,8],[(8,122)]⟩)]
inductive Zjn where | l4 (i:Int) (out:List (El Zd))
def Zjq (t:List (El Za)) (l:List (El Zd)) (points:List Int):Zjn→JT Zjn (List (El Zd)) |.l4 i out=>.br (decide (i < (Int.ofNat (List.length l)))) (.br ((decide ((0:Int)≤i))&&(decide (i < (Int.ofNat (List.length l))))) (.br ((decide ((0:Int)≤i))&&(decide (i < (Int.ofNat (List.length l))))) (.br (Zix t points (List.getD l (Int.toNat i) (dflt Zd)).2.1 (List.getD l (Int.toNat i) (dflt Zd)).2.2) (.br (ZgF t points (List.getD l (Int.toNat i) (dflt Zd)).2.1 (List.getD l (Int.toNat i) (dflt Zd)).2.2) (.br ((decide ((0:Int)≤i))&&(decide (i < (Int.ofNat (List.length l))))) (.br (Nat.ble (((List.length out)+1)*24) limit) (.jmp (.l4 (IntKind.i64.wrap (i+(1:Int))) (out++[(List.getD l (Int.toNat i) (dflt Zd))]))) (.no)) (.no)) (.jmp (.l4 (IntKind.i64.wrap (i+(1:Int))) out))) (.no)) (.no)) (.no)) (.leaf out)
def ZwK (t:List (El Za)) (l:List (El Zd)) (points:List Int):JT Zjn (List (El Zd)):=.jmp (.l4 (0:Int) [])
def ZmU:List (El Zd)→AV:=fun (r:List (El Zd))=>.rw 67 Zd r
def ZeM (t:List (El Za)) (l:List (El Zd)) (points:List Int):Zjn→Nat×St |.l4 i out=>(4,⟨mkTm 36 [(1,.d (.sl Zd) l),(2,.d (.sl (.int .i64)) points),(3,.pt 4 0 0),(7,.own 8 0 none),(8,.d (.int .i64) i)],[(4,0,.box 34 [.d (.sl Za) t] none),(8,0,.row 67 Zd out false)]⟩)
theorem ZEz (t:List (El Za)) (l:List (El Zd)) (points:List Int) (L:Lt):entryA Go.Proofs.Tryz.prog (clOf ZsQ) ZqN Go.Proofs.Tryz.f27 Zmq L (toForms ZfY (t,l,points,()))=(ZwK t l points).run (fun v=>some (ZmU v,tps (toForms ZfY (t,l,points,())))) fun j=>L (ZeM t l points j).1 (ZeM t l points j).2:=by kernel_rfl
theorem ZD4 (t:List (El Za)) (l:List (El Zd)) (points:List Int):∀(L:Lt) (j:Zjn),procOf (procsF Go.Proofs.Tryz.prog (clOf ZsQ) ZqN Go.Proofs.Tryz.f27 Zmq (toForms ZfY (t,l,points,()))) (ZeM t l points j).1 L (ZeM t l points j).2=(Zjq t l points j).run (fun v=>some (ZmU v,tps (toForms ZfY (t,l,points,())))) fun j=>L (ZeM t l points j).1 (ZeM t l points j).2 | L,.l4 i out=>by kernel_rfl
end
end Go.Ev
end

section
open Go
namespace Go.Ev
noncomputable def ZjB (t:List (El Za)) (l:List (El Zd)) (points:List Int):List (El Zd):=missL (uB t) points l
def ZcD (t:List (El Za)) (l:List (El Zd)) (points:List Int):Bool:=flowOK t&&(decide (points.length < 4611686018427387904)&&decide (l.length < 1000000000000))
theorem ZIB (t:List (El Za)) (l:List (El Zd)) (points:List Int) (hk:ZcD t l points=true):Goes (Zjq t l points) (ZwK t l points) (ZjB t l points):=by
 unfold ZcD at hk
 rw[Bool.and_eq_true,Bool.and_eq_true,decide_eq_true_eq,decide_eq_true_eq] at hk
 obtain ⟨hf,hp,hN⟩:=hk
 have loop:∀k,k≤l.length→∀out:List (El Zd),out.length≤k→Goes (Zjq t l points) (.jmp (.l4 (k:Int) out)) (out++(l.drop k).filter (uB t points)):=by
  refine down ?_ fun k hk ih=>?_
  ·intro out ho
   rw[Zi,Zjq,Ze,if_neg (by rw[Zw (Nat.lt_irrefl _)];decide),List.drop_length]
   simp only[List.filter_nil,List.append_nil]
   exact .leaf
  ·intro out ho
   have b1:Nat.ble ((out.length+1)*24) limit=true:=Nat.ble_eq_true_of_le (by unfold limit;omega)
   obtain ⟨_,f1,f2,f3⟩:=ZFu hf hp l[k].2.1 l[k].2.2
   have fv:ZgF t points l[k].2.1 l[k].2.2=uB t points l[k]:=by rw[f2,f3];rfl
   rw[Zi,Zjq,ZN hk,List.filter_cons]
   simp only[Ze,ZQ hk,nng,Bool.and_self,if_true,Int.toNat_natCast,ZG hk,b1,Zs (k:=k) (by omega)]
   rw[if_pos f1,fv]
   by_cases c:uB t points l[k]=true
   ·rw[if_pos c,if_pos c]
    have:=ih (out++[l[k]]) (by simp;omega)
    rw[List.append_assoc] at this
    exact this
   ·rw[if_neg c,if_neg c]
    exact ih out (by omega)
 have:=loop 0 (Nat.zero_le _) [] (Nat.zero_le _)
 rw[List.nil_append,List.drop_zero] at this
 exact this
end Go.Ev
end

section
open Go Go.Ev
namespace Go.Ev
noncomputable section
noncomputable def Zx0:Run:=entG ZfY ZmU (fun a=>ZcD a.1 a.2.1 a.2.2.1) (fun a=>ZjB a.1 a.2.1 a.2.2.1)
theorem ZEV:EntOK Go.Proofs.Tryz.prog 27 Zx0:=ZJ (tb:=ZqN) (c:=Zmq) ZGl (by kernel_rfl) (by kernel_rfl) (by kernel_rfl) (fun a=>by kernel_rfl) fun ⟨t,l,points,_⟩ hk=>Zn (c:=Zmq) (K:=fun v=>(ZmU v,tps (toForms ZfY (t,l,points,())))) (S:=ZeM t l points) (by kernel_rfl) (ZEz t l points) (ZD4 t l points) (ZIB t l points hk)
end
end Go.Ev
end

section
open Go Go.Ev
namespace Go.Ev
noncomputable section
def Zeb:Sig:=[(true,Zc),(false,(.int .i64)),(false,(.sl (.int .i64)))]
noncomputable def Zpd:Tbl:=[(26,ZAu),(29,Zvf),(28,ZGR),(27,Zx0)]
theorem ZB8:∀p∈Zpd,EntOK Go.Proofs.Tryz.prog p.1 p.2:=Zg ZIZ (Zg ZBW (Zg ZML (Zg ZEV (Zu))))
noncomputable def ZkJ:Code:=Go.Proofs.Tryz.f10.body.getD .skip
def ZnD:Tb:=[]
def ZvF (p:El Zc) (t:Int) (points:List Int):Empty→JT Empty (Bool):=fun j=>nomatch j
def ZtL (p:El Zc) (t:Int) (points:List Int):JT Empty (Bool):=.br (Zg1 p t) (.br (! (ZgN p t)) (.br ((decide ((0:Int)≤t))&&(decide (t < (Int.ofNat (List.length p.2))))) (.br (Zbl p) (.br (Zn5 (ZH p) t) (.br (ZcD (List.getD p.2 (Int.toNat t) (dflt (.sl Za))) (Zh3 (ZH p) t) points) (.leaf ((Int.ofNat (List.length (ZjB (List.getD p.2 (Int.toNat t) (dflt (.sl Za))) (Zh3 (ZH p) t) points)))==(0:Int))) (.no)) (.no)) (.no)) (.no)) (.leaf false)) (.no)
def ZbD (p:El Zc) (t:Int) (points:List Int):Bool:=bif (Zg1 p t) then bif (! (ZgN p t)) then bif ((decide ((0:Int)≤t))&&(decide (t < (Int.ofNat (List.length p.2))))) then bif (Zbl p) then bif (Zn5 (ZH p) t) then bif (ZcD (List.getD p.2 (Int.toNat t) (dflt (.sl Za))) (Zh3 (ZH p) t) points) then ((Int.ofNat (List.length (ZjB (List.getD p.2 (Int.toNat t) (dflt (.sl Za))) (Zh3 (ZH p) t) points)))==(0:Int)) else false else false else false else false else false else false
def ZcG (p:El Zc) (t:Int) (points:List Int):Bool:=bif (Zg1 p t) then bif (! (ZgN p t)) then bif ((decide ((0:Int)≤t))&&(decide (t < (Int.ofNat (List.length p.2))))) then bif (Zbl p) then bif (Zn5 (ZH p) t) then bif (ZcD (List.getD p.2 (Int.toNat t) (dflt (.sl Za))) (Zh3 (ZH p) t) points) then true else false else false else false else false else true else false
theorem ZF1 (p:El Zc) (t:Int) (points:List Int) (hk:ZcG p t points=true):Goes (ZvF p t points) (ZtL p t points) (ZbD p t points):=Goes.brk hk (fun hk=>Goes.brk hk (fun hk=>Goes.brk hk (fun hk=>Goes.brk hk (fun hk=>Goes.brk hk (fun hk=>Goes.brk hk (fun hk=>Goes.leaf) (fun hk=>Goes.nok hk)) (fun hk=>Goes.nok hk)) (fun hk=>Goes.nok hk)) (fun hk=>Goes.nok hk)) (fun hk=>Goes.leaf)) (fun hk=>Goes.nok hk)
def Zkh:Bool→AV:=fun (r:Bool)=>.d .bool r
def ZdA (p:El Zc) (t:Int) (points:List Int):Empty→Nat×St:=fun j=>nomatch j
theorem ZBL (p:El Zc) (t:Int) (points:List Int) (L:Lt):entryA Go.Proofs.Tryz.prog (clOf Zpd) ZnD Go.Proofs.Tryz.f10 ZkJ L (toForms Zeb (p,t,points,()))=(ZtL p t points).run (fun v=>some (Zkh v,tps (toForms Zeb (p,t,points,())))) fun j=>L (ZdA p t points j).1 (ZdA p t points j).2:=by kernel_rfl
theorem ZCa (p:El Zc) (t:Int) (points:List Int):∀(L:Lt) (j:Empty),procOf (procsF Go.Proofs.Tryz.prog (clOf Zpd) ZnD Go.Proofs.Tryz.f10 ZkJ (toForms Zeb (p,t,points,()))) (ZdA p t points j).1 L (ZdA p t points j).2=(ZvF p t points j).run (fun v=>some (Zkh v,tps (toForms Zeb (p,t,points,())))) fun j=>L (ZdA p t points j).1 (ZdA p t points j).2:=fun L j=>nomatch j
noncomputable def Zv5:Run:=entG Zeb Zkh (fun a=>ZcG a.1 a.2.1 a.2.2.1) (fun a=>ZbD a.1 a.2.1 a.2.2.1)
theorem ZBB:EntOK Go.Proofs.Tryz.prog 10 Zv5:=ZJ (tb:=ZnD) (c:=ZkJ) ZB8 (by kernel_rfl) (by kernel_rfl) (by kernel_rfl) (fun a=>by kernel_rfl) fun ⟨p,t,points,_⟩ hk=>Zn (c:=ZkJ) (K:=fun v=>(Zkh v,tps (toForms Zeb (p,t,points,())))) (S:=ZdA p t points) (by kernel_rfl) (ZBL p t points) (ZCa p t points) (ZF1 p t points hk)
end
end Go.Ev
end

section
open Go Go.Ev
namespace Go.Ev
noncomputable section
def Zab:Sig:=[(false,(.sl (.sl Zr))),(false,(.int .i64)),(false,(.sl (.int .i64)))]
noncomputable def ZiK:Tbl:=[(5,ZBg),(6,Zv7),(7,Zil),(8,ZAi),(9,ZzP),(10,Zv5),(11,Zk0),(12,ZzD)]
theorem Zwa:∀p∈ZiK,EntOK Go.Proofs.Tryz.prog p.1 p.2:=Zg ZJm (Zg ZCT (Zg Zjm (Zg ZI0 (Zg ZIm (Zg ZBB (Zg Zq0 (Zg ZC5 (Zu))))))))
noncomputable def Zfy:Code:=Go.Proofs.Tryz.f3.body.getD .skip
def ZmP:Tb:=[(9,⟨[1,2,7,8,9],[]⟩),(11,⟨[1,2,7,8,9,40],[]⟩),(20,⟨[1,7,10,11,12],[(10000000000000000000000000000000000000000000000000000000000011,1),(10000000000000000000000000000000000000000000000000000000000012,1)]⟩)]
inductive Zdg where | l9 (is:List Bool) (i:Int) | l11 (is:List Bool) (h:Bool) (i:Int) | l20 (all:List Int) (left:List Int) (i:Int)
def Zag (l:List (List (El Zr))) (t:Int) (points:List Int):Zdg→JT Zdg (Bool) |.l9 is i=>.br (decide (i < (Int.ofNat (List.length points)))) (.jmp (.l11 is (decide (i < (12:Int))) i)) (.jmp (.l11 is false i)) |.l11 is h i=>.br h (.br ((decide ((0:Int)≤i))&&(decide (i < (Int.ofNat (List.length points))))) (.br (ZO (List.getD points (Int.toNat i) (dflt (.int .i64))) (Int.ofNat (List.length is))) (.br ((decide ((0:Int)≤(Zf (List.getD points (Int.toNat i) (dflt (.int .i64))) (Int.ofNat (List.length is)))))&&(decide ((Zf (List.getD points (Int.toNat i) (dflt (.int .i64))) (Int.ofNat (List.length is))) < (Int.ofNat (List.length is))))) (.jmp (.l9 (List.set is (Int.toNat (Zf (List.getD points (Int.toNat i) (dflt (.int .i64))) (Int.ofNat (List.length is)))) true) (IntKind.i64.wrap (i+(1:Int))))) (.no)) (.no)) (.no)) (.br (Zpc is) (.br (ZlT (Zj l (3:Int) (6:Int)) (Zf t (Int.ofNat (List.length (Zj l (3:Int) (6:Int)).2))) (Zbz is)) (.br (ZcG (Zj l (3:Int) (6:Int)) (Zf t (Int.ofNat (List.length (Zj l (3:Int) (6:Int)).2))) (Zbz is)) (.br (! (ZbD (Zj l (3:Int) (6:Int)) (Zf t (Int.ofNat (List.length (Zj l (3:Int) (6:Int)).2))) (Zbz is))) (.br (Zaw (Zfl (Zj l (3:Int) (6:Int)) (Zf t (Int.ofNat (List.length (Zj l (3:Int) (6:Int)).2))) (Zbz is)) (Zbz is)) (.br (Zaj (Zfl (Zj l (3:Int) (6:Int)) (Zf t (Int.ofNat (List.length (Zj l (3:Int) (6:Int)).2))) (Zbz is)) (Zbz is)) (.br ZcB (.leaf ZcH) (.no)) (.leaf false)) (.no)) (.jmp (.l20 (Zbz is) (Zfl (Zj l (3:Int) (6:Int)) (Zf t (Int.ofNat (List.length (Zj l (3:Int) (6:Int)).2))) (Zbz is)) (0:Int)))) (.no)) (.no)) (.no)) |.l20 all left i=>.br (decide (i < (Int.ofNat (List.length left)))) (.br ((decide ((0:Int)≤i))&&(decide (i < (Int.ofNat (List.length left))))) (.br (ZlS all (List.getD left (Int.toNat i) (dflt (.int .i64)))) (.br (! (Zjl all (List.getD left (Int.toNat i) (dflt (.int .i64))))) (.leaf false) (.br ((((decide ((0:Int)≤i))&&(decide (i≤(Int.ofNat (List.length left)))))&&true)&&(decide ((0:Int)≤i))) (.br (Nat.ble ((List.length (List.take (Int.toNat i) left))*8) limit) (.br ((((decide ((0:Int)≤(Int.ofNat (List.length left))))&&(decide ((Int.ofNat (List.length left))≤(Int.ofNat (List.length left)))))&&(decide ((0:Int)≤(IntKind.i64.wrap (i+(1:Int))))))&&(decide ((IntKind.i64.wrap (i+(1:Int)))≤(Int.ofNat (List.length left))))) (.br (Nat.ble (((List.length (List.take (Int.toNat i) left))+(List.length (List.drop (Int.toNat (IntKind.i64.wrap (i+(1:Int)))) (List.take (List.length left) left))))*8) limit) (.br (ZcG (Zj l (3:Int) (6:Int)) (Zf t (Int.ofNat (List.length (Zj l (3:Int) (6:Int)).2))) ((List.take (Int.toNat i) left)++(List.drop (Int.toNat (IntKind.i64.wrap (i+(1:Int)))) (List.take (List.length left) left)))) (.br (ZbD (Zj l (3:Int) (6:Int)) (Zf t (Int.ofNat (List.length (Zj l (3:Int) (6:Int)).2))) ((List.take (Int.toNat i) left)++(List.drop (Int.toNat (IntKind.i64.wrap (i+(1:Int)))) (List.take (List.length left) left)))) (.leaf false) (.jmp (.l20 all left (IntKind.i64.wrap (i+(1:Int)))))) (.no)) (.no)) (.no)) (.no)) (.no))) (.no)) (.no)) (.br (ZcG (Zj l (3:Int) (6:Int)) (Zf t (Int.ofNat (List.length (Zj l (3:Int) (6:Int)).2))) left) (.br (ZbD (Zj l (3:Int) (6:Int)) (Zf t (Int.ofNat (List.length (Zj l (3:Int) (6:Int)).2))) left) (.br ZcB (.leaf ZcH) (.no)) (.leaf false)) (.no))
def Zij (l:List (List (El Zr))) (t:Int) (points:List Int):JT Zdg (Bool):=.br (ZeF l (3:Int) (6:Int)) (.br ((Int.ofNat (List.length (Zj l (3:Int) (6:Int)).2))==(0:Int)) (.br ZcB (.leaf ZcH) (.no)) (.br (ZO t (Int.ofNat (List.length (Zj l (3:Int) (6:Int)).2))) (.br ((decide ((0:Int)≤(Zf t (Int.ofNat (List.length (Zj l (3:Int) (6:Int)).2)))))&&(decide ((Zf t (Int.ofNat (List.length (Zj l (3:Int) (6:Int)).2))) < (Int.ofNat (List.length (Zj l (3:Int) (6:Int)).2))))) (.br ((((Int.ofNat (List.length (List.getD (Zj l (3:Int) (6:Int)).2 (Int.toNat (Zf t (Int.ofNat (List.length (Zj l (3:Int) (6:Int)).2)))) (dflt (.sl Za)))))==(Int.ofNat (List.length (List.getD (Zj l (3:Int) (6:Int)).2 (Int.toNat (Zf t (Int.ofNat (List.length (Zj l (3:Int) (6:Int)).2)))) (dflt (.sl Za))))))&&(decide ((0:Int)≤(Int.ofNat (List.length (List.getD (Zj l (3:Int) (6:Int)).2 (Int.toNat (Zf t (Int.ofNat (List.length (Zj l (3:Int) (6:Int)).2)))) (dflt (.sl Za))))))))&&(decide (((Int.ofNat (List.length (List.getD (Zj l (3:Int) (6:Int)).2 (Int.toNat (Zf t (Int.ofNat (List.length (Zj l (3:Int) (6:Int)).2)))) (dflt (.sl Za)))))*(1:Int))≤(limit:Int)))) (.jmp (.l9 (List.replicate (List.length (List.getD (Zj l (3:Int) (6:Int)).2 (Int.toNat (Zf t (Int.ofNat (List.length (Zj l (3:Int) (6:Int)).2)))) (dflt (.sl Za)))) false) (0:Int))) (.no)) (.no)) (.no))) (.no)
def ZfX:Bool→AV:=fun (r:Bool)=>.d .bool r
def Zbx (l:List (List (El Zr))) (t:Int) (points:List Int):Zdg→Nat×St |.l9 is i=>(9,⟨mkTm 103 [(1,.d (.int .i64) (Zf t (Int.ofNat (List.length (Zj l (3:Int) (6:Int)).2)))),(2,.d (.sl (.int .i64)) points),(7,.pt 8 0 0),(8,.own 9 0 none),(9,.d (.int .i64) i)],[(8,0,.box 27 [.own 8193 0 none,.own 8194 0 none] none),(9,0,.row 4 .bool is false),(8193,0,.row 45 Zx (Zj l (3:Int) (6:Int)).1 false),(8194,0,.row 34 (.sl Za) (Zj l (3:Int) (6:Int)).2 false)]⟩) |.l11 is h i=>(11,⟨mkTm 103 [(1,.d (.int .i64) (Zf t (Int.ofNat (List.length (Zj l (3:Int) (6:Int)).2)))),(2,.d (.sl (.int .i64)) points),(7,.pt 8 0 0),(8,.own 9 0 none),(9,.d (.int .i64) i),(40,.d .bool h)],[(8,0,.box 27 [.own 8193 0 none,.own 8194 0 none] none),(9,0,.row 4 .bool is false),(8193,0,.row 45 Zx (Zj l (3:Int) (6:Int)).1 false),(8194,0,.row 34 (.sl Za) (Zj l (3:Int) (6:Int)).2 false)]⟩) |.l20 all left i=>(20,⟨mkTm 103 [(1,.d (.int .i64) (Zf t (Int.ofNat (List.length (Zj l (3:Int) (6:Int)).2)))),(7,.pt 8 0 0),(10,.d (.sl (.int .i64)) all),(11,.d (.sl (.int .i64)) left),(12,.d (.int .i64) i)],[(8,0,.box 27 [.own 8193 0 none,.own 8194 0 none] none),(8193,0,.row 45 Zx (Zj l (3:Int) (6:Int)).1 false),(8194,0,.row 34 (.sl Za) (Zj l (3:Int) (6:Int)).2 false)]⟩)
theorem Zwv (l:List (List (El Zr))) (t:Int) (points:List Int) (L:Lt):entryA Go.Proofs.Tryz.prog (clOf ZiK) ZmP Go.Proofs.Tryz.f3 Zfy L (toForms Zab (l,t,points,()))=(Zij l t points).run (fun v=>some (ZfX v,tps (toForms Zab (l,t,points,())))) fun j=>L (Zbx l t points j).1 (Zbx l t points j).2:=by kernel_rfl
theorem Zvq (l:List (List (El Zr))) (t:Int) (points:List Int):∀(L:Lt) (j:Zdg),procOf (procsF Go.Proofs.Tryz.prog (clOf ZiK) ZmP Go.Proofs.Tryz.f3 Zfy (toForms Zab (l,t,points,()))) (Zbx l t points j).1 L (Zbx l t points j).2=(Zag l t points j).run (fun v=>some (ZfX v,tps (toForms Zab (l,t,points,())))) fun j=>L (Zbx l t points j).1 (Zbx l t points j).2 | L,.l9 is i=>by kernel_rfl | L,.l11 is h i=>by kernel_rfl | L,.l20 all left i=>by kernel_rfl
end
end Go.Ev
end

section
open Go Go.Ev
namespace Go.Ev
noncomputable section
end
end Go.Ev
end

section
open Go
namespace Go.Ev
theorem len0 {α:Type} (l:List α):((Int.ofNat l.length)==(0:Int))=decide (l.length=0):=by
 rw[Bool.eq_iff_iff,beq_iff_eq,decide_eq_true_eq]
 simp
section
variable {p:El Zc} (hF:CutF p) (t:Int)
include hF
theorem ZLy:ZcA (Zk p) t=true∧ZcA (Zv p) t=true:=⟨decide_eq_true (by have:=hF.lp;omega),decide_eq_true (by have:=hF.lo;omega)⟩
theorem ZPx {pts:List Int} (hp:pts.length < 1000000000) (hr:rightT p t=true):ZaB (thrT p t) (allT p t) pts=true∧ZbA (thrT p t) (allT p t) pts=true:=by
 obtain ⟨f1,f2,_⟩:=hF.flow t hr
 have hl:=ZLH hF t
 unfold ZaB ZbA
 rw[f1,decide_eq_true (show pts.length < 4611686018427387904 by omega),decide_eq_true (show pts.length < 1000000000000 by omega),decide_eq_true (show (allT p t).length < 1000000000000 by omega)]
 exact ⟨rfl,rfl⟩
theorem Zxh {pts:List Int} (hp:pts.length < 1000000000):Zbb p t pts=true∧ZaV p t pts=(rightT p t&&decide (((allT p t).filter (uB (thrT p t) pts)).length=0)):=by
 obtain ⟨r1,r2⟩:=hF.right t
 unfold Zbb ZaV
 rw[r1,r2]
 cases hr:rightT p t with
 | false=>exact ⟨rfl,rfl⟩
 | true=>
  obtain ⟨f1,f2,_⟩:=hF.flow t hr
  have h1:=(ZPx hF t hp hr).1
  have h2:ZaB (List.getD p.2 (Int.toNat t) (dflt (.sl Za))) (Z5 (Zk p) t) pts=true:=h1
  have hv:ZbB (List.getD p.2 (Int.toNat t) (dflt (.sl Za))) (Z5 (Zk p) t) pts=(allT p t).filter (uB (thrT p t) pts):=rfl
  rw[f2,hF.kp,(ZLy hF t).1,h2,hv,len0]
  exact ⟨rfl,rfl⟩
theorem ZNg {pts:List Int} (hp:pts.length < 1000000000):ZlT p t pts=true∧Zfl p t pts=if rightT p t=true then pruneV (uB (thrT p t)) (thrT p t).length (allT p t) pts else []:=by
 obtain ⟨r1,r2⟩:=hF.right t
 unfold ZlT Zfl
 rw[r1,r2]
 cases hr:rightT p t with
 | false=>exact ⟨rfl,rfl⟩
 | true=>
  obtain ⟨f1,f2,_⟩:=hF.flow t hr
  have h2:ZbA (List.getD p.2 (Int.toNat t) (dflt (.sl Za))) (Z5 (Zk p) t) pts=true:=(ZPx hF t hp hr).2
  have hv:ZaP (List.getD p.2 (Int.toNat t) (dflt (.sl Za))) (Z5 (Zk p) t) pts=pruneV (uB (thrT p t)) (thrT p t).length (allT p t) pts:=rfl
  rw[f2,hF.kp,(ZLy hF t).1,h2,hv]
  generalize pruneV (uB (thrT p t)) (thrT p t).length (allT p t) pts=X
  exact ⟨rfl,rfl⟩
theorem ZMc:Ze5 p t=true∧ZbQ p t=if rightT p t=true then pointsV (uB (thrT p t)) (thrT p t).length (allT p t) (opT p t) else []:=by
 obtain ⟨r1,r2⟩:=hF.right t
 unfold Ze5 ZbQ
 rw[r1,r2]
 cases hr:rightT p t with
 | false=>exact ⟨rfl,rfl⟩
 | true=>
  have hv:ZbH p t (Zk p) (Zv p)=pointsV (uB (thrT p t)) (thrT p t).length (allT p t) (opT p t):=rfl
  rw[hF.kp,hF.ko,ZxM hF hr,hv]
  generalize pointsV (uB (thrT p t)) (thrT p t).length (allT p t) (opT p t)=X
  exact ⟨rfl,rfl⟩
end
end Go.Ev
end

/- Part of the proof of: A program that the book makes, with one thing of it changed and then another one, may be by the code exactly when it may be by the document: for every input the law answers true. -/
import Derived.Test.YtfjbbffkibcijaaDoorCon0
set_option maxRecDepth 100000
set_option linter.unusedSectionVars false
set_option linter.unusedVariables false
set_option linter.unusedSimpArgs false
section
open Go
namespace Go.Ev
def rawFrom (s:ByteArray):Nat→Nat→Int→Int→List (El Zd)
 | 0,_,_,_=>[]
 | n+1,pos,line,col=>
  if pos < s.size then
   spotAt s pos line col false :: rawFrom s n (pos+(Utf8.decode s pos).2) (ZI line col (Int.ofNat (Utf8.decode s pos).1)).1 (ZI line col (Int.ofNat (Utf8.decode s pos).1)).2
  else []
def tellBad (x:El Zd):El Zd:=(x.1,x.2.1,x.2.2.1,x.2.2.2.1,x.2.2.2.2.1,x.1==(65533:Int)&&x.2.2.1==(1:Int))
def noSize (x:El Zd):El Zd:=(x.1,x.2.1,0,x.2.2.2.1,x.2.2.2.2.1,x.2.2.2.2.2)
theorem ZsG (s:ByteArray):∀(n pos:Nat) (line col:Int),(rawFrom s n pos line col).map tellBad=spotsFrom s n pos line col
 | 0,_,_,_=>rfl
 | n+1,pos,line,col=>by
  unfold rawFrom spotsFrom
  split
  ·rw[List.map_cons,ZsG s n]
   congr 1
   unfold tellBad spotAt badAt
   have e1:(Int.ofNat (Utf8.decode s pos).1==(65533:Int))=decide ((Utf8.decode s pos).1=65533):=by rw[Bool.eq_iff_iff];simp <;> omega
   have e2:(Int.ofNat (Utf8.decode s pos).2==(1:Int))=decide ((Utf8.decode s pos).2=1):=by rw[Bool.eq_iff_iff];simp <;> omega
   simp only[e1,e2]
  ·rfl
def ZD (s:ByteArray):List (El Zd):=spots s
def Zgu (s:ByteArray):Bool:=smallText s
theorem Zs4 (s:ByteArray) (hk:Zgu s=true):Goes (Zaj s) (Zhx s) (ZD s):=by
 have hs:s.size < 549755813888:=of_decide_eq_true hk
 have loop2:∀(rest pre:List (El Zd)),pre.length+rest.length≤s.size→(∀x∈rest,x.2.2.2.2.2=false)→Goes (Zaj s) (.jmp (.l18 (pre++rest) (pre.length:Int))) (pre++rest.map tellBad):=by
  intro rest
  induction rest with
  | nil=>
   intro pre _ _
   rw[Zq]
   simp[Zaj,Zs,ZC]
  | cons x rest ih=>
   intro pre hl hx
   rw[Zq]
   have hk:pre.length < (pre++x :: rest).length:=by simp
   have hg:(pre++x :: rest).getD pre.length (dflt Zd)=x:=by simp[List.getD]
   have hset:∀y,(pre++x :: rest).set pre.length y=pre++y :: rest:=fun y=>by simp
   have hl':(pre++x :: rest).length≤s.size:=by simpa using hl
   simp only[Zaj,Zs,Zaz hk,nng,Bool.and_self,if_true,Int.toNat_natCast,hg,hset,ZF (k:=pre.length) (by omega)]
   have hb:x.2.2.2.2.2=false:=hx x (by simp)
   have key:∀b,b=(x.1==(65533:Int)&&x.2.2.1==(1:Int))→Goes (Zaj s) (.jmp (.l18 (pre++(x.1,x.2.1,x.2.2.1,x.2.2.2.1,x.2.2.2.2.1,b) :: rest) ((pre.length+1:Nat):Int))) (pre++(x :: rest).map tellBad):=by
    intro b e
    subst e
    have:=ih (pre++[tellBad x]) (by simp at hl ⊢;omega) (fun y hy=>hx y (by simp[hy]))
    simpa[tellBad] using this
   by_cases h:x.1=65533
   ·rw[if_pos (by simp[h])]
    exact key _ (by simp[h])
   ·rw[if_neg (by simp[h])]
    exact key _ (by simp[h])
 have raw_false:∀(n pos:Nat) (line col:Int),∀x∈rawFrom s n pos line col,x.2.2.2.2.2=false:=by
  intro n
  induction n with
  | zero=>intro pos line col x hx;simp[rawFrom] at hx
  | succ n ih=>
   intro pos line col x hx
   unfold rawFrom at hx
   split at hx
   ·rcases List.mem_cons.1 hx with rfl | hx
    ·rfl
    ·exact ih _ _ _ x hx
   ·simp at hx
 have loop1:∀(n pos:Nat) (line col:Int) (done:List (El Zd)) (out:List (El Zd)),s.size - pos < n→pos≤s.size→done.length≤pos→(∀x∈done,x.2.2.2.2.2=false)→
   ((done=[]∧out=[])∨∃ini x,done=ini++[x]∧out=ini++[noSize x]∧∃a m:Nat,x.2.1=(a:Int)∧x.2.2.1=(m:Int)∧a+m=pos)→
   Goes (Zaj s) (.jmp (.l5 line out pos col)) ((done++rawFrom s n pos line col).map tellBad):=by
  intro n
  induction n with
  | zero=>intro pos line col done out h;omega
  | succ n ih=>
   intro pos line col done out hn hp hd hfalse hinv
   rw[Zq]
   simp only[Zaj,Zs]
   by_cases h:pos < s.size
   ·have hle:=ZxV h
    have h1:=Zwn (s:=s) (pos:=pos)
    have hraw:rawFrom s (n+1) pos line col=spotAt s pos line col false :: rawFrom s n (pos+(Utf8.decode s pos).2) (ZI line col (Int.ofNat (Utf8.decode s pos).1)).1 (ZI line col (Int.ofNat (Utf8.decode s pos).1)).2:=by
     rw[rawFrom,if_pos h]
    have hnext:∀(l c:Int),l=(ZI line col (Int.ofNat (Utf8.decode s pos).1)).1→c=(ZI line col (Int.ofNat (Utf8.decode s pos).1)).2→
      Goes (Zaj s) (.jmp (.l5 l (done++[(Int.ofNat (Utf8.decode s pos).1,Int.ofNat pos,0,line,col,false)]) (pos+(Utf8.decode s pos).2) c)) ((done++rawFrom s (n+1) pos line col).map tellBad):=by
     intro l c el ec
     subst el;subst ec
     have e:∀(r:List (El Zd)),done++spotAt s pos line col false :: r=(done++[spotAt s pos line col false])++r:=fun r=>List.append_cons ..
     rw[hraw,e]
     refine ih (pos+(Utf8.decode s pos).2) _ _ (done++[spotAt s pos line col false]) _ (by omega) (by omega) (by simp <;> omega) ?_ (.inr ⟨done,spotAt s pos line col false,rfl,rfl,pos,(Utf8.decode s pos).2,rfl,rfl,rfl⟩)
     intro x hx
     rcases List.mem_append.1 hx with hx | hx
     ·exact hfalse x hx
     ·simp at hx;subst hx;rfl
    have hfin:if (Int.ofNat (Utf8.decode s pos).1==(10:Int))=true then
       Goes (Zaj s) (.jmp (.l5 (IntKind.i64.wrap (line+1)) (done++[(Int.ofNat (Utf8.decode s pos).1,Int.ofNat pos,0,line,col,false)]) (pos+(Utf8.decode s pos).2) 1)) ((done++rawFrom s (n+1) pos line col).map tellBad)
      else Goes (Zaj s) (.jmp (.l5 line (done++[(Int.ofNat (Utf8.decode s pos).1,Int.ofNat pos,0,line,col,false)]) (pos+(Utf8.decode s pos).2) (IntKind.i64.wrap (col+1)))) ((done++rawFrom s (n+1) pos line col).map tellBad):=by
     split
     ·rename_i hr
      exact hnext _ _ (by simp only[ZI,hr,cond_true]) (by simp only[ZI,hr,cond_true])
     ·rename_i hr
      rw[Bool.not_eq_true] at hr
      exact hnext _ _ (by simp only[ZI,hr,cond_false]) (by simp only[ZI,hr,cond_false])
    rcases hinv with ⟨rfl,rfl⟩ | ⟨ini,x,rfl,rfl,a,m,ha,hm,ham⟩
    ·have hb:Nat.ble ((([]:List (El Zd)).length+1)*48) limit=true:=by decide
     simp only[h,decide_true,if_true,hb]
     rw[if_neg (by simp)]
     exact hfin
    ·have hlen:(ini++[noSize x]).length=ini.length+1:=by simp
     have hd2:ini.length+1≤pos:=by simpa using hd
     have hw:IntKind.i64.wrap (Int.ofNat (ini++[noSize x]).length - 1)=(ini.length:Int):=by rw[hlen,wrap_i64 (by simp <;> omega) (by simp <;> omega)];simp
     have hg:(ini++[noSize x]).getD ini.length (dflt Zd)=noSize x:=by simp[List.getD]
     have hset:∀y,(ini++[noSize x]).set ini.length y=ini++[y]:=fun y=>by simp
     have hat:IntKind.i64.wrap (Int.ofNat pos - (noSize x).2.1)=x.2.2.1:=by
      show IntKind.i64.wrap (Int.ofNat pos - x.2.1)=_
      rw[ha,hm,wrap_i64 (by simp <;> omega) (by simp <;> omega)]
      simp;omega
     have hy:((noSize x).1,(noSize x).2.1,x.2.2.1,(noSize x).2.2.2)=x:=rfl
     have hgt:decide (Int.ofNat (ini++[noSize x]).length > 0)=true:=by rw[hlen];simp <;> omega
     have hb:Nat.ble (((ini++[x]).length+1)*48) limit=true:=by
      apply Nat.ble_eq_true_of_le;unfold limit;simp <;> omega
     have hlt:ini.length < (ini++[noSize x]).length:=by simp
     simp only[h,decide_true,if_true,hgt,hw,Zaz hlt,nng,Bool.and_self,Int.toNat_natCast,hg,hset,hat,hy,hb]
     exact hfin
   ·have hend:rawFrom s (n+1) pos line col=[]:=by rw[rawFrom,if_neg h]
    have hpos:pos=s.size:=by omega
    rw[hend,List.append_nil]
    simp only[h,decide_false]
    rw[if_neg (by simp)]
    rcases hinv with ⟨rfl,rfl⟩ | ⟨ini,x,rfl,rfl,a,m,ha,hm,ham⟩
    ·rw[if_neg (by simp)]
     exact loop2 [] [] (by simp) (by simp)
    ·have hlen:(ini++[noSize x]).length=ini.length+1:=by simp
     have hd2:ini.length+1≤pos:=by simpa using hd
     have hw:IntKind.i64.wrap (Int.ofNat (ini++[noSize x]).length - 1)=(ini.length:Int):=by rw[hlen,wrap_i64 (by simp <;> omega) (by simp <;> omega)];simp
     have hg:(ini++[noSize x]).getD ini.length (dflt Zd)=noSize x:=by simp[List.getD]
     have hset:∀y,(ini++[noSize x]).set ini.length y=ini++[y]:=fun y=>by simp
     have hat:IntKind.i64.wrap (Int.ofNat s.size - (noSize x).2.1)=x.2.2.1:=by
      show IntKind.i64.wrap (Int.ofNat s.size - x.2.1)=_
      rw[ha,hm,wrap_i64 (by simp <;> omega) (by simp <;> omega)]
      simp;omega
     have hy:((noSize x).1,(noSize x).2.1,x.2.2.1,(noSize x).2.2.2)=x:=rfl
     have hgt:decide (Int.ofNat (ini++[noSize x]).length > 0)=true:=by rw[hlen];simp <;> omega
     have hlt:ini.length < (ini++[noSize x]).length:=by simp
     simp only[if_true,hgt,hw,Zaz hlt,nng,Bool.and_self,Int.toNat_natCast,hg,hset,hat,hy]
     exact loop2 (ini++[x]) [] (by simp <;> omega) hfalse
 unfold Zhx ZD spots
 have:=loop1 (s.size+1) 0 1 1 [] [] (by omega) (by omega) (by simp) (by simp) (.inl ⟨rfl,rfl⟩)
 rw[List.nil_append,ZsG] at this
 exact this
end Go.Ev
end

section
open Go Go.Ev
namespace Go.Ev
noncomputable section
noncomputable def Zmw:Run:=entG ZcD Zgp (fun a=>Zgu a.1) (fun a=>ZD a.1)
theorem Zrl:EntOK Go.Proofs.Tryd.prog 40 Zmw:=ZaF (tb:=ZhH) (c:=Zf4) Zq3 (by kernel_rfl) (by kernel_rfl) (by kernel_rfl) (fun a=>by kernel_rfl) fun ⟨s,_⟩ hk=>Zo (c:=Zf4) (K:=fun v=>(Zgp v,tps (toForms ZcD (s,())))) (S:=ZbS s) (by kernel_rfl) (ZrJ s) (ZqB s) (Zs4 s hk)
end
end Go.Ev
end

section
open Go Go.Ev
namespace Go.Ev
noncomputable section
def Zc9:Sig:=[]
noncomputable def ZkJ:Tbl:=[]
theorem ZsV:∀p∈ZkJ,EntOK Go.Proofs.Tryd.prog p.1 p.2:=Zv
noncomputable def ZhJ:Code:=Go.Proofs.Tryd.f58.body.getD .skip
def Zjc:Tb:=[]
def ZoG:Empty→JT Empty (List ByteArray):=fun j=>nomatch j
def ZmT:JT Empty (List ByteArray):=.leaf ([(bs [114,97,120]),(bs [114,98,120]),(bs [114,99,120]),(bs [114,100,120]),(bs [114,115,105]),(bs [114,100,105]),(bs [114,56]),(bs [114,57])])
def Zar:List ByteArray:=([(bs [114,97,120]),(bs [114,98,120]),(bs [114,99,120]),(bs [114,100,120]),(bs [114,115,105]),(bs [114,100,105]),(bs [114,56]),(bs [114,57])])
theorem ZuZ:Goes (ZoG) (ZmT) (Zar):=Goes.leaf
def Zhf:List ByteArray→AV:=fun (r:List ByteArray)=>.rw 9 .str r
def ZcT:Empty→Nat×St:=fun j=>nomatch j
theorem Zs9 (L:Lt):entryA Go.Proofs.Tryd.prog (clOf ZkJ) Zjc Go.Proofs.Tryd.f58 ZhJ L (toForms Zc9 (()))=(ZmT).run (fun v=>some (Zhf v,tps (toForms Zc9 (())))) fun j=>L (ZcT j).1 (ZcT j).2:=by kernel_rfl
theorem Ztp:∀(L:Lt) (j:Empty),procOf (procsF Go.Proofs.Tryd.prog (clOf ZkJ) Zjc Go.Proofs.Tryd.f58 ZhJ (toForms Zc9 (()))) (ZcT j).1 L (ZcT j).2=(ZoG j).run (fun v=>some (Zhf v,tps (toForms Zc9 (())))) fun j=>L (ZcT j).1 (ZcT j).2:=fun L j=>nomatch j
noncomputable def Zol:Run:=entT Zc9 Zhf (fun a=>Zar)
theorem ZsC:EntOK Go.Proofs.Tryd.prog 58 Zol:=ZW (tb:=Zjc) (c:=ZhJ) ZsV (by kernel_rfl) (by kernel_rfl) (by kernel_rfl) (fun a=>by kernel_rfl) fun _=>Zo (c:=ZhJ) (K:=fun v=>(Zhf v,tps (toForms Zc9 (())))) (S:=ZcT) (by kernel_rfl) (Zs9) (Ztp) (ZuZ)
end
end Go.Ev
end

section
open Go Go.Ev
namespace Go.Ev
noncomputable section
def ZdI:Sig:=[]
noncomputable def Zmt:Tbl:=[]
theorem Zuz:∀p∈Zmt,EntOK Go.Proofs.Tryd.prog p.1 p.2:=Zv
noncomputable def ZjL:Code:=Go.Proofs.Tryd.f59.body.getD .skip
def ZkS:Tb:=[]
def Zp4:Empty→JT Empty (List ByteArray):=fun j=>nomatch j
def Zoo:JT Empty (List ByteArray):=.leaf ([(bs []),(bs [109,111,118]),(bs [97,100,100]),(bs [115,117,98]),(bs [97,110,100]),(bs [111,114]),(bs [120,111,114]),(bs [99,109,112]),(bs [120,99,104,103]),(bs [99,109,112,120,99,104,103]),(bs [106,109,112]),(bs []),(bs [109,102,101,110,99,101]),(bs [110,111,112]),(bs [104,108,116])])
def Za5:List ByteArray:=([(bs []),(bs [109,111,118]),(bs [97,100,100]),(bs [115,117,98]),(bs [97,110,100]),(bs [111,114]),(bs [120,111,114]),(bs [99,109,112]),(bs [120,99,104,103]),(bs [99,109,112,120,99,104,103]),(bs [106,109,112]),(bs []),(bs [109,102,101,110,99,101]),(bs [110,111,112]),(bs [104,108,116])])
theorem ZvR:Goes (Zp4) (Zoo) (Za5):=Goes.leaf
def ZjF:List ByteArray→AV:=fun (r:List ByteArray)=>.rw 9 .str r
def ZdX:Empty→Nat×St:=fun j=>nomatch j
theorem ZuA (L:Lt):entryA Go.Proofs.Tryd.prog (clOf Zmt) ZkS Go.Proofs.Tryd.f59 ZjL L (toForms ZdI (()))=(Zoo).run (fun v=>some (ZjF v,tps (toForms ZdI (())))) fun j=>L (ZdX j).1 (ZdX j).2:=by kernel_rfl
theorem ZuU:∀(L:Lt) (j:Empty),procOf (procsF Go.Proofs.Tryd.prog (clOf Zmt) ZkS Go.Proofs.Tryd.f59 ZjL (toForms ZdI (()))) (ZdX j).1 L (ZdX j).2=(Zp4 j).run (fun v=>some (ZjF v,tps (toForms ZdI (())))) fun j=>L (ZdX j).1 (ZdX j).2:=fun L j=>nomatch j
noncomputable def Zp9:Run:=entT ZdI ZjF (fun a=>Za5)
theorem Zul:EntOK Go.Proofs.Tryd.prog 59 Zp9:=ZW (tb:=ZkS) (c:=ZjL) Zuz (by kernel_rfl) (by kernel_rfl) (by kernel_rfl) (fun a=>by kernel_rfl) fun _=>Zo (c:=ZjL) (K:=fun v=>(ZjF v,tps (toForms ZdI (())))) (S:=ZdX) (by kernel_rfl) (ZuA) (ZuU) (ZvR)
end
end Go.Ev
end

section
open Go Go.Ev
namespace Go.Ev
noncomputable section
def Zch:Sig:=[]
noncomputable def Zjx:Tbl:=[]
theorem ZrO:∀p∈Zjx,EntOK Go.Proofs.Tryd.prog p.1 p.2:=Zv
noncomputable def ZfY:Code:=Go.Proofs.Tryd.f60.body.getD .skip
def Zip:Tb:=[]
def ZmM:Empty→JT Empty (List ByteArray):=fun j=>nomatch j
def Zlp:JT Empty (List ByteArray):=.leaf ([(bs []),(bs [106,101]),(bs [106,110,101]),(bs [106,108]),(bs [106,108,101]),(bs [106,103]),(bs [106,103,101]),(bs [106,98]),(bs [106,98,101]),(bs [106,97]),(bs [106,97,101])])
def ZaO:List ByteArray:=([(bs []),(bs [106,101]),(bs [106,110,101]),(bs [106,108]),(bs [106,108,101]),(bs [106,103]),(bs [106,103,101]),(bs [106,98]),(bs [106,98,101]),(bs [106,97]),(bs [106,97,101])])
theorem ZsH:Goes (ZmM) (Zlp) (ZaO):=Goes.leaf
def Zgr:List ByteArray→AV:=fun (r:List ByteArray)=>.rw 9 .str r
def Zb6:Empty→Nat×St:=fun j=>nomatch j
theorem Zra (L:Lt):entryA Go.Proofs.Tryd.prog (clOf Zjx) Zip Go.Proofs.Tryd.f60 ZfY L (toForms Zch (()))=(Zlp).run (fun v=>some (Zgr v,tps (toForms Zch (())))) fun j=>L (Zb6 j).1 (Zb6 j).2:=by kernel_rfl
theorem Zre:∀(L:Lt) (j:Empty),procOf (procsF Go.Proofs.Tryd.prog (clOf Zjx) Zip Go.Proofs.Tryd.f60 ZfY (toForms Zch (()))) (Zb6 j).1 L (Zb6 j).2=(ZmM j).run (fun v=>some (Zgr v,tps (toForms Zch (())))) fun j=>L (Zb6 j).1 (Zb6 j).2:=fun L j=>nomatch j
noncomputable def Zm6:Run:=entT Zch Zgr (fun a=>ZaO)
theorem ZrN:EntOK Go.Proofs.Tryd.prog 60 Zm6:=ZW (tb:=Zip) (c:=ZfY) ZrO (by kernel_rfl) (by kernel_rfl) (by kernel_rfl) (fun a=>by kernel_rfl) fun _=>Zo (c:=ZfY) (K:=fun v=>(Zgr v,tps (toForms Zch (())))) (S:=Zb6) (by kernel_rfl) (Zra) (Zre) (ZsH)
end
end Go.Ev
end

section
open Go Go.Ev
namespace Go.Ev
noncomputable section
def Zdh:Sig:=[(false,.str)]
noncomputable def ZkA:Tbl:=[(58,Zol),(45,Zgc),(59,Zp9),(60,Zm6)]
theorem Ztd:∀p∈ZkA,EntOK Go.Proofs.Tryd.prog p.1 p.2:=Zl ZsC (Zl Zhi (Zl Zul (Zl ZrN (Zv))))
noncomputable def ZhV:Code:=Go.Proofs.Tryd.f41.body.getD .skip
def Zjz:Tb:=[]
def Zk3 (s:ByteArray):Empty→JT Empty (Bool):=fun j=>nomatch j
def ZiU (s:ByteArray):JT Empty (Bool):=.br (! (eqB s (bs []))) (.br (eqB s (bs [115,121,109])) (.leaf true) (.br (eqB s (bs [116,104,114,101,97,100])) (.leaf true) (.br (eqB s (bs [108,111,99,107])) (.leaf true) (.br (ZM Zar s) (.br (decide ((ZB Zar s)≥(0:Int))) (.leaf true) (.br (ZM Za5 s) (.br (decide ((ZB Za5 s) > (0:Int))) (.leaf true) (.br (ZM ZaO s) (.leaf (decide ((ZB ZaO s) > (0:Int)))) (.no))) (.no))) (.no))))) (.leaf false)
def ZkC (s:ByteArray):Bool:=bif (! (eqB s (bs []))) then bif (eqB s (bs [115,121,109])) then true else bif (eqB s (bs [116,104,114,101,97,100])) then true else bif (eqB s (bs [108,111,99,107])) then true else bif (ZM Zar s) then bif (decide ((ZB Zar s)≥(0:Int))) then true else bif (ZM Za5 s) then bif (decide ((ZB Za5 s) > (0:Int))) then true else bif (ZM ZaO s) then (decide ((ZB ZaO s) > (0:Int))) else false else false else false else false
def ZiS (s:ByteArray):Bool:=bif (! (eqB s (bs []))) then bif (eqB s (bs [115,121,109])) then true else bif (eqB s (bs [116,104,114,101,97,100])) then true else bif (eqB s (bs [108,111,99,107])) then true else bif (ZM Zar s) then bif (decide ((ZB Zar s)≥(0:Int))) then true else bif (ZM Za5 s) then bif (decide ((ZB Za5 s) > (0:Int))) then true else bif (ZM ZaO s) then true else false else false else false else true
theorem Zt4 (s:ByteArray) (hk:ZiS s=true):Goes (Zk3 s) (ZiU s) (ZkC s):=Goes.brk hk (fun hk=>Goes.brk hk (fun hk=>Goes.leaf) (fun hk=>Goes.brk hk (fun hk=>Goes.leaf) (fun hk=>Goes.brk hk (fun hk=>Goes.leaf) (fun hk=>Goes.brk hk (fun hk=>Goes.brk hk (fun hk=>Goes.leaf) (fun hk=>Goes.brk hk (fun hk=>Goes.brk hk (fun hk=>Goes.leaf) (fun hk=>Goes.brk hk (fun hk=>Goes.leaf) (fun hk=>Goes.nok hk))) (fun hk=>Goes.nok hk))) (fun hk=>Goes.nok hk))))) (fun hk=>Goes.leaf)
def Zhy:Bool→AV:=fun (r:Bool)=>.d .bool r
def ZcU (s:ByteArray):Empty→Nat×St:=fun j=>nomatch j
theorem ZtH (s:ByteArray) (L:Lt):entryA Go.Proofs.Tryd.prog (clOf ZkA) Zjz Go.Proofs.Tryd.f41 ZhV L (toForms Zdh (s,()))=(ZiU s).run (fun v=>some (Zhy v,tps (toForms Zdh (s,())))) fun j=>L (ZcU s j).1 (ZcU s j).2:=by kernel_rfl
theorem ZtE (s:ByteArray):∀(L:Lt) (j:Empty),procOf (procsF Go.Proofs.Tryd.prog (clOf ZkA) Zjz Go.Proofs.Tryd.f41 ZhV (toForms Zdh (s,()))) (ZcU s j).1 L (ZcU s j).2=(Zk3 s j).run (fun v=>some (Zhy v,tps (toForms Zdh (s,())))) fun j=>L (ZcU s j).1 (ZcU s j).2:=fun L j=>nomatch j
end
end Go.Ev
end

section
open Go
namespace Go.Ev
def ZdU (s:ByteArray):Bool:=ZaQ s
theorem ZuI (s:ByteArray):Goes (Zk3 s) (ZiU s) (ZdU s):=by
 have hk:∀l:List ByteArray,l.length < 100→ZM l s=true:=fun l h=>decide_eq_true (by omega)
 have h1:ZM Zar s=true:=hk _ (by decide)
 have h2:ZM Za5 s=true:=hk _ (by decide)
 have h3:ZM ZaO s=true:=hk _ (by decide)
 have hku:ZiS s=true:=by
  unfold ZiS
  simp only[h1,h2,h3,cond_true]
  cases eqB s (bs []) <;> cases eqB s (bs [115,121,109]) <;> cases eqB s (bs [116,104,114,101,97,100]) <;> cases eqB s (bs [108,111,99,107]) <;> cases decide (ZB Zar s≥0) <;> cases decide (ZB Za5 s > 0) <;> rfl
 have hv:ZdU s=ZkC s:=by
  unfold ZdU ZkC ZaQ
  simp only[h1,h2,h3,cond_true,ZwS]
  have hr:decide (ZB Zar s≥0)=(findFrom s ZR 0).isSome:=by
   unfold ZB
   rw[show Zar=ZR from rfl]
   cases findFrom s ZR 0 <;> simp
  have hR:(Zc0 s).2=(findFrom s ZR 0).isSome:=by
   unfold Zc0
   cases findFrom s ZR 0 <;> rfl
  rw[hr,hR]
  by_cases h0:s=bs []
  ·subst h0
   decide
  have hidx:∀l:List ByteArray,decide (ZB (bs [] :: l) s > 0)=(findFrom s l 0).isSome:=by
   intro l
   unfold ZB
   rw[show findFrom s (bs [] :: l) 0=findFrom s l (0+1) by rw[findFrom,if_neg (fun e=>h0 e.symm)],Zkj (k:=0) (j:=0+1)]
   cases h:findFrom s l (0+1) with
   | none=>simp
   | some n=>have:=Zlb h;simp;omega
  have ho:=hidx ZZ
  have hj:=hidx ZL
  rw[show Za5=bs [] :: ZZ from rfl,ho,show ZaO=bs [] :: ZL from rfl,hj]
  have hO:(ZdM s).2.2=((findFrom s ZZ 0).isSome || (findFrom s ZL 0).isSome):=by
   unfold ZdM
   rw[if_neg h0]
   cases findFrom s ZZ 0 with
   | some k=>rfl
   | none=>cases findFrom s ZL 0 <;> rfl
  rw[hO]
  simp only[h0,decide_false,Bool.not_false,cond_true]
  cases (findFrom s ZZ 0).isSome <;> cases (findFrom s ZL 0).isSome <;> rfl
 rw[hv]
 exact Zt4 s hku
end Go.Ev
end

section
open Go Go.Ev
namespace Go.Ev
noncomputable section
noncomputable def Znz:Run:=entT Zdh Zhy (fun a=>ZdU a.1)
theorem Zs5:EntOK Go.Proofs.Tryd.prog 41 Znz:=ZW (tb:=Zjz) (c:=ZhV) Ztd (by kernel_rfl) (by kernel_rfl) (by kernel_rfl) (fun a=>by kernel_rfl) fun ⟨s,_⟩=>Zo (c:=ZhV) (K:=fun v=>(Zhy v,tps (toForms Zdh (s,())))) (S:=ZcU s) (by kernel_rfl) (ZtH s) (ZtE s) (ZuI s)
end
end Go.Ev
end

section
open Go Go.Ev
namespace Go.Ev
noncomputable section
def ZbN:Sig:=[(false,(.int .i32))]
noncomputable def Zir:Tbl:=[]
theorem Zo7:∀p∈Zir,EntOK Go.Proofs.Tryd.prog p.1 p.2:=Zv
noncomputable def Ze4:Code:=Go.Proofs.Tryd.f42.body.getD .skip
def ZgG:Tb:=[]
def Zk9 (r:Int):Empty→JT Empty (Bool):=fun j=>nomatch j
def Zkc (r:Int):JT Empty (Bool):=.br (decide (r≥(97:Int))) (.br (decide (r≤(122:Int))) (.leaf true) (.br (decide (r≥(65:Int))) (.br (decide (r≤(90:Int))) (.leaf true) (.br (r==(95:Int)) (.leaf true) (.br (decide (r≥(161:Int))) (.leaf (decide (r≤(1114111:Int)))) (.leaf false)))) (.br (r==(95:Int)) (.leaf true) (.br (decide (r≥(161:Int))) (.leaf (decide (r≤(1114111:Int)))) (.leaf false))))) (.br (decide (r≥(65:Int))) (.br (decide (r≤(90:Int))) (.leaf true) (.br (r==(95:Int)) (.leaf true) (.br (decide (r≥(161:Int))) (.leaf (decide (r≤(1114111:Int)))) (.leaf false)))) (.br (r==(95:Int)) (.leaf true) (.br (decide (r≥(161:Int))) (.leaf (decide (r≤(1114111:Int)))) (.leaf false))))
def ZeV (r:Int):Bool:=bif (decide (r≥(97:Int))) then bif (decide (r≤(122:Int))) then true else bif (decide (r≥(65:Int))) then bif (decide (r≤(90:Int))) then true else bif (r==(95:Int)) then true else bif (decide (r≥(161:Int))) then (decide (r≤(1114111:Int))) else false else bif (r==(95:Int)) then true else bif (decide (r≥(161:Int))) then (decide (r≤(1114111:Int))) else false else bif (decide (r≥(65:Int))) then bif (decide (r≤(90:Int))) then true else bif (r==(95:Int)) then true else bif (decide (r≥(161:Int))) then (decide (r≤(1114111:Int))) else false else bif (r==(95:Int)) then true else bif (decide (r≥(161:Int))) then (decide (r≤(1114111:Int))) else false
theorem ZqM (r:Int):Goes (Zk9 r) (Zkc r) (ZeV r):=Goes.br (Goes.br (Goes.leaf) (Goes.br (Goes.br (Goes.leaf) (Goes.br (Goes.leaf) (Goes.br (Goes.leaf) (Goes.leaf)))) (Goes.br (Goes.leaf) (Goes.br (Goes.leaf) (Goes.leaf))))) (Goes.br (Goes.br (Goes.leaf) (Goes.br (Goes.leaf) (Goes.br (Goes.leaf) (Goes.leaf)))) (Goes.br (Goes.leaf) (Goes.br (Goes.leaf) (Goes.leaf))))
def ZeR:Bool→AV:=fun (r:Bool)=>.d .bool r
def Zbi (r:Int):Empty→Nat×St:=fun j=>nomatch j
theorem Zpr (r:Int) (L:Lt):entryA Go.Proofs.Tryd.prog (clOf Zir) ZgG Go.Proofs.Tryd.f42 Ze4 L (toForms ZbN (r,()))=(Zkc r).run (fun v=>some (ZeR v,tps (toForms ZbN (r,())))) fun j=>L (Zbi r j).1 (Zbi r j).2:=by kernel_rfl
theorem ZpK (r:Int):∀(L:Lt) (j:Empty),procOf (procsF Go.Proofs.Tryd.prog (clOf Zir) ZgG Go.Proofs.Tryd.f42 Ze4 (toForms ZbN (r,()))) (Zbi r j).1 L (Zbi r j).2=(Zk9 r j).run (fun v=>some (ZeR v,tps (toForms ZbN (r,())))) fun j=>L (Zbi r j).1 (Zbi r j).2:=fun L j=>nomatch j
noncomputable def Zl0:Run:=entT ZbN ZeR (fun a=>ZeV a.1)
theorem Zpw:EntOK Go.Proofs.Tryd.prog 42 Zl0:=ZW (tb:=ZgG) (c:=Ze4) Zo7 (by kernel_rfl) (by kernel_rfl) (by kernel_rfl) (fun a=>by kernel_rfl) fun ⟨r,_⟩=>Zo (c:=Ze4) (K:=fun v=>(ZeR v,tps (toForms ZbN (r,())))) (S:=Zbi r) (by kernel_rfl) (Zpr r) (ZpK r) (ZqM r)
end
end Go.Ev
end

section
open Go Go.Ev
namespace Go.Ev
noncomputable section
def Zcr:Sig:=[(false,(.int .i32))]
noncomputable def ZiH:Tbl:=[]
theorem Zr9:∀p∈ZiH,EntOK Go.Proofs.Tryd.prog p.1 p.2:=Zv
noncomputable def ZfX:Code:=Go.Proofs.Tryd.f43.body.getD .skip
def Zhq:Tb:=[]
def Zmv (r:Int):Empty→JT Empty (Bool):=fun j=>nomatch j
def ZlY (r:Int):JT Empty (Bool):=.br (decide (r≥(48:Int))) (.leaf (decide (r≤(57:Int)))) (.leaf false)
def Zgd (r:Int):Bool:=bif (decide (r≥(48:Int))) then (decide (r≤(57:Int))) else false
theorem Ztl (r:Int):Goes (Zmv r) (ZlY r) (Zgd r):=Goes.br (Goes.leaf) (Goes.leaf)
def ZfW:Bool→AV:=fun (r:Bool)=>.d .bool r
def ZbY (r:Int):Empty→Nat×St:=fun j=>nomatch j
theorem ZqK (r:Int) (L:Lt):entryA Go.Proofs.Tryd.prog (clOf ZiH) Zhq Go.Proofs.Tryd.f43 ZfX L (toForms Zcr (r,()))=(ZlY r).run (fun v=>some (ZfW v,tps (toForms Zcr (r,())))) fun j=>L (ZbY r j).1 (ZbY r j).2:=by kernel_rfl
theorem ZrV (r:Int):∀(L:Lt) (j:Empty),procOf (procsF Go.Proofs.Tryd.prog (clOf ZiH) Zhq Go.Proofs.Tryd.f43 ZfX (toForms Zcr (r,()))) (ZbY r j).1 L (ZbY r j).2=(Zmv r j).run (fun v=>some (ZfW v,tps (toForms Zcr (r,())))) fun j=>L (ZbY r j).1 (ZbY r j).2:=fun L j=>nomatch j
noncomputable def ZmG:Run:=entT Zcr ZfW (fun a=>Zgd a.1)
theorem ZqV:EntOK Go.Proofs.Tryd.prog 43 ZmG:=ZW (tb:=Zhq) (c:=ZfX) Zr9 (by kernel_rfl) (by kernel_rfl) (by kernel_rfl) (fun a=>by kernel_rfl) fun ⟨r,_⟩=>Zo (c:=ZfX) (K:=fun v=>(ZfW v,tps (toForms Zcr (r,())))) (S:=ZbY r) (by kernel_rfl) (ZqK r) (ZrV r) (Ztl r)
end
end Go.Ev
end

section
open Go Go.Ev
namespace Go.Ev
noncomputable section
def Zcm:Sig:=[(false,.str)]
noncomputable def ZiJ:Tbl:=[(40,Zmw),(41,Znz),(42,Zl0),(43,ZmG)]
theorem ZqW:∀p∈ZiJ,EntOK Go.Proofs.Tryd.prog p.1 p.2:=Zl Zrl (Zl Zs5 (Zl Zpw (Zl ZqV (Zv))))
noncomputable def Zgf:Code:=Go.Proofs.Tryd.f21.body.getD .skip
def ZhT:Tb:=[(7,⟨[3,4],[]⟩)]
inductive Zeo where | l7 (i:Int)
def Zel (s:ByteArray):Zeo→JT Zeo (Bool) |.l7 i=>.br (decide (i < (Int.ofNat (List.length (ZD s))))) (.br ((decide ((0:Int)≤i))&&(decide (i < (Int.ofNat (List.length (ZD s)))))) (.br (List.getD (ZD s) (Int.toNat i) (dflt Zd)).2.2.2.2.2 (.leaf false) (.br ((decide ((0:Int)≤i))&&(decide (i < (Int.ofNat (List.length (ZD s)))))) (.br (! (ZeV (List.getD (ZD s) (Int.toNat i) (dflt Zd)).1)) (.br (i==(0:Int)) (.leaf false) (.br ((decide ((0:Int)≤i))&&(decide (i < (Int.ofNat (List.length (ZD s)))))) (.br (! (Zgd (List.getD (ZD s) (Int.toNat i) (dflt Zd)).1)) (.leaf false) (.jmp (.l7 (IntKind.i64.wrap (i+(1:Int)))))) (.no))) (.jmp (.l7 (IntKind.i64.wrap (i+(1:Int)))))) (.no))) (.no)) (.leaf true)
def Zis (s:ByteArray):JT Zeo (Bool):=.br (Zgu s) (.br (decide ((Int.ofNat (List.length (ZD s))) < (1:Int))) (.leaf false) (.br (decide ((Int.ofNat (List.length (ZD s))) > (16:Int))) (.leaf false) (.br (ZdU s) (.leaf false) (.jmp (.l7 (0:Int)))))) (.no)
def Zgq:Bool→AV:=fun (r:Bool)=>.d .bool r
def Zb1 (s:ByteArray):Zeo→Nat×St |.l7 i=>(7,⟨mkTm 52 [(3,.own 4 0 none),(4,.d (.int .i64) i)],[(4,0,.row 78 Zd (ZD s) false)]⟩)
theorem Zsj (s:ByteArray) (L:Lt):entryA Go.Proofs.Tryd.prog (clOf ZiJ) ZhT Go.Proofs.Tryd.f21 Zgf L (toForms Zcm (s,()))=(Zis s).run (fun v=>some (Zgq v,tps (toForms Zcm (s,())))) fun j=>L (Zb1 s j).1 (Zb1 s j).2:=by kernel_rfl
theorem Zrx (s:ByteArray):∀(L:Lt) (j:Zeo),procOf (procsF Go.Proofs.Tryd.prog (clOf ZiJ) ZhT Go.Proofs.Tryd.f21 Zgf (toForms Zcm (s,()))) (Zb1 s j).1 L (Zb1 s j).2=(Zel s j).run (fun v=>some (Zgq v,tps (toForms Zcm (s,())))) fun j=>L (Zb1 s j).1 (Zb1 s j).2 | L,.l7 i=>by kernel_rfl
end
end Go.Ev
end

section
open Go
namespace Go.Ev
def Zbf (s:ByteArray):Bool:=nameRight s
def Zax (s:ByteArray):Bool:=smallText s
theorem ZtJ (s:ByteArray) (hk:Zax s=true):Goes (Zel s) (Zis s) (Zbf s):=by
 have hs:s.size < 549755813888:=of_decide_eq_true hk
 have hl:(ZD s).length≤s.size:=Zmy s
 have loop:∀k,k≤(ZD s).length→Goes (Zel s) (.jmp (.l7 (k:Int))) (spotsOK k ((ZD s).drop k)):=by
  refine down ?_ fun k hk ih=>?_
  ·rw[Zq]
   simp[Zel,Zs,ZC,spotsOK]
  ·rw[Zq]
   dsimp only[Zel]
   simp only[Zs,ZC,Zaz hk,nng,Bool.and_self,if_true,Int.toNat_natCast,ZV hk,ZF (k:=k) (by omega)]
   rw[ZY hk,spotsOK]
   generalize (ZD s)[k]=x at*
   unfold spotOK
   rw[show ZeV=ZaW from rfl,show Zgd=Zbg from rfl]
   cases x.2.2.2.2.2
   ·cases ZaW x.1
    ·by_cases h0:k=0
     ·subst h0;simp
     ·have e1:((k:Int)==0)=false:=by rw[Bool.eq_false_iff];simp;omega
      have e2:(k==0)=false:=by rw[Bool.eq_false_iff];simpa using h0
      cases Zbg x.1
      ·simp[e1,e2]
      ·simpa[e1,e2] using ih
    ·simpa using ih
   ·simp
 have hv:Zbf s=(spotsOK 0 (ZD s)&&(decide (1≤(ZD s).length)&&(decide ((ZD s).length≤16)&& !ZaQ s))):=rfl
 rw[hv]
 unfold Zis
 simp only[Zs,show Zgu s=true from hk,if_true,ZdU,ZC]
 by_cases h1:1≤(ZD s).length
 ·by_cases h2:(ZD s).length≤16
  ·cases ZaQ s
   ·rw[if_neg (by simp <;> omega),if_neg (by simp <;> omega)]
    simpa[h1,h2] using loop 0 (Nat.zero_le _)
   ·rw[if_neg (by simp <;> omega),if_neg (by simp <;> omega)]
    simp
  ·rw[if_neg (by simp <;> omega),if_pos (by simp <;> omega)]
   simp[h2]
 ·rw[if_pos (by simp <;> omega)]
  simp[h1]
end Go.Ev
end

section
open Go Go.Ev
namespace Go.Ev
noncomputable section
noncomputable def ZfP:Run:=entG Zcm Zgq (fun a=>Zax a.1) (fun a=>Zbf a.1)
theorem Zht:EntOK Go.Proofs.Tryd.prog 21 ZfP:=ZaF (tb:=ZhT) (c:=Zgf) ZqW (by kernel_rfl) (by kernel_rfl) (by kernel_rfl) (fun a=>by kernel_rfl) fun ⟨s,_⟩ hk=>Zo (c:=Zgf) (K:=fun v=>(Zgq v,tps (toForms Zcm (s,())))) (S:=Zb1 s) (by kernel_rfl) (Zsj s) (Zrx s) (ZtJ s hk)
end
end Go.Ev
end

section
open Go Go.Ev
namespace Go.Ev
noncomputable section
def Zct:Sig:=[(true,(.sl Zb))]
noncomputable def ZiF:Tbl:=[]
theorem ZqC:∀p∈ZiF,EntOK Go.Proofs.Tryd.prog p.1 p.2:=Zv
noncomputable def Zgs:Code:=Go.Proofs.Tryd.f44.body.getD .skip
def Ziq:Tb:=[(4,⟨[1,3,4],[]⟩)]
inductive Zef where | l4 (n:Int) (i:Int)
def Zej (t:List (El Zb)):Zef→JT Zef (Int) |.l4 n i=>.br (decide (i < (Int.ofNat (List.length t)))) (.br ((decide ((0:Int)≤i))&&(decide (i < (Int.ofNat (List.length t))))) (.br ((List.getD t (Int.toNat i) (dflt Zb)).1 !=(12:Int)) (.jmp (.l4 (IntKind.i64.wrap (n+(1:Int))) (IntKind.i64.wrap (i+(1:Int))))) (.jmp (.l4 n (IntKind.i64.wrap (i+(1:Int)))))) (.no)) (.leaf n)
def Zhh (t:List (El Zb)):JT Zef (Int):=.jmp (.l4 (0:Int) (0:Int))
def Zf2:Int→AV:=fun (r:Int)=>.d (.int .i64) r
def Zb3 (t:List (El Zb)):Zef→Nat×St |.l4 n i=>(4,⟨mkTm 22 [(1,.pt 2 0 0),(3,.d (.int .i64) n),(4,.d (.int .i64) i)],[(2,0,.box 39 [.d (.sl Zb) t] none)]⟩)
theorem Zrq (t:List (El Zb)) (L:Lt):entryA Go.Proofs.Tryd.prog (clOf ZiF) Ziq Go.Proofs.Tryd.f44 Zgs L (toForms Zct (t,()))=(Zhh t).run (fun v=>some (Zf2 v,tps (toForms Zct (t,())))) fun j=>L (Zb3 t j).1 (Zb3 t j).2:=by kernel_rfl
theorem Zqz (t:List (El Zb)):∀(L:Lt) (j:Zef),procOf (procsF Go.Proofs.Tryd.prog (clOf ZiF) Ziq Go.Proofs.Tryd.f44 Zgs (toForms Zct (t,()))) (Zb3 t j).1 L (Zb3 t j).2=(Zej t j).run (fun v=>some (Zf2 v,tps (toForms Zct (t,())))) fun j=>L (Zb3 t j).1 (Zb3 t j).2 | L,.l4 n i=>by kernel_rfl
end
end Go.Ev
end

section
open Go
namespace Go.Ev
def Zeg (t:List (El Zb)):Int:=(countM t:Int)
def ZfS (t:List (El Zb)):Bool:=decide (t.length < 1099511627776)
theorem Zs7 (t:List (El Zb)) (hk:ZfS t=true):Goes (Zej t) (Zhh t) (Zeg t):=by
 have hn:t.length < 1099511627776:=of_decide_eq_true hk
 have loop:∀k,k≤t.length→∀n:Nat,n≤k→Goes (Zej t) (.jmp (.l4 (n:Int) (k:Int))) ((n+countM (t.drop k):Nat):Int):=by
  refine down ?_ fun k hk ih=>?_
  ·intro n hnk
   rw[Zq]
   simp only[Zej,Zs,ZT (Nat.lt_irrefl _),ZC,List.drop_length]
   simp[countM]
  ·intro n hnk
   rw[Zq]
   simp only[Zej,Zs,Zaz hk,nng,Bool.and_self,if_true,Int.toNat_natCast,ZV hk,ZF (k:=k) (by omega),ZF (k:=n) (by omega)]
   rw[ZY hk]
   unfold countM
   rw[List.filter_cons]
   split
   ·rename_i h
    have:=ih (n+1) (by omega)
    unfold countM at this
    rw[List.length_cons,show n+((List.filter (fun i=>i.1 !=(12:Int)) (List.drop (k+1) t)).length+1)=n+1+(List.filter (fun i=>i.1 !=(12:Int)) (List.drop (k+1) t)).length by omega]
    exact this
   ·exact ih n (by omega)
 have:=loop 0 (Nat.zero_le _) 0 (Nat.le_refl _)
 unfold Zhh Zeg
 simpa using this
end Go.Ev
end

section
open Go Go.Ev
namespace Go.Ev
noncomputable section
noncomputable def ZmE:Run:=entG Zct Zf2 (fun a=>ZfS a.1) (fun a=>Zeg a.1)
theorem ZrF:EntOK Go.Proofs.Tryd.prog 44 ZmE:=ZaF (tb:=Ziq) (c:=Zgs) ZqC (by kernel_rfl) (by kernel_rfl) (by kernel_rfl) (fun a=>by kernel_rfl) fun ⟨t,_⟩ hk=>Zo (c:=Zgs) (K:=fun v=>(Zf2 v,tps (toForms Zct (t,())))) (S:=Zb3 t) (by kernel_rfl) (Zrq t) (Zqz t) (Zs7 t hk)
end
end Go.Ev
end

section
open Go Go.Ev
namespace Go.Ev
noncomputable section
def ZaG:Sig:=[(true,Zb)]
noncomputable def ZfH:Tbl:=[(61,Zql),(48,Zjh),(21,ZfP)]
theorem Zna:∀p∈ZfH,EntOK Go.Proofs.Tryd.prog p.1 p.2:=Zl Zva (Zl ZlG (Zl Zht (Zv)))
noncomputable def ZdB:Code:=Go.Proofs.Tryd.f46.body.getD .skip
def ZeD:Tb:=[(2,⟨[1,26,34,37,44,47],[]⟩),(5,⟨[1,49],[]⟩)]
inductive Zb5 where | l2 (h:Bool) | l5 (h:Bool)
def Zb2 (i:El Zb):Zb5→JT Zb5 (Int) |.l2 h=>.br h (.leaf (4:Int)) (.br (i.1==(11:Int)) (.br (decide (i.2.2.1 < (1:Int))) (.jmp (.l5 true)) (.br (decide (i.2.2.1 > (10:Int))) (.jmp (.l5 true)) (.br (i.1 !=(11:Int)) (.jmp (.l5 (i.2.2.1 !=(0:Int)))) (.jmp (.l5 false))))) (.br (i.1 !=(11:Int)) (.jmp (.l5 (i.2.2.1 !=(0:Int)))) (.jmp (.l5 false)))) |.l5 h=>.br h (.leaf (4:Int)) (.br (Zal i.1) (.br (Zax i.2.2.2.2.2.1) (.br (! (Zbf i.2.2.2.2.2.1)) (.leaf (3:Int)) (.leaf (0:Int))) (.no)) (.leaf (0:Int)))
def Zex (i:El Zb):JT Zb5 (Int):=.br (decide (i.1 < (1:Int))) (.jmp (.l2 true)) (.br (decide (i.1 > (14:Int))) (.jmp (.l2 true)) (.br (! (ZK i)) (.jmp (.l2 true)) (.br (! (Zal i.1)) (.jmp (.l2 (! (eqB i.2.2.2.2.2.1 (bs []))))) (.jmp (.l2 false)))))
def Z1 (i:El Zb) (h:Bool):Int:=bif h then (4:Int) else bif (Zal i.1) then bif (Zax i.2.2.2.2.2.1) then bif (! (Zbf i.2.2.2.2.2.1)) then (3:Int) else (0:Int) else (0:Int) else (0:Int)
def Z0 (i:El Zb) (h:Bool):Bool:=bif h then true else bif (Zal i.1) then bif (Zax i.2.2.2.2.2.1) then bif (! (Zbf i.2.2.2.2.2.1)) then true else true else false else true
theorem Zao (i:El Zb) (h:Bool) (hk:Z0 i h=true):Goes (Zb2 i) (.jmp (.l5 h)) (Z1 i h):=Goes.jmp (Goes.brk hk (fun hk=>Goes.leaf) (fun hk=>Goes.brk hk (fun hk=>Goes.brk hk (fun hk=>Goes.brk hk (fun hk=>Goes.leaf) (fun hk=>Goes.leaf)) (fun hk=>Goes.nok hk)) (fun hk=>Goes.leaf)))
def Zab (i:El Zb) (h:Bool):Int:=bif h then (4:Int) else bif (i.1==(11:Int)) then bif (decide (i.2.2.1 < (1:Int))) then Z1 i true else bif (decide (i.2.2.1 > (10:Int))) then Z1 i true else bif (i.1 !=(11:Int)) then Z1 i (i.2.2.1 !=(0:Int)) else Z1 i false else bif (i.1 !=(11:Int)) then Z1 i (i.2.2.1 !=(0:Int)) else Z1 i false
def Zaa (i:El Zb) (h:Bool):Bool:=bif h then true else bif (i.1==(11:Int)) then bif (decide (i.2.2.1 < (1:Int))) then Z0 i true else bif (decide (i.2.2.1 > (10:Int))) then Z0 i true else bif (i.1 !=(11:Int)) then Z0 i (i.2.2.1 !=(0:Int)) else Z0 i false else bif (i.1 !=(11:Int)) then Z0 i (i.2.2.1 !=(0:Int)) else Z0 i false
theorem ZaR (i:El Zb) (h:Bool) (hk:Zaa i h=true):Goes (Zb2 i) (.jmp (.l2 h)) (Zab i h):=Goes.jmp (Goes.brk hk (fun hk=>Goes.leaf) (fun hk=>Goes.brk hk (fun hk=>Goes.brk hk (fun hk=>Zao i true hk) (fun hk=>Goes.brk hk (fun hk=>Zao i true hk) (fun hk=>Goes.brk hk (fun hk=>Zao i (i.2.2.1 !=(0:Int)) hk) (fun hk=>Zao i false hk)))) (fun hk=>Goes.brk hk (fun hk=>Zao i (i.2.2.1 !=(0:Int)) hk) (fun hk=>Zao i false hk))))
def ZdE (i:El Zb):Int:=bif (decide (i.1 < (1:Int))) then Zab i true else bif (decide (i.1 > (14:Int))) then Zab i true else bif (! (ZK i)) then Zab i true else bif (! (Zal i.1)) then Zab i (! (eqB i.2.2.2.2.2.1 (bs []))) else Zab i false
def Zew (i:El Zb):Bool:=bif (decide (i.1 < (1:Int))) then Zaa i true else bif (decide (i.1 > (14:Int))) then Zaa i true else bif (! (ZK i)) then Zaa i true else bif (! (Zal i.1)) then Zaa i (! (eqB i.2.2.2.2.2.1 (bs []))) else Zaa i false
theorem Znk (i:El Zb) (hk:Zew i=true):Goes (Zb2 i) (Zex i) (ZdE i):=Goes.brk hk (fun hk=>ZaR i true hk) (fun hk=>Goes.brk hk (fun hk=>ZaR i true hk) (fun hk=>Goes.brk hk (fun hk=>ZaR i true hk) (fun hk=>Goes.brk hk (fun hk=>ZaR i (! (eqB i.2.2.2.2.2.1 (bs []))) hk) (fun hk=>ZaR i false hk))))
def ZdA:Int→AV:=fun (r:Int)=>.d (.int .i64) r
def ZaB (i:El Zb):Zb5→Nat×St |.l2 h=>(2,⟨mkTm 59 [(1,.pt 2 0 0),(26,.d .bool h)],[(2,0,.box 44 [.d (.int .i64) i.1,.d .bool i.2.1,.d (.int .i64) i.2.2.1,.d (.int .i64) i.2.2.2.1.1,.d (.int .i64) i.2.2.2.1.2.1,.d (.int .i64) i.2.2.2.1.2.2.1,.d (.int .i64) i.2.2.2.1.2.2.2,.d (.int .i64) i.2.2.2.2.1.1,.d (.int .i64) i.2.2.2.2.1.2.1,.d (.int .i64) i.2.2.2.2.1.2.2.1,.d (.int .i64) i.2.2.2.2.1.2.2.2,.d .str i.2.2.2.2.2.1,.d (.sl .str) i.2.2.2.2.2.2] none)]⟩) |.l5 h=>(5,⟨mkTm 59 [(1,.pt 2 0 0),(49,.d .bool h)],[(2,0,.box 44 [.d (.int .i64) i.1,.d .bool i.2.1,.d (.int .i64) i.2.2.1,.d (.int .i64) i.2.2.2.1.1,.d (.int .i64) i.2.2.2.1.2.1,.d (.int .i64) i.2.2.2.1.2.2.1,.d (.int .i64) i.2.2.2.1.2.2.2,.d (.int .i64) i.2.2.2.2.1.1,.d (.int .i64) i.2.2.2.2.1.2.1,.d (.int .i64) i.2.2.2.2.1.2.2.1,.d (.int .i64) i.2.2.2.2.1.2.2.2,.d .str i.2.2.2.2.2.1,.d (.sl .str) i.2.2.2.2.2.2] none)]⟩)
theorem Zni (i:El Zb) (L:Lt):entryA Go.Proofs.Tryd.prog (clOf ZfH) ZeD Go.Proofs.Tryd.f46 ZdB L (toForms ZaG (i,()))=(Zex i).run (fun v=>some (ZdA v,tps (toForms ZaG (i,())))) fun j=>L (ZaB i j).1 (ZaB i j).2:=by kernel_rfl
theorem Znm (i:El Zb):∀(L:Lt) (j:Zb5),procOf (procsF Go.Proofs.Tryd.prog (clOf ZfH) ZeD Go.Proofs.Tryd.f46 ZdB (toForms ZaG (i,()))) (ZaB i j).1 L (ZaB i j).2=(Zb2 i j).run (fun v=>some (ZdA v,tps (toForms ZaG (i,())))) fun j=>L (ZaB i j).1 (ZaB i j).2 | L,.l2 h=>by kernel_rfl | L,.l5 h=>by kernel_rfl
end
end Go.Ev
end

section
open Go
namespace Go.Ev
def Zhp (op cond:Int) (row nm te:Bool) (h:Bool):Int:=
 bif h then
  (4:Int)
 else bif (bif (op==(10:Int)) then true else (op==(11:Int))) then
  bif true then
   bif (! nm) then
    (3:Int)
   else (0:Int)
  else (0:Int)
 else (0:Int)
def ZjQ (op cond:Int) (row nm te:Bool) (h:Bool):Int:=
 bif h then
  (4:Int)
 else bif (op==(11:Int)) then
  bif (decide (cond < (1:Int))) then
   Zhp op cond row nm te true
  else bif (decide (cond > (10:Int))) then
   Zhp op cond row nm te true
  else bif (op !=(11:Int)) then
   Zhp op cond row nm te (cond !=(0:Int))
  else Zhp op cond row nm te false
 else bif (op !=(11:Int)) then
  Zhp op cond row nm te (cond !=(0:Int))
 else Zhp op cond row nm te false
def refRB (op cond:Int) (row nm te:Bool):Int:=
 bif (decide (op < (1:Int))) then
  ZjQ op cond row nm te true
 else bif (decide (op > (14:Int))) then
  ZjQ op cond row nm te true
 else bif (! row) then
  ZjQ op cond row nm te true
 else bif (! (bif (op==(10:Int)) then true else (op==(11:Int)))) then
  ZjQ op cond row nm te (! te)
 else ZjQ op cond row nm te false
def insRB (op cond:Int) (row nm te:Bool):Int:=
 bif (op==(10:Int)) then
  bif (! (decide (1≤op)&&(decide (op≤14)&&(row&&condOK op cond)))) then
   (4:Int)
  else bif true then
   bif (! nm) then
    (3:Int)
   else (0:Int)
  else (0:Int)
 else bif (! (decide (1≤op)&&(decide (op≤14)&&(row&&condOK op cond)))) then
  (4:Int)
 else bif (! (op==(11:Int))) then
  bif (! te) then
   (4:Int)
  else bif (op==(11:Int)) then
   bif true then
    bif (! nm) then
     (3:Int)
    else (0:Int)
   else (0:Int)
  else (0:Int)
 else bif (op==(11:Int)) then
  bif true then
   bif (! nm) then
    (3:Int)
   else (0:Int)
  else (0:Int)
 else (0:Int)
theorem rightB (op cond:Int) (row nm te:Bool):refRB op cond row nm te=insRB op cond row nm te:=by
 unfold refRB ZjQ Zhp insRB condOK
 have beqs:∀(k c:Int),(k==c)=decide (k=c):=fun k c=>by rw[Bool.eq_iff_iff];simp
 have bnes:∀(k c:Int),(k !=c)=!decide (k=c):=fun k c=>by rw[Bool.eq_iff_iff];simp
 simp only[beqs,bnes]
 by_cases h1:op < 1
 ·have e1:decide (op=10)=false:=by simp;omega
  have e2:decide (op=11)=false:=by simp;omega
  have e3:decide (1≤op)=false:=by simp;omega
  simp[h1,e1,e2,e3]
 by_cases h2:op > 14
 ·have e1:decide (op=10)=false:=by simp;omega
  have e2:decide (op=11)=false:=by simp;omega
  have e3:decide (op≤14)=false:=by simp;omega
  simp[h1,h2,e1,e2,e3]
 have e3:decide (1≤op)=true:=by simp;omega
 have e4:decide (op≤14)=true:=by simp;omega
 by_cases h10:op=10
 ·subst h10
  by_cases hc:cond=0 <;> cases row <;> cases nm <;> simp[hc]
 by_cases h11:op=11
 ·subst h11
  have f1:decide (1≤cond)=!decide (cond < 1):=by by_cases h:cond < 1 <;> simp[h] <;> omega
  have f2:decide (cond≤10)=!decide (cond > 10):=by by_cases h:cond > 10 <;> simp[h] <;> omega
  rw[f1,f2]
  by_cases hc:cond < 1 <;> by_cases hd:cond > 10 <;> cases row <;> cases nm <;> simp[hc,hd]
 by_cases hc:cond=0 <;> cases row <;> cases te <;> simp[h1,h2,h10,h11,e3,e4,hc]
def Zbc (i:El Zb):Int:=ZA i
def ZdG (i:El Zb):Bool:=smallText i.2.2.2.2.2.1
theorem ZnB (i:El Zb) (hk:ZdG i=true):Goes (Zb2 i) (Zex i) (Zbc i):=by
 have h1:Zax i.2.2.2.2.2.1=true:=hk
 have h2:ZH i.2.2.2.2.2.1=true:=hk
 have hku:Zew i=true:=by
  unfold Zew Zaa Z0
  simp only[h1,cond_true,Bool.cond_self]
 have hr:ZdE i=refRB i.1 i.2.2.1 (ZK i) (nameRight i.2.2.2.2.2.1) (eqB i.2.2.2.2.2.1 (bs [])):=by
  unfold ZdE Zab Z1
  simp only[h1]
  rfl
 have hp:ZaU i=insRB i.1 i.2.2.1 (ZK i) (nameRight i.2.2.2.2.2.1) (eqB i.2.2.2.2.2.1 (bs [])):=by
  unfold ZaU
  simp only[h2,Znq]
  rfl
 have e:Zbc i=ZdE i:=by
  rw[hr,rightB,←hp]
  rfl
 rw[e]
 exact Znk i hku
end Go.Ev
end

section
open Go Go.Ev
namespace Go.Ev
noncomputable section
noncomputable def Zi9:Run:=entG ZaG ZdA (fun a=>ZdG a.1) (fun a=>Zbc a.1)
theorem Znb:EntOK Go.Proofs.Tryd.prog 46 Zi9:=ZaF (tb:=ZeD) (c:=ZdB) Zna (by kernel_rfl) (by kernel_rfl) (by kernel_rfl) (fun a=>by kernel_rfl) fun ⟨i,_⟩ hk=>Zo (c:=ZdB) (K:=fun v=>(ZdA v,tps (toForms ZaG (i,())))) (S:=ZaB i) (by kernel_rfl) (Zni i) (Znm i) (ZnB i hk)
end
end Go.Ev
end

section
open Go Go.Ev
namespace Go.Ev
noncomputable section
def Za9:Sig:=[(true,Ze),(true,Zc)]
noncomputable def ZgP:Tbl:=[(62,Zh1)]
theorem ZoL:∀p∈ZgP,EntOK Go.Proofs.Tryd.prog p.1 p.2:=Zl Zkk (Zv)
noncomputable def Zd1:Code:=Go.Proofs.Tryd.f47.body.getD .skip
def Zfv:Tb:=[]
def Zkb (p:El Ze) (o:El Zc):Empty→JT Empty (Int):=fun j=>nomatch j
def Zjp (p:El Ze) (o:El Zc):JT Empty (Int):=.br (! (ZE o)) (.leaf (0:Int)) (.br (decide (o.2.2.1≥(Int.ofNat (List.length p.1)))) (.leaf (7:Int)) (.br (o.1==(3:Int)) (.br ((decide ((0:Int)≤o.2.2.1))&&(decide (o.2.2.1 < (Int.ofNat (List.length p.1))))) (.br (decide (o.2.2.2≥(List.getD p.1 (Int.toNat o.2.2.1) (dflt Zk)).2.1)) (.leaf (8:Int)) (.leaf (0:Int))) (.no)) (.leaf (0:Int))))
def Zaw (p:El Ze) (o:El Zc):Int:=bif (! (ZE o)) then (0:Int) else bif (decide (o.2.2.1≥(Int.ofNat (List.length p.1)))) then (7:Int) else bif (o.1==(3:Int)) then bif ((decide ((0:Int)≤o.2.2.1))&&(decide (o.2.2.1 < (Int.ofNat (List.length p.1))))) then bif (decide (o.2.2.2≥(List.getD p.1 (Int.toNat o.2.2.1) (dflt Zk)).2.1)) then (8:Int) else (0:Int) else (0:Int) else (0:Int)
def ZbH (p:El Ze) (o:El Zc):Bool:=bif (! (ZE o)) then true else bif (decide (o.2.2.1≥(Int.ofNat (List.length p.1)))) then true else bif (o.1==(3:Int)) then bif ((decide ((0:Int)≤o.2.2.1))&&(decide (o.2.2.1 < (Int.ofNat (List.length p.1))))) then bif (decide (o.2.2.2≥(List.getD p.1 (Int.toNat o.2.2.1) (dflt Zk)).2.1)) then true else true else false else true
theorem Zo1 (p:El Ze) (o:El Zc) (hk:ZbH p o=true):Goes (Zkb p o) (Zjp p o) (Zaw p o):=Goes.brk hk (fun hk=>Goes.leaf) (fun hk=>Goes.brk hk (fun hk=>Goes.leaf) (fun hk=>Goes.brk hk (fun hk=>Goes.brk hk (fun hk=>Goes.brk hk (fun hk=>Goes.leaf) (fun hk=>Goes.leaf)) (fun hk=>Goes.nok hk)) (fun hk=>Goes.leaf)))
def Zd7:Int→AV:=fun (r:Int)=>.d (.int .i64) r
def ZaX (p:El Ze) (o:El Zc):Empty→Nat×St:=fun j=>nomatch j
theorem ZoM (p:El Ze) (o:El Zc) (L:Lt):entryA Go.Proofs.Tryd.prog (clOf ZgP) Zfv Go.Proofs.Tryd.f47 Zd1 L (toForms Za9 (p,o,()))=(Zjp p o).run (fun v=>some (Zd7 v,tps (toForms Za9 (p,o,())))) fun j=>L (ZaX p o j).1 (ZaX p o j).2:=by kernel_rfl
theorem Zos (p:El Ze) (o:El Zc):∀(L:Lt) (j:Empty),procOf (procsF Go.Proofs.Tryd.prog (clOf ZgP) Zfv Go.Proofs.Tryd.f47 Zd1 (toForms Za9 (p,o,()))) (ZaX p o j).1 L (ZaX p o j).2=(Zkb p o j).run (fun v=>some (Zd7 v,tps (toForms Za9 (p,o,())))) fun j=>L (ZaX p o j).1 (ZaX p o j).2:=fun L j=>nomatch j
noncomputable def Zkx:Run:=entG Za9 Zd7 (fun a=>ZbH a.1 a.2.1) (fun a=>Zaw a.1 a.2.1)
theorem ZnZ:EntOK Go.Proofs.Tryd.prog 47 Zkx:=ZaF (tb:=Zfv) (c:=Zd1) ZoL (by kernel_rfl) (by kernel_rfl) (by kernel_rfl) (fun a=>by kernel_rfl) fun ⟨p,o,_⟩ hk=>Zo (c:=Zd1) (K:=fun v=>(Zd7 v,tps (toForms Za9 (p,o,())))) (S:=ZaX p o) (by kernel_rfl) (ZoM p o) (Zos p o) (Zo1 p o hk)
end
end Go.Ev
end

section
open Go Go.Ev
namespace Go.Ev
noncomputable section
def Zdc:Sig:=[(true,(.sl Zb)),(false,.str)]
noncomputable def ZkZ:Tbl:=[(45,Zgc)]
theorem ZtA:∀p∈ZkZ,EntOK Go.Proofs.Tryd.prog p.1 p.2:=Zl Zhi (Zv)
noncomputable def Zh7:Code:=Go.Proofs.Tryd.f49.body.getD .skip
def Zi6:Tb:=[(3,⟨[1,2,5],[]⟩)]
inductive ZfF where | l3 (i:Int)
def Zfk (t:List (El Zb)) (label:ByteArray):ZfF→JT ZfF (Int) |.l3 i=>.br (decide (i < (Int.ofNat (List.length t)))) (.br ((decide ((0:Int)≤i))&&(decide (i < (Int.ofNat (List.length t))))) (.br (ZM (List.getD t (Int.toNat i) (dflt Zb)).2.2.2.2.2.2 label) (.br (decide ((ZB (List.getD t (Int.toNat i) (dflt Zb)).2.2.2.2.2.2 label)≥(0:Int))) (.leaf i) (.jmp (.l3 (IntKind.i64.wrap (i+(1:Int)))))) (.no)) (.no)) (.leaf (-1:Int))
def ZiL (t:List (El Zb)) (label:ByteArray):JT ZfF (Int):=.jmp (.l3 (0:Int))
def Zin:Int→AV:=fun (r:Int)=>.d (.int .i64) r
def ZcX (t:List (El Zb)) (label:ByteArray):ZfF→Nat×St |.l3 i=>(3,⟨mkTm 23 [(1,.d .str label),(2,.pt 3 0 0),(5,.d (.int .i64) i)],[(3,0,.box 39 [.d (.sl Zb) t] none)]⟩)
theorem ZsB (t:List (El Zb)) (label:ByteArray) (L:Lt):entryA Go.Proofs.Tryd.prog (clOf ZkZ) Zi6 Go.Proofs.Tryd.f49 Zh7 L (toForms Zdc (t,label,()))=(ZiL t label).run (fun v=>some (Zin v,tps (toForms Zdc (t,label,())))) fun j=>L (ZcX t label j).1 (ZcX t label j).2:=by kernel_rfl
theorem ZsN (t:List (El Zb)) (label:ByteArray):∀(L:Lt) (j:ZfF),procOf (procsF Go.Proofs.Tryd.prog (clOf ZkZ) Zi6 Go.Proofs.Tryd.f49 Zh7 (toForms Zdc (t,label,()))) (ZcX t label j).1 L (ZcX t label j).2=(Zfk t label j).run (fun v=>some (Zin v,tps (toForms Zdc (t,label,())))) fun j=>L (ZcX t label j).1 (ZcX t label j).2 | L,.l3 i=>by kernel_rfl
end
end Go.Ev
end

section
open Go
namespace Go.Ev
def Zfh (t:List (El Zb)) (label:ByteArray):Int:=findI label t 0
def ZdH (t:List (El Zb)) (label:ByteArray):Bool:=decide (t.length < 1099511627776)&&t.all fun i=>decide (i.2.2.2.2.2.2.length < 1099511627776)
theorem Zuo (t:List (El Zb)) (label:ByteArray) (hk:ZdH t label=true):Goes (Zfk t label) (ZiL t label) (Zfh t label):=by
 unfold ZdH at hk
 simp only[Bool.and_eq_true,decide_eq_true_eq,List.all_eq_true] at hk
 obtain ⟨hn,hl⟩:=hk
 have loop:∀k,k≤t.length→Goes (Zfk t label) (.jmp (.l3 (k:Int))) (findI label (t.drop k) k):=by
  refine down ?_ fun k hk ih=>?_
  ·rw[Zq]
   simp only[Zfk,Zs,ZT (Nat.lt_irrefl _),ZC,List.drop_length]
   simp[findI]
  ·have hli:=hl t[k] (List.getElem_mem hk)
   have hki:ZM t[k].2.2.2.2.2.2 label=true:=decide_eq_true (by omega)
   rw[Zq]
   simp only[Zfk,Zs,Zaz hk,nng,Bool.and_self,if_true,Int.toNat_natCast,ZV hk,ZF (k:=k) (by omega),hki]
   rw[ZY hk]
   unfold findI
   have hi:decide (ZB t[k].2.2.2.2.2.2 label≥0)=t[k].2.2.2.2.2.2.contains label:=by
    rw[←ZdK (k:=0)]
    unfold ZB
    cases h:findFrom label t[k].2.2.2.2.2.2 0 with
    | none=>rfl
    | some n=>simp
   rw[hi]
   split
   ·exact .leaf
   ·exact ih
 unfold ZiL Zfh
 simpa using loop 0 (Nat.zero_le _)
end Go.Ev
end

section
open Go Go.Ev
namespace Go.Ev
noncomputable section
noncomputable def Zov:Run:=entG Zdc Zin (fun a=>ZdH a.1 a.2.1) (fun a=>Zfh a.1 a.2.1)
theorem ZtU:EntOK Go.Proofs.Tryd.prog 49 Zov:=ZaF (tb:=Zi6) (c:=Zh7) ZtA (by kernel_rfl) (by kernel_rfl) (by kernel_rfl) (fun a=>by kernel_rfl) fun ⟨t,label,_⟩ hk=>Zo (c:=Zh7) (K:=fun v=>(Zin v,tps (toForms Zdc (t,label,())))) (S:=ZcX t label) (by kernel_rfl) (ZsB t label) (ZsN t label) (Zuo t label hk)
end
end Go.Ev
end

section
open Go Go.Ev
namespace Go.Ev
noncomputable section
def ZbK:Sig:=[(true,Ze),(true,(.sl Zb))]
noncomputable def Zhu:Tbl:=[(44,ZmE),(21,ZfP),(45,Zgc),(46,Zi9),(47,Zkx),(48,Zjh),(49,Zov)]
theorem Zpy:∀p∈Zhu,EntOK Go.Proofs.Tryd.prog p.1 p.2:=Zl ZrF (Zl Zht (Zl Zhi (Zl Znb (Zl ZnZ (Zl ZlG (Zl ZtU (Zv)))))))
noncomputable def Ze6:Code:=Go.Proofs.Tryd.f22.body.getD .skip
def ZgH:Tb:=[(7,⟨[2,3,5,6],[(6,84)]⟩),(14,⟨[2,3,5,6,7,8],[(6,84)]⟩),(44,⟨[3,13],[]⟩)]
inductive Zdj where | l7 (i:Int) (seen:List ByteArray) | l14 (x:Int) (x1:Bool) (x2:Int) (x3:Int) (x4:Int) (x5:Int) (x6:Int) (x7:Int) (x8:Int) (x9:Int) (x10:Int) (x11:ByteArray) (x12:List ByteArray) (k:Int) (seen:List ByteArray) (i:Int) | l44 (i:Int)
def Zac (p:El Ze) (t:List (El Zb)):Zdj→JT Zdj (Int) |.l7 i seen=>.br (decide (i < (Int.ofNat (List.length t)))) (.br ((decide ((0:Int)≤i))&&(decide (i < (Int.ofNat (List.length t))))) (.jmp (.l14 (List.getD t (Int.toNat i) (dflt Zb)).1 (List.getD t (Int.toNat i) (dflt Zb)).2.1 (List.getD t (Int.toNat i) (dflt Zb)).2.2.1 (List.getD t (Int.toNat i) (dflt Zb)).2.2.2.1.1 (List.getD t (Int.toNat i) (dflt Zb)).2.2.2.1.2.1 (List.getD t (Int.toNat i) (dflt Zb)).2.2.2.1.2.2.1 (List.getD t (Int.toNat i) (dflt Zb)).2.2.2.1.2.2.2 (List.getD t (Int.toNat i) (dflt Zb)).2.2.2.2.1.1 (List.getD t (Int.toNat i) (dflt Zb)).2.2.2.2.1.2.1 (List.getD t (Int.toNat i) (dflt Zb)).2.2.2.2.1.2.2.1 (List.getD t (Int.toNat i) (dflt Zb)).2.2.2.2.1.2.2.2 (List.getD t (Int.toNat i) (dflt Zb)).2.2.2.2.2.1 (List.getD t (Int.toNat i) (dflt Zb)).2.2.2.2.2.2 (0:Int) seen i)) (.no)) (.br ((Int.ofNat (List.length t))==(0:Int)) (.leaf (9:Int)) (.br ((decide ((0:Int)≤(IntKind.i64.wrap ((Int.ofNat (List.length t)) - (1:Int)))))&&(decide ((IntKind.i64.wrap ((Int.ofNat (List.length t)) - (1:Int))) < (Int.ofNat (List.length t))))) (.br ((List.getD t (Int.toNat (IntKind.i64.wrap ((Int.ofNat (List.length t)) - (1:Int)))) (dflt Zb)).1 !=(10:Int)) (.br ((List.getD t (Int.toNat (IntKind.i64.wrap ((Int.ofNat (List.length t)) - (1:Int)))) (dflt Zb)).1 !=(14:Int)) (.leaf (9:Int)) (.jmp (.l44 (0:Int)))) (.jmp (.l44 (0:Int)))) (.no))) |.l14 x x1 x2 x3 x4 x5 x6 x7 x8 x9 x10 x11 x12 k seen i=>.br (decide (k < (Int.ofNat (List.length x12)))) (.br ((decide ((0:Int)≤k))&&(decide (k < (Int.ofNat (List.length x12))))) (.br (Zax (List.getD x12 (Int.toNat k) (dflt .str))) (.br (! (Zbf (List.getD x12 (Int.toNat k) (dflt .str)))) (.leaf (3:Int)) (.br ((decide ((0:Int)≤k))&&(decide (k < (Int.ofNat (List.length x12))))) (.br (ZM seen (List.getD x12 (Int.toNat k) (dflt .str))) (.br (decide ((ZB seen (List.getD x12 (Int.toNat k) (dflt .str)))≥(0:Int))) (.leaf (6:Int)) (.br ((decide ((0:Int)≤k))&&(decide (k < (Int.ofNat (List.length x12))))) (.br (Nat.ble (((List.length seen)+1)*16) limit) (.jmp (.l14 x x1 x2 x3 x4 x5 x6 x7 x8 x9 x10 x11 x12 (IntKind.i64.wrap (k+(1:Int))) (seen++[(List.getD x12 (Int.toNat k) (dflt .str))]) i)) (.no)) (.no))) (.no)) (.no))) (.no)) (.no)) (.br (ZdG (x,(x1,(x2,((x3,(x4,(x5,x6))),((x7,(x8,(x9,x10))),(x11,x12))))))) (.br ((Zbc (x,(x1,(x2,((x3,(x4,(x5,x6))),((x7,(x8,(x9,x10))),(x11,x12))))))) !=(0:Int)) (.leaf (Zbc (x,(x1,(x2,((x3,(x4,(x5,x6))),((x7,(x8,(x9,x10))),(x11,x12)))))))) (.br (ZbH p (x3,(x4,(x5,x6)))) (.br ((Zaw p (x3,(x4,(x5,x6)))) !=(0:Int)) (.leaf (Zaw p (x3,(x4,(x5,x6))))) (.br (ZbH p (x7,(x8,(x9,x10)))) (.br ((Zaw p (x7,(x8,(x9,x10)))) !=(0:Int)) (.leaf (Zaw p (x7,(x8,(x9,x10))))) (.jmp (.l7 (IntKind.i64.wrap (i+(1:Int))) seen))) (.no))) (.no))) (.no)) |.l44 i=>.br (decide (i < (Int.ofNat (List.length t)))) (.br ((decide ((0:Int)≤i))&&(decide (i < (Int.ofNat (List.length t))))) (.br (Zal (List.getD t (Int.toNat i) (dflt Zb)).1) (.br ((decide ((0:Int)≤i))&&(decide (i < (Int.ofNat (List.length t))))) (.br (ZdH t (List.getD t (Int.toNat i) (dflt Zb)).2.2.2.2.2.1) (.br (decide ((Zfh t (List.getD t (Int.toNat i) (dflt Zb)).2.2.2.2.2.1) < (0:Int))) (.leaf (7:Int)) (.jmp (.l44 (IntKind.i64.wrap (i+(1:Int)))))) (.no)) (.no)) (.jmp (.l44 (IntKind.i64.wrap (i+(1:Int)))))) (.no)) (.leaf (0:Int))
def ZgE (p:El Ze) (t:List (El Zb)):JT Zdj (Int):=.br (ZfS t) (.br (decide ((Zeg t) > (4096:Int))) (.leaf (10:Int)) (.jmp (.l7 (0:Int) []))) (.no)
def ZeF:Int→AV:=fun (r:Int)=>.d (.int .i64) r
def Zbm (p:El Ze) (t:List (El Zb)):Zdj→Nat×St |.l7 i seen=>(7,⟨mkTm 122 [(2,.pt 3 0 0),(3,.pt 4 0 0),(5,.own 6 0 none),(6,.d (.int .i64) i)],[(3,0,.box 27 [.d (.sl Zk) p.1,.d (.sl (.sl Zb)) p.2] none),(4,0,.box 39 [.d (.sl Zb) t] none),(6,0,.row 9 .str seen false)]⟩) |.l14 x x1 x2 x3 x4 x5 x6 x7 x8 x9 x10 x11 x12 k seen i=>(14,⟨mkTm 122 [(2,.pt 3 0 0),(3,.pt 4 0 0),(5,.own 6 0 none),(6,.d (.int .i64) i),(7,.pt 8 0 0),(8,.d (.int .i64) k)],[(3,0,.box 27 [.d (.sl Zk) p.1,.d (.sl (.sl Zb)) p.2] none),(4,0,.box 39 [.d (.sl Zb) t] none),(6,0,.row 9 .str seen false),(8,0,.box 44 [.d (.int .i64) x,.d .bool x1,.d (.int .i64) x2,.d (.int .i64) x3,.d (.int .i64) x4,.d (.int .i64) x5,.d (.int .i64) x6,.d (.int .i64) x7,.d (.int .i64) x8,.d (.int .i64) x9,.d (.int .i64) x10,.d .str x11,.d (.sl .str) x12] none)]⟩) |.l44 i=>(44,⟨mkTm 122 [(3,.pt 4 0 0),(13,.d (.int .i64) i)],[(4,0,.box 39 [.d (.sl Zb) t] none)]⟩)
theorem Zpb (p:El Ze) (t:List (El Zb)) (L:Lt):entryA Go.Proofs.Tryd.prog (clOf Zhu) ZgH Go.Proofs.Tryd.f22 Ze6 L (toForms ZbK (p,t,()))=(ZgE p t).run (fun v=>some (ZeF v,tps (toForms ZbK (p,t,())))) fun j=>L (Zbm p t j).1 (Zbm p t j).2:=by kernel_rfl
theorem ZoV (p:El Ze) (t:List (El Zb)):∀(L:Lt) (j:Zdj),procOf (procsF Go.Proofs.Tryd.prog (clOf Zhu) ZgH Go.Proofs.Tryd.f22 Ze6 (toForms ZbK (p,t,()))) (Zbm p t j).1 L (Zbm p t j).2=(Zac p t j).run (fun v=>some (ZeF v,tps (toForms ZbK (p,t,())))) fun j=>L (Zbm p t j).1 (Zbm p t j).2 | L,.l7 i seen=>by kernel_rfl | L,.l14 x x1 x2 x3 x4 x5 x6 x7 x8 x9 x10 x11 x12 k seen i=>by kernel_rfl | L,.l44 i=>by kernel_rfl
end
end Go.Ev
end

section
open Go
namespace Go.Ev
def ZdF (p:El Ze) (t:List (El Zb)):Int:=threadC p t
def Ze7 (p:El Ze) (t:List (El Zb)):Bool:=smallThread t
theorem ZuD (len:Nat) (size:Int→Int) (k s n:Int) (h:(k=3∨k=4)→0≤s):
 (bif (! (decide (k=3) || decide (k=4))) then
  (0:Int)
 else bif (decide (s≥(Int.ofNat len))) then
  (7:Int)
 else bif (k==(3:Int)) then
  bif ((decide ((0:Int)≤s))&&(decide (s < (Int.ofNat len)))) then
   bif (decide (n≥size s)) then
    (8:Int)
   else (0:Int)
  else (0:Int)
 else (0:Int))=placeN len size k s n∧
 (bif (! (decide (k=3) || decide (k=4))) then
  true
 else bif (decide (s≥(Int.ofNat len))) then
  true
 else bif (k==(3:Int)) then
  bif ((decide ((0:Int)≤s))&&(decide (s < (Int.ofNat len)))) then
   bif (decide (n≥size s)) then
    true
   else true
  else false
 else true)=true:=by
 unfold placeN
 by_cases h3:k=3
 ·have h0:=h (.inl h3)
  subst h3
  by_cases hl:(len:Int)≤s
  ·simp[hl]
  have h2:s < (len:Int):=by omega
  have h1:¬s < 0:=by omega
  by_cases hn:size s≤n
  ·simp[hl,hn,h0,h1,h2]
  ·simp[hl,hn,h0,h1,h2]
 by_cases h4:k=4
 ·have h0:=h (.inr h4)
  subst h4
  have h1:¬s < 0:=by omega
  by_cases hl:(len:Int)≤s
  ·simp[hl]
  simp[hl,h1]
 simp[h3,h4]
theorem Zqk (p:El Ze) (o:El Zc) (h:∀k s:Int,o.1=k→o.2.2.1=s→(k=3∨k=4)→0≤s):Zaw p o=placeC p o∧ZbH p o=true:=by
 have:=ZuD p.1.length (fun s=>(List.getD p.1 s.toNat (dflt Zk)).2.1) o.1 o.2.2.1 o.2.2.2 (h _ _ rfl rfl)
 unfold Zaw ZbH
 rw[Zee]
 exact this
theorem Zqg {k r s n:Int} (h:Zn (k,r,s,n)=true) (hk:k=3∨k=4):0≤s:=by
 unfold Zn at h
 rcases hk with rfl | rfl
 ·by_cases hs:0≤s
  ·exact hs
  ·simp[hs] at h
 ·by_cases hs:0≤s
  ·exact hs
  ·simp[hs] at h
theorem Zx9 {i:El Zb} (hr:ZA i=0):(∀k s:Int,i.2.2.2.1.1=k→i.2.2.2.1.2.2.1=s→(k=3∨k=4)→0≤s)∧∀k s:Int,i.2.2.2.2.1.1=k→i.2.2.2.2.1.2.2.1=s→(k=3∨k=4)→0≤s:=by
 obtain ⟨h1,h14,hrow⟩:=Zvz hr
 rcases nine i.1 with ⟨h9,_⟩ | ⟨h9,_⟩
 ·obtain ⟨a,b⟩:=Zx1 hrow h1 h9
  exact ⟨fun k s hk hs h=>hs▸Zqg (k:=i.2.2.2.1.1) (r:=i.2.2.2.1.2.1) (s:=i.2.2.2.1.2.2.1) (n:=i.2.2.2.1.2.2.2) a (hk▸h),fun k s hk hs h=>hs▸Zqg (k:=i.2.2.2.2.1.1) (r:=i.2.2.2.2.1.2.1) (s:=i.2.2.2.2.1.2.2.1) (n:=i.2.2.2.2.1.2.2.2) b (hk▸h)⟩
 ·obtain ⟨a,b⟩:=Zw5 hrow h9
  refine ⟨fun k s hk hs h=>?_,fun k s hk hs h=>?_⟩
  ·have:k=0:=hk▸a
   omega
  ·have:k=0:=hk▸b
   omega
theorem Zsf (p:El Ze) (t:List (El Zb)) (hk:Ze7 p t=true):Goes (Zac p t) (ZgE p t) (ZdF p t):=by
 have hS:=smallT hk
 have hn:=hS.len
 have hkf:∀l,ZdH t l=true:=fun l=>by
  unfold ZdH
  simp only[Bool.and_eq_true,decide_eq_true_eq,List.all_eq_true]
  exact ⟨hn,fun i hi=>Nat.lt_of_le_of_lt (Zl9 hi) hS.labs⟩
 have jmps:∀k,k≤t.length→Goes (Zac p t) (.jmp (.l44 (k:Int))) (jumpC (labels t) (t.drop k)):=by
  refine down ?_ fun k hk ih=>?_
  ·rw[Zq]
   simp only[Zac,Zs,ZT (Nat.lt_irrefl _),ZC,List.drop_length]
   simp[jumpC]
  ·rw[Zq]
   simp only[Zac,Zs,Zaz hk,nng,Bool.and_self,if_true,Int.toNat_natCast,ZV hk,ZF (k:=k) (by omega),hkf,ZxH]
   have hfi:decide (Zfh t t[k].2.2.2.2.2.1 < 0)=! (labels t).contains t[k].2.2.2.2.2.1:=Zsr
   rw[hfi,ZY hk]
   unfold jumpC
   by_cases h1:((t[k].1==(10:Int)) || (t[k].1==(11:Int)))=true
   ·rw[if_pos h1,if_pos h1]
    by_cases h2:(labels t).contains t[k].2.2.2.2.2.1=true
    ·rw[if_pos h2,if_neg (by rw[h2];decide)];exact ih
    ·rw[if_neg h2,if_pos (by rw[Bool.eq_false_iff.2 h2];rfl)];exact .leaf
   ·rw[if_neg h1,if_neg h1];exact ih
 have main:∀k,k≤t.length→Goes (Zac p t) (.jmp (.l7 (k:Int) (labels (t.take k)))) (scanI p (fun seen=>endC t (jumpC seen t)) (labels (t.take k)) (t.drop k)):=by
  refine down ?_ fun k hk ih=>?_
  ·have hj:=jmps 0 (Nat.zero_le _)
   rw[List.drop_zero] at hj
   rw[Zq,List.drop_length,List.take_length]
   unfold scanI
   simp only[Zac,Zs,ZT (Nat.lt_irrefl _)]
   rw[if_neg (by decide)]
   by_cases h0:t.length=0
   ·have:t=[]:=List.eq_nil_of_length_eq_zero h0
    rw[this];simp[ZC,endC]
   ·have hp:0 < t.length:=by omega
    rw[if_neg (by simp;exact fun e=>h0 (by rw[e];rfl)),Zuq hp]
    rw[show Int.ofNat t.length=(t.length:Int) from rfl,Zt6 (k:=t.length) (by omega) hp]
    have hb:(decide (0≤((t.length - 1:Nat):Int))&&decide (((t.length - 1:Nat):Int) < (t.length:Int)))=true:=by simp;omega
    simp only[hb,if_true,Int.toNat_natCast,ZV (show t.length - 1 < t.length by omega)]
    unfold bne
    cases h10:(t[t.length - 1].1==(10:Int)) with
    | true=>simpa using hj
    | false=>
     cases h14:(t[t.length - 1].1==(14:Int)) with
     | true=>simpa using hj
     | false=>simp[ZC]
  ·have hmem:t[k]∈t:=List.getElem_mem hk
   have hto:=hS.to _ hmem
   have hlab:=hS.lab _ hmem
   have hlen:=Nat.lt_of_le_of_lt (Zl9 hmem) hS.labs
   have htk:labels (t.take (k+1))=labels (t.take k)++t[k].2.2.2.2.2.2:=by
    unfold labels
    rw[List.take_add_one,List.getElem?_eq_getElem hk,List.flatMap_append]
    simp
   have hall:labels t=labels (t.take (k+1))++labels (t.drop (k+1)):=by
    unfold labels
    rw[←List.flatMap_append,List.take_append_drop]
   have hlt:(labels (t.take (k+1))).length < 1099511627776:=by
    have:=hS.labs
    rw[hall,List.length_append] at this
    omega
   rw[Zq]
   simp only[Zac,Zs,Zaz hk,nng,Bool.and_self,if_true,Int.toNat_natCast,ZV hk]
   rw[ZY hk]
   unfold scanI
   rw[htk] at ih hlt
   generalize t[k]=i at hto hlab hlen htk ih hlt
   obtain ⟨op,lock,cond,⟨ak,ar,ay,an⟩,⟨bk,br,bz,bn⟩,to,ls⟩:=i
   dsimp only at hto hlab hlen htk ih hlt ⊢
   have inner:∀j,j≤ls.length→Goes (Zac p t) (.jmp (.l14 op lock cond ak ar ay an bk br bz bn to ls (j:Int) (labels (t.take k)++ls.take j) (k:Int))) (scanL (labels (t.take k)++ls.take j) (fun seen=>if insC p (op,(lock,(cond,((ak,(ar,(ay,an))),((bk,(br,(bz,bn))),(to,ls))))))≠0 then insC p (op,(lock,(cond,((ak,(ar,(ay,an))),((bk,(br,(bz,bn))),(to,ls)))))) else scanI p (fun seen=>endC t (jumpC seen t)) seen (t.drop (k+1))) (ls.drop j)):=by
    refine down ?_ fun j hj ihj=>?_
    ·rw[Zq,List.drop_length,List.take_length]
     unfold scanL
     have hkr:ZdG (op,(lock,(cond,((ak,(ar,(ay,an))),((bk,(br,(bz,bn))),(to,ls))))))=true:=hto
     simp only[Zac,Zs,ZT (Nat.lt_irrefl _),hkr,if_true,ZF (k:=k) (by omega)]
     rw[if_neg (by decide)]
     unfold insC Zbc
     dsimp only
     by_cases hr:ZA (op,(lock,(cond,((ak,(ar,(ay,an))),((bk,(br,(bz,bn))),(to,ls))))))=0
     ·obtain ⟨oa,ob⟩:=Zx9 hr
      obtain ⟨a1,a2⟩:=Zqk p (ak,(ar,(ay,an))) oa
      obtain ⟨b1,b2⟩:=Zqk p (bk,(br,(bz,bn))) ob
      by_cases ha:placeC p (ak,(ar,(ay,an)))=0
      ·by_cases hb:placeC p (bk,(br,(bz,bn)))=0
       ·simp[hr,ha,hb,a1,a2,b1,b2];exact ih
       ·simp[hr,ha,hb,a1,a2,b1,b2,ZC]
      ·simp[hr,ha,a1,a2,ZC]
     ·simp[hr,ZC]
    ·have hl:=hlab ls[j] (List.getElem_mem hj)
     have hkn:Zax ls[j]=true:=hl
     have hsl:(labels (t.take k)++ls.take j).length < 1099511627776:=by
      rw[List.length_append] at hlt ⊢
      rw[List.length_take]
      omega
     have hki:ZM (labels (t.take k)++ls.take j) ls[j]=true:=decide_eq_true (by omega)
     have hap:Nat.ble (((labels (t.take k)++ls.take j).length+1)*16) limit=true:=by apply Nat.ble_eq_true_of_le;unfold limit;omega
     have htj:labels (t.take k)++ls.take (j+1)=(labels (t.take k)++ls.take j)++[ls[j]]:=by
      rw[List.take_add_one,List.getElem?_eq_getElem hj,List.append_assoc];rfl
     rw[htj] at ihj
     rw[Zq]
     simp only[Zac,Zs,Zaz hj,nng,Bool.and_self,if_true,Int.toNat_natCast,ZV hj,ZF (k:=j) (by omega),hkn,hki,hap,ZpF]
     rw[ZY hj]
     unfold scanL
     by_cases h1:nameRight ls[j]=false
     ·rw[if_pos h1,if_pos (by show (! nameRight ls[j])=true;rw[h1];rfl)];exact .leaf
     ·rw[if_neg h1,if_neg (by show ¬(! nameRight ls[j])=true;simpa using h1)]
      by_cases h2:(labels (t.take k)++ls.take j).contains ls[j]=true
      ·rw[if_pos h2,if_pos h2];exact .leaf
      ·rw[if_neg h2,if_neg h2];exact ihj
   have:=inner 0 (Nat.zero_le _)
   rw[List.drop_zero,List.take_zero,List.append_nil] at this
   exact this
 unfold ZgE ZdF
 have hkc:ZfS t=true:=decide_eq_true hn
 simp only[Zs,hkc,if_true]
 unfold threadC Zeg
 by_cases h:4096 < countM t
 ·rw[if_pos (by simp;omega),if_pos h];exact .leaf
 ·rw[if_neg (by simp;omega),if_neg h]
  exact main 0 (Nat.zero_le _)
end Go.Ev
end

section
open Go Go.Ev
namespace Go.Ev
noncomputable section
noncomputable def ZlI:Run:=entG ZbK ZeF (fun a=>Ze7 a.1 a.2.1) (fun a=>ZdF a.1 a.2.1)
theorem ZpH:EntOK Go.Proofs.Tryd.prog 22 ZlI:=ZaF (tb:=ZgH) (c:=Ze6) Zpy (by kernel_rfl) (by kernel_rfl) (by kernel_rfl) (fun a=>by kernel_rfl) fun ⟨p,t,_⟩ hk=>Zo (c:=Ze6) (K:=fun v=>(ZeF v,tps (toForms ZbK (p,t,())))) (S:=Zbm p t) (by kernel_rfl) (Zpb p t) (ZoV p t) (Zsf p t hk)
end
end Go.Ev
end

section
open Go Go.Ev
namespace Go.Ev
noncomputable section
def ZcC:Sig:=[(true,Ze)]
noncomputable def ZiN:Tbl:=[(21,ZfP),(22,ZlI)]
theorem Zsb:∀p∈ZiN,EntOK Go.Proofs.Tryd.prog p.1 p.2:=Zl Zht (Zl ZpH (Zv))
noncomputable def ZfQ:Code:=Go.Proofs.Tryd.f9.body.getD .skip
def Zih:Tb:=[(6,⟨[1,3],[]⟩),(16,⟨[1,3,4,5],[]⟩),(26,⟨[1,6],[]⟩)]
inductive Zep where | l6 (i:Int) | l16 (x:ByteArray) (x1:Int) (x2:List Int) (i:Int) (k:Int) | l26 (i:Int)
def Zai (p:El Ze):Zep→JT Zep (Int) |.l6 i=>.br (decide (i < (Int.ofNat (List.length p.1)))) (.br ((decide ((0:Int)≤i))&&(decide (i < (Int.ofNat (List.length p.1))))) (.br (Zax (List.getD p.1 (Int.toNat i) (dflt Zk)).1) (.br (! (Zbf (List.getD p.1 (Int.toNat i) (dflt Zk)).1)) (.leaf (3:Int)) (.jmp (.l16 (List.getD p.1 (Int.toNat i) (dflt Zk)).1 (List.getD p.1 (Int.toNat i) (dflt Zk)).2.1 (List.getD p.1 (Int.toNat i) (dflt Zk)).2.2 i (0:Int)))) (.no)) (.no)) (.jmp (.l26 (0:Int))) |.l16 x x1 x2 i k=>.br (decide (k < i)) (.br ((decide ((0:Int)≤k))&&(decide (k < (Int.ofNat (List.length p.1))))) (.br (eqB (List.getD p.1 (Int.toNat k) (dflt Zk)).1 x) (.leaf (6:Int)) (.jmp (.l16 x x1 x2 i (IntKind.i64.wrap (k+(1:Int)))))) (.no)) (.br (decide (x1 < (1:Int))) (.leaf (5:Int)) (.br (decide (x1 > (64:Int))) (.leaf (5:Int)) (.br (decide ((Int.ofNat (List.length x2)) > x1)) (.leaf (5:Int)) (.jmp (.l6 (IntKind.i64.wrap (i+(1:Int)))))))) |.l26 i=>.br (decide (i < (Int.ofNat (List.length p.2)))) (.br ((decide ((0:Int)≤i))&&(decide (i < (Int.ofNat (List.length p.2))))) (.br (Ze7 p (List.getD p.2 (Int.toNat i) (dflt (.sl Zb)))) (.br ((ZdF p (List.getD p.2 (Int.toNat i) (dflt (.sl Zb)))) !=(0:Int)) (.leaf (ZdF p (List.getD p.2 (Int.toNat i) (dflt (.sl Zb))))) (.jmp (.l26 (IntKind.i64.wrap (i+(1:Int)))))) (.no)) (.no)) (.leaf (0:Int))
def Zh9 (p:El Ze):JT Zep (Int):=.br (decide ((Int.ofNat (List.length p.1)) > (64:Int))) (.leaf (10:Int)) (.br (decide ((Int.ofNat (List.length p.2)) > (64:Int))) (.leaf (10:Int)) (.jmp (.l6 (0:Int))))
def Zf7:Int→AV:=fun (r:Int)=>.d (.int .i64) r
def Zce (p:El Ze):Zep→Nat×St |.l6 i=>(6,⟨mkTm 81 [(1,.pt 2 0 0),(3,.d (.int .i64) i)],[(2,0,.box 27 [.d (.sl Zk) p.1,.d (.sl (.sl Zb)) p.2] none)]⟩) |.l16 x x1 x2 i k=>(16,⟨mkTm 81 [(1,.pt 2 0 0),(3,.d (.int .i64) i),(4,.pt 5 0 0),(5,.d (.int .i64) k)],[(2,0,.box 27 [.d (.sl Zk) p.1,.d (.sl (.sl Zb)) p.2] none),(5,0,.box 47 [.d .str x,.d (.int .i64) x1,.d (.sl (.int .i64)) x2] none)]⟩) |.l26 i=>(26,⟨mkTm 81 [(1,.pt 2 0 0),(6,.d (.int .i64) i)],[(2,0,.box 27 [.d (.sl Zk) p.1,.d (.sl (.sl Zb)) p.2] none)]⟩)
theorem Zr8 (p:El Ze) (L:Lt):entryA Go.Proofs.Tryd.prog (clOf ZiN) Zih Go.Proofs.Tryd.f9 ZfQ L (toForms ZcC (p,()))=(Zh9 p).run (fun v=>some (Zf7 v,tps (toForms ZcC (p,())))) fun j=>L (Zce p j).1 (Zce p j).2:=by kernel_rfl
theorem Zq9 (p:El Ze):∀(L:Lt) (j:Zep),procOf (procsF Go.Proofs.Tryd.prog (clOf ZiN) Zih Go.Proofs.Tryd.f9 ZfQ (toForms ZcC (p,()))) (Zce p j).1 L (Zce p j).2=(Zai p j).run (fun v=>some (Zf7 v,tps (toForms ZcC (p,())))) fun j=>L (Zce p j).1 (Zce p j).2 | L,.l6 i=>by kernel_rfl | L,.l16 x x1 x2 i k=>by kernel_rfl | L,.l26 i=>by kernel_rfl
end
end Go.Ev
end

section
open Go
namespace Go.Ev
def Z5 (p:El Ze):Int:=checkC p
def Zad (p:El Ze):Bool:=smallProg p
theorem Zue (p:El Ze) (hk:Zad p=true):Goes (Zai p) (Zh9 p) (Z5 p):=by
 have hth:∀t∈p.2,smallThread t=true:=by
  unfold Zad smallProg at hk
  simp only[Bool.and_eq_true,List.all_eq_true] at hk
  exact hk.2
 have hsy:∀s∈p.1,smallText s.1=true:=by
  unfold Zad smallProg at hk
  simp only[Bool.and_eq_true,List.all_eq_true] at hk
  exact hk.1
 obtain ⟨sy,th⟩:=p
 dsimp only at hth hsy
 have ths:th.length≤64→∀k,k≤th.length→Goes (Zai (sy,th)) (.jmp (.l26 (k:Int))) (thsC (sy,th) (th.drop k)):=by
  intro hn
  refine down ?_ fun k hk ih=>?_
  ·rw[Zq]
   simp only[Zai,Zs,ZT (Nat.lt_irrefl _),ZC,List.drop_length]
   simp[thsC]
  ·have hkt:Ze7 (sy,th) th[k]=true:=hth _ (List.getElem_mem hk)
   rw[Zq]
   simp only[Zai,Zs,Zaz hk,nng,Bool.and_self,if_true,Int.toNat_natCast,ZV hk,ZF (k:=k) (by omega),hkt]
   rw[ZY hk]
   unfold thsC
   show (if (threadC (sy,th) th[k] !=0)=true then _ else _)
   by_cases h:threadC (sy,th) th[k]=0
   ·rw[if_neg (by simp[h]),if_neg (by simp[h])];exact ih
   ·rw[if_pos (by simp[h]),if_pos h];exact .leaf
 have main:sy.length≤64→th.length≤64→∀k,k≤sy.length→Goes (Zai (sy,th)) (.jmp (.l6 (k:Int))) (symsC (thsC (sy,th) th) ((sy.take k).map fun s=>s.1) (sy.drop k)):=by
  intro hn hm
  refine down ?_ fun k hk ih=>?_
  ·rw[Zq,List.drop_length]
   unfold symsC
   simp only[Zai,Zs,ZT (Nat.lt_irrefl _)]
   rw[if_neg (by decide)]
   simpa using ths hm 0 (Nat.zero_le _)
  ·have hkn:Zax sy[k].1=true:=hsy _ (List.getElem_mem hk)
   have htk:(sy.take (k+1)).map (fun s=>s.1)=(sy.take k).map (fun s=>s.1)++[sy[k].1]:=by
    rw[List.take_add_one,List.getElem?_eq_getElem hk,List.map_append];rfl
   rw[htk] at ih
   rw[Zq]
   simp only[Zai,Zs,Zaz hk,nng,Bool.and_self,if_true,Int.toNat_natCast,ZV hk,hkn]
   rw[ZY hk]
   unfold symsC
   generalize sy[k]=s at ih hkn
   obtain ⟨nm,size,init⟩:=s
   dsimp only at ih hkn ⊢
   change Int at size
   by_cases h1:nameRight nm=false
   ·rw[if_pos h1,if_pos (by show (! nameRight nm)=true;rw[h1];rfl)];exact .leaf
   rw[if_neg h1,if_neg (by show ¬(! nameRight nm)=true;simpa using h1)]
   have inner:∀j,j≤k→Goes (Zai (sy,th)) (.jmp (.l16 nm size init (k:Int) (j:Int))) (if (((sy.take k).drop j).map (fun s=>s.1)).contains nm=true then 6 else if size < (1:Int)∨(64:Int) < size∨size < (List.length init:Int) then 5 else symsC (thsC (sy,th) th) ((sy.take k).map (fun s=>s.1)++[nm]) (sy.drop (k+1))):=by
    refine down ?_ fun j hj ihj=>?_
    ·rw[Zq]
     have:(sy.take k).drop k=[]:=List.drop_eq_nil_of_le (by rw[List.length_take];omega)
     rw[this]
     simp only[Zai,Zs,ZF (k:=k) (by omega)]
     rw[if_neg (by simp)]
     simp only[List.map_nil,List.contains_nil,Bool.false_eq_true,if_false]
     by_cases h3:size < 1
     ·rw[if_pos (decide_eq_true h3),if_pos (.inl h3)];exact .leaf
     rw[if_neg (by simpa using h3)]
     by_cases h4:64 < size
     ·rw[if_pos (decide_eq_true h4),if_pos (.inr (.inl h4))];exact .leaf
     rw[if_neg (by simpa using h4)]
     by_cases h5:size < (List.length init:Int)
     ·rw[if_pos (show decide (Int.ofNat (List.length init) > size)=true from decide_eq_true h5),if_pos (.inr (.inr h5))];exact .leaf
     rw[if_neg (show ¬decide (Int.ofNat (List.length init) > size)=true by simpa using h5),if_neg (by rintro (h | h | h) <;> contradiction)]
     exact ih
    ·have hjs:j < sy.length:=by omega
     have hjt:j < (sy.take k).length:=by rw[List.length_take];omega
     rw[Zq,ZY hjt,List.map_cons,List.contains_cons,List.getElem_take]
     simp only[Zai,Zs,Zaz hjs,nng,Bool.and_self,if_true,Int.toNat_natCast,ZV hjs,ZF (k:=j) (by omega),Zjg]
     rw[if_pos (by simp;omega)]
     by_cases h2:sy[j].1=nm
     ·rw[if_pos h2,if_pos (by rw[h2];simp)];exact .leaf
     ·rw[if_neg h2,beq_false_of_ne (Ne.symm h2),Bool.false_or];exact ihj
   simpa using inner 0 (Nat.zero_le _)
 unfold Zh9 Z5 checkC
 simp only[Zs]
 by_cases h:64 < sy.length
 ·rw[if_pos (by simp;omega),if_pos (.inl h)];exact .leaf
 rw[if_neg (by simp;omega)]
 by_cases h2:64 < th.length
 ·rw[if_pos (by simp;omega),if_pos (.inr h2)];exact .leaf
 rw[if_neg (by simp;omega),if_neg (by rintro (h | h) <;> contradiction)]
 exact main (by omega) (by omega) 0 (Nat.zero_le _)
end Go.Ev
end

section
open Go Go.Ev
namespace Go.Ev
noncomputable section
noncomputable def Zm5:Run:=entG ZcC Zf7 (fun a=>Zad a.1) (fun a=>Z5 a.1)
theorem ZrU:EntOK Go.Proofs.Tryd.prog 9 Zm5:=ZaF (tb:=Zih) (c:=ZfQ) Zsb (by kernel_rfl) (by kernel_rfl) (by kernel_rfl) (fun a=>by kernel_rfl) fun ⟨p,_⟩ hk=>Zo (c:=ZfQ) (K:=fun v=>(Zf7 v,tps (toForms ZcC (p,())))) (S:=Zce p) (by kernel_rfl) (Zr8 p) (Zq9 p) (Zue p hk)
end
end Go.Ev
end

section
open Go Go.Ev
namespace Go.Ev
noncomputable section
def Zcy:Sig:=[(true,(.sl Zb)),(false,.str)]
noncomputable def ZiR:Tbl:=[]
theorem Zq1:∀p∈ZiR,EntOK Go.Proofs.Tryd.prog p.1 p.2:=Zv
noncomputable def Zf3:Code:=Go.Proofs.Tryd.f23.body.getD .skip
def ZhF:Tb:=[(3,⟨[1,10,11,12],[]⟩),(9,⟨[1,5,10,11,12,18,19,20],[]⟩)]
inductive Zei where | l3 (h:Int) | l9 (h:List ByteArray) (h1:Int) (h2:Int) (k:Int) (h3:Int)
def Zbe (t:List (El Zb)) (label:ByteArray):Zei→JT Zei (Int) |.l3 h=>.br (decide (h < (Int.ofNat (List.length t)))) (.br ((decide ((0:Int)≤h))&&(decide (h < (Int.ofNat (List.length t))))) (.jmp (.l9 (List.getD t (Int.toNat h) (dflt Zb)).2.2.2.2.2.2 (Int.ofNat (List.length (List.getD t (Int.toNat h) (dflt Zb)).2.2.2.2.2.2)) (0:Int) h h)) (.no)) (.leaf (-1:Int)) |.l9 h h1 h2 k h3=>.br (decide (h2 < h1)) (.br ((decide ((0:Int)≤h2))&&(decide (h2 < (Int.ofNat (List.length h))))) (.br (eqB (List.getD h (Int.toNat h2) (dflt .str)) label) (.leaf k) (.jmp (.l9 h h1 (IntKind.i64.wrap (h2+(1:Int))) k h3))) (.no)) (.jmp (.l3 (IntKind.i64.wrap (h3+(1:Int)))))
def Zh4 (t:List (El Zb)) (label:ByteArray):JT Zei (Int):=.jmp (.l3 (0:Int))
def ZfT:Int→AV:=fun (r:Int)=>.d (.int .i64) r
def Zb9 (t:List (El Zb)) (label:ByteArray):Zei→Nat×St |.l3 h=>(3,⟨mkTm 30 [(1,.d .str label),(10,.d (.sl Zb) t),(11,.d (.int .i64) (Int.ofNat (List.length t))),(12,.d (.int .i64) h)],[]⟩) |.l9 h h1 h2 k h3=>(9,⟨mkTm 30 [(1,.d .str label),(5,.d (.int .i64) k),(10,.d (.sl Zb) t),(11,.d (.int .i64) (Int.ofNat (List.length t))),(12,.d (.int .i64) h3),(18,.d (.sl .str) h),(19,.d (.int .i64) h1),(20,.d (.int .i64) h2)],[]⟩)
theorem ZrS (t:List (El Zb)) (label:ByteArray) (L:Lt):entryA Go.Proofs.Tryd.prog (clOf ZiR) ZhF Go.Proofs.Tryd.f23 Zf3 L (toForms Zcy (t,label,()))=(Zh4 t label).run (fun v=>some (ZfT v,tps (toForms Zcy (t,label,())))) fun j=>L (Zb9 t label j).1 (Zb9 t label j).2:=by kernel_rfl
theorem Zrn (t:List (El Zb)) (label:ByteArray):∀(L:Lt) (j:Zei),procOf (procsF Go.Proofs.Tryd.prog (clOf ZiR) ZhF Go.Proofs.Tryd.f23 Zf3 (toForms Zcy (t,label,()))) (Zb9 t label j).1 L (Zb9 t label j).2=(Zbe t label j).run (fun v=>some (ZfT v,tps (toForms Zcy (t,label,())))) fun j=>L (Zb9 t label j).1 (Zb9 t label j).2 | L,.l3 h=>by kernel_rfl | L,.l9 h h1 h2 k h3=>by kernel_rfl
end
end Go.Ev
end

section
open Go
namespace Go.Ev
def ZaS (t:List (El Zb)) (label:ByteArray):Int:=findI label t 0
def ZaN (t:List (El Zb)) (label:ByteArray):Bool:=decide (t.length < 1099511627776)&&t.all fun i=>decide (i.2.2.2.2.2.2.length < 1099511627776)
theorem Ztu (t:List (El Zb)) (label:ByteArray) (hk:ZaN t label=true):Goes (Zbe t label) (Zh4 t label) (ZaS t label):=by
 unfold ZaN at hk
 simp only[Bool.and_eq_true,decide_eq_true_eq,List.all_eq_true] at hk
 obtain ⟨hn,hl⟩:=hk
 have loop:∀k,k≤t.length→Goes (Zbe t label) (.jmp (.l3 (k:Int))) (findI label (t.drop k) k):=by
  refine down ?_ fun k hk ih=>?_
  ·rw[Zq]
   simp only[Zbe,Zs,ZT (Nat.lt_irrefl _),ZC,List.drop_length]
   simp[findI]
  ·have hli:=hl t[k] (List.getElem_mem hk)
   rw[Zq]
   simp only[Zbe,Zs,Zaz hk,nng,Bool.and_self,if_true,Int.toNat_natCast,ZV hk]
   rw[ZY hk]
   unfold findI
   generalize t[k].2.2.2.2.2.2=ls at hli
   have inner:∀j,j≤ls.length→Goes (Zbe t label) (.jmp (.l9 ls (Int.ofNat ls.length) (j:Int) (k:Int) (k:Int))) (if (ls.drop j).contains label then (k:Int) else findI label (t.drop (k+1)) (k+1)):=by
    refine down ?_ fun j hj ihj=>?_
    ·rw[Zq]
     simp only[Zbe,Zs,ZT (Nat.lt_irrefl _),ZF (k:=k) (by omega),List.drop_length]
     simpa using ih
    ·rw[Zq]
     simp only[Zbe,Zs,Zaz hj,nng,Bool.and_self,if_true,Int.toNat_natCast,ZV hj,ZF (k:=j) (by omega),Zjg]
     rw[ZY hj,List.contains_cons]
     by_cases h:ls[j]=label
     ·rw[if_pos h];subst h;simp[ZC]
     ·rw[if_neg h,beq_false_of_ne (Ne.symm h),Bool.false_or]
      exact ihj
   simpa using inner 0 (Nat.zero_le _)
 unfold Zh4 ZaS
 simpa using loop 0 (Nat.zero_le _)
end Go.Ev
end

section
open Go Go.Ev
namespace Go.Ev
noncomputable section
noncomputable def ZmQ:Run:=entG Zcy ZfT (fun a=>ZaN a.1 a.2.1) (fun a=>ZaS a.1 a.2.1)
theorem Zrv:EntOK Go.Proofs.Tryd.prog 23 ZmQ:=ZaF (tb:=ZhF) (c:=Zf3) Zq1 (by kernel_rfl) (by kernel_rfl) (by kernel_rfl) (fun a=>by kernel_rfl) fun ⟨t,label,_⟩ hk=>Zo (c:=Zf3) (K:=fun v=>(ZfT v,tps (toForms Zcy (t,label,())))) (S:=Zb9 t label) (by kernel_rfl) (ZrS t label) (Zrn t label) (Ztu t label hk)
end
end Go.Ev
end

section
open Go Go.Ev
namespace Go.Ev
noncomputable section
def Zcg:Sig:=[]
noncomputable def ZiZ:Tbl:=[(7,ZhE),(23,ZmQ),(24,Zhj)]
theorem ZqJ:∀p∈ZiZ,EntOK Go.Proofs.Tryd.prog p.1 p.2:=Zl Zkf (Zl Zrv (Zl Zko (Zv)))
noncomputable def Zgg:Code:=Go.Proofs.Tryd.f10.body.getD .skip
def ZhS:Tb:=[]
def ZmN:Empty→JT Empty (Bool):=fun j=>nomatch j
def ZlD:JT Empty (Bool):=.br (Zy ([],[])) (.br ((Zu ([],[]))==(0:Int)) (.br (Zy ([],[[((13:Int),(false,((0:Int),(((0:Int),((0:Int),((0:Int),(0:Int)))),(((0:Int),((0:Int),((0:Int),(0:Int)))),((bs []),[]))))))]])) (.br ((Zu ([],[[((13:Int),(false,((0:Int),(((0:Int),((0:Int),((0:Int),(0:Int)))),(((0:Int),((0:Int),((0:Int),(0:Int)))),((bs []),[]))))))]]))==(9:Int)) (.br (ZaN [((14:Int),(false,((0:Int),(((0:Int),((0:Int),((0:Int),(0:Int)))),(((0:Int),((0:Int),((0:Int),(0:Int)))),((bs []),[(bs [97])]))))))] (bs [97])) (.br ((ZaS [((14:Int),(false,((0:Int),(((0:Int),((0:Int),((0:Int),(0:Int)))),(((0:Int),((0:Int),((0:Int),(0:Int)))),((bs []),[(bs [97])]))))))] (bs [97]))==(0:Int)) (.br (ZaN [((14:Int),(false,((0:Int),(((0:Int),((0:Int),((0:Int),(0:Int)))),(((0:Int),((0:Int),((0:Int),(0:Int)))),((bs []),[(bs [97])]))))))] (bs [98])) (.br ((ZaS [((14:Int),(false,((0:Int),(((0:Int),((0:Int),((0:Int),(0:Int)))),(((0:Int),((0:Int),((0:Int),(0:Int)))),((bs []),[(bs [97])]))))))] (bs [98]))==(-1:Int)) (.br (Zbr [((14:Int),(false,((0:Int),(((0:Int),((0:Int),((0:Int),(0:Int)))),(((0:Int),((0:Int),((0:Int),(0:Int)))),((bs []),[(bs [97])]))))))]) (.leaf ((Zbt [((14:Int),(false,((0:Int),(((0:Int),((0:Int),((0:Int),(0:Int)))),(((0:Int),((0:Int),((0:Int),(0:Int)))),((bs []),[(bs [97])]))))))])==(1:Int))) (.no)) (.leaf false)) (.no)) (.leaf false)) (.no)) (.leaf false)) (.no)) (.leaf false)) (.no)
def Zet:Bool:=bif (Zy ([],[])) then bif ((Zu ([],[]))==(0:Int)) then bif (Zy ([],[[((13:Int),(false,((0:Int),(((0:Int),((0:Int),((0:Int),(0:Int)))),(((0:Int),((0:Int),((0:Int),(0:Int)))),((bs []),[]))))))]])) then bif ((Zu ([],[[((13:Int),(false,((0:Int),(((0:Int),((0:Int),((0:Int),(0:Int)))),(((0:Int),((0:Int),((0:Int),(0:Int)))),((bs []),[]))))))]]))==(9:Int)) then bif (ZaN [((14:Int),(false,((0:Int),(((0:Int),((0:Int),((0:Int),(0:Int)))),(((0:Int),((0:Int),((0:Int),(0:Int)))),((bs []),[(bs [97])]))))))] (bs [97])) then bif ((ZaS [((14:Int),(false,((0:Int),(((0:Int),((0:Int),((0:Int),(0:Int)))),(((0:Int),((0:Int),((0:Int),(0:Int)))),((bs []),[(bs [97])]))))))] (bs [97]))==(0:Int)) then bif (ZaN [((14:Int),(false,((0:Int),(((0:Int),((0:Int),((0:Int),(0:Int)))),(((0:Int),((0:Int),((0:Int),(0:Int)))),((bs []),[(bs [97])]))))))] (bs [98])) then bif ((ZaS [((14:Int),(false,((0:Int),(((0:Int),((0:Int),((0:Int),(0:Int)))),(((0:Int),((0:Int),((0:Int),(0:Int)))),((bs []),[(bs [97])]))))))] (bs [98]))==(-1:Int)) then bif (Zbr [((14:Int),(false,((0:Int),(((0:Int),((0:Int),((0:Int),(0:Int)))),(((0:Int),((0:Int),((0:Int),(0:Int)))),((bs []),[(bs [97])]))))))]) then ((Zbt [((14:Int),(false,((0:Int),(((0:Int),((0:Int),((0:Int),(0:Int)))),(((0:Int),((0:Int),((0:Int),(0:Int)))),((bs []),[(bs [97])]))))))])==(1:Int)) else false else false else false else false else false else false else false else false else false
def Zc8:Bool:=bif (Zy ([],[])) then bif ((Zu ([],[]))==(0:Int)) then bif (Zy ([],[[((13:Int),(false,((0:Int),(((0:Int),((0:Int),((0:Int),(0:Int)))),(((0:Int),((0:Int),((0:Int),(0:Int)))),((bs []),[]))))))]])) then bif ((Zu ([],[[((13:Int),(false,((0:Int),(((0:Int),((0:Int),((0:Int),(0:Int)))),(((0:Int),((0:Int),((0:Int),(0:Int)))),((bs []),[]))))))]]))==(9:Int)) then bif (ZaN [((14:Int),(false,((0:Int),(((0:Int),((0:Int),((0:Int),(0:Int)))),(((0:Int),((0:Int),((0:Int),(0:Int)))),((bs []),[(bs [97])]))))))] (bs [97])) then bif ((ZaS [((14:Int),(false,((0:Int),(((0:Int),((0:Int),((0:Int),(0:Int)))),(((0:Int),((0:Int),((0:Int),(0:Int)))),((bs []),[(bs [97])]))))))] (bs [97]))==(0:Int)) then bif (ZaN [((14:Int),(false,((0:Int),(((0:Int),((0:Int),((0:Int),(0:Int)))),(((0:Int),((0:Int),((0:Int),(0:Int)))),((bs []),[(bs [97])]))))))] (bs [98])) then bif ((ZaS [((14:Int),(false,((0:Int),(((0:Int),((0:Int),((0:Int),(0:Int)))),(((0:Int),((0:Int),((0:Int),(0:Int)))),((bs []),[(bs [97])]))))))] (bs [98]))==(-1:Int)) then bif (Zbr [((14:Int),(false,((0:Int),(((0:Int),((0:Int),((0:Int),(0:Int)))),(((0:Int),((0:Int),((0:Int),(0:Int)))),((bs []),[(bs [97])]))))))]) then true else false else true else false else true else false else true else false else true else false
theorem Ztf (hk:Zc8=true):Goes (ZmN) (ZlD) (Zet):=Goes.brk hk (fun hk=>Goes.brk hk (fun hk=>Goes.brk hk (fun hk=>Goes.brk hk (fun hk=>Goes.brk hk (fun hk=>Goes.brk hk (fun hk=>Goes.brk hk (fun hk=>Goes.brk hk (fun hk=>Goes.brk hk (fun hk=>Goes.leaf) (fun hk=>Goes.nok hk)) (fun hk=>Goes.leaf)) (fun hk=>Goes.nok hk)) (fun hk=>Goes.leaf)) (fun hk=>Goes.nok hk)) (fun hk=>Goes.leaf)) (fun hk=>Goes.nok hk)) (fun hk=>Goes.leaf)) (fun hk=>Goes.nok hk)
def Zgk:Bool→AV:=fun (r:Bool)=>.d .bool r
def Zb7:Empty→Nat×St:=fun j=>nomatch j
theorem ZqS (L:Lt):entryA Go.Proofs.Tryd.prog (clOf ZiZ) ZhS Go.Proofs.Tryd.f10 Zgg L (toForms Zcg (()))=(ZlD).run (fun v=>some (Zgk v,tps (toForms Zcg (())))) fun j=>L (Zb7 j).1 (Zb7 j).2:=by kernel_rfl
theorem ZrQ:∀(L:Lt) (j:Empty),procOf (procsF Go.Proofs.Tryd.prog (clOf ZiZ) ZhS Go.Proofs.Tryd.f10 Zgg (toForms Zcg (()))) (Zb7 j).1 L (Zb7 j).2=(ZmN j).run (fun v=>some (Zgk v,tps (toForms Zcg (())))) fun j=>L (Zb7 j).1 (Zb7 j).2:=fun L j=>nomatch j
noncomputable def ZmV:Run:=entG Zcg Zgk (fun a=>Zc8) (fun a=>Zet)
theorem ZqQ:EntOK Go.Proofs.Tryd.prog 10 ZmV:=ZaF (tb:=ZhS) (c:=Zgg) ZqJ (by kernel_rfl) (by kernel_rfl) (by kernel_rfl) (fun a=>by kernel_rfl) fun _ hk=>Zo (c:=Zgg) (K:=fun v=>(Zgk v,tps (toForms Zcg (())))) (S:=Zb7) (by kernel_rfl) (ZqS) (ZrQ) (Ztf hk)
end
end Go.Ev
end

section
open Go Go.Ev
namespace Go.Ev
noncomputable section
def ZJ:Sig:=[(false,(.sl (.sl Zf))),(false,(.int .i64)),(false,(.int .i64)),(false,(.int .i64)),(false,.str),(false,(.int .i64))]
noncomputable def ZeC:Tbl:=[(5,ZmP),(6,Zn3),(7,ZhE),(8,ZoF),(9,Zm5),(10,ZmV)]
theorem Zmq:∀p∈ZeC,EntOK Go.Proofs.Tryd.prog p.1 p.2:=Zl Zrw (Zl Zt1 (Zl Zkf (Zl Zt8 (Zl ZrU (Zl ZqQ (Zv))))))
noncomputable def ZcR:Code:=Go.Proofs.Tryd.f3.body.getD .skip
def Zg3:Tb:=[(10,⟨[13],[]⟩)]
inductive Zbw where
 | l10 (p:List (El Zk)) (p1:List (List (El Zb)))
def Zey (l:List (List (El Zf))) (how:Int) (at_:Int) (by_:Int) (s:ByteArray) (and_:Int):Zbw→JT Zbw (Bool)
 |.l10 p p1=>
  .br (Zy (p,p1))
   (.br (Zad (p,p1))
    (.br ((Zu (p,p1))==(Z5 (p,p1)))
     (.br Zc8
      (.leaf Zet)
     (.no))
    (.leaf false))
   (.no))
  (.no)
def Zhc (l:List (List (El Zf))) (how:Int) (at_:Int) (by_:Int) (s:ByteArray) (and_:Int):JT Zbw (Bool):=
 .br (ZaL s (40:Int))
  (.br (ZbR l (3:Int) (6:Int))
   (.br (Zy (Zh l (3:Int) (6:Int)))
    (.br ((Zu (Zh l (3:Int) (6:Int))) !=(0:Int))
     (.leaf false)
    (.br (Zap (Zh l (3:Int) (6:Int)) how at_ by_ (Zi s (40:Int)))
     (.br (Zy (Zm (Zh l (3:Int) (6:Int)) how at_ by_ (Zi s (40:Int))))
      (.br (Zad (Zm (Zh l (3:Int) (6:Int)) how at_ by_ (Zi s (40:Int))))
       (.br ((Zu (Zm (Zh l (3:Int) (6:Int)) how at_ by_ (Zi s (40:Int)))) !=(Z5 (Zm (Zh l (3:Int) (6:Int)) how at_ by_ (Zi s (40:Int)))))
        (.leaf false)
       (.br ((Int.ofNat (List.length (Zm (Zh l (3:Int) (6:Int)) how at_ by_ (Zi s (40:Int))).1))==(3:Int))
        (.br (Zap (Zm (Zh l (3:Int) (6:Int)) how at_ by_ (Zi s (40:Int))) and_ by_ at_ (Zi s (40:Int)))
         (.jmp (.l10 (Zm (Zm (Zh l (3:Int) (6:Int)) how at_ by_ (Zi s (40:Int))) and_ by_ at_ (Zi s (40:Int))).1 (Zm (Zm (Zh l (3:Int) (6:Int)) how at_ by_ (Zi s (40:Int))) and_ by_ at_ (Zi s (40:Int))).2))
        (.no))
       (.jmp (.l10 (Zm (Zh l (3:Int) (6:Int)) how at_ by_ (Zi s (40:Int))).1 (Zm (Zh l (3:Int) (6:Int)) how at_ by_ (Zi s (40:Int))).2))))
      (.no))
     (.no))
    (.no)))
   (.no))
  (.no))
 (.no)
def Zat (l:List (List (El Zf))) (how:Int) (at_:Int) (by_:Int) (s:ByteArray) (and_:Int) (p:List (El Zk)) (p1:List (List (El Zb))):Bool:=
 bif (Zy (p,p1)) then
  bif (Zad (p,p1)) then
   bif ((Zu (p,p1))==(Z5 (p,p1))) then
    bif Zc8 then
     Zet
    else false
   else false
  else false
 else false
def Zau (l:List (List (El Zf))) (how:Int) (at_:Int) (by_:Int) (s:ByteArray) (and_:Int) (p:List (El Zk)) (p1:List (List (El Zb))):Bool:=
 bif (Zy (p,p1)) then
  bif (Zad (p,p1)) then
   bif ((Zu (p,p1))==(Z5 (p,p1))) then
    bif Zc8 then
     true
    else false
   else true
  else false
 else false
theorem ZeE (l:List (List (El Zf))) (how:Int) (at_:Int) (by_:Int) (s:ByteArray) (and_:Int) (p:List (El Zk)) (p1:List (List (El Zb))) (hk:Zau l how at_ by_ s and_ p p1=true):Goes (Zey l how at_ by_ s and_) (.jmp (.l10 p p1)) (Zat l how at_ by_ s and_ p p1):=
 Goes.jmp (Goes.brk hk (fun hk=>
  Goes.brk hk (fun hk=>
   Goes.brk hk (fun hk=>
    Goes.brk hk (fun hk=>
     Goes.leaf) (fun hk=>
     Goes.nok hk)) (fun hk=>
    Goes.leaf)) (fun hk=>
   Goes.nok hk)) (fun hk=>
  Goes.nok hk))
def ZcP (l:List (List (El Zf))) (how:Int) (at_:Int) (by_:Int) (s:ByteArray) (and_:Int):Bool:=
 bif (ZaL s (40:Int)) then
  bif (ZbR l (3:Int) (6:Int)) then
   bif (Zy (Zh l (3:Int) (6:Int))) then
    bif ((Zu (Zh l (3:Int) (6:Int))) !=(0:Int)) then
     false
    else bif (Zap (Zh l (3:Int) (6:Int)) how at_ by_ (Zi s (40:Int))) then
     bif (Zy (Zm (Zh l (3:Int) (6:Int)) how at_ by_ (Zi s (40:Int)))) then
      bif (Zad (Zm (Zh l (3:Int) (6:Int)) how at_ by_ (Zi s (40:Int)))) then
       bif ((Zu (Zm (Zh l (3:Int) (6:Int)) how at_ by_ (Zi s (40:Int)))) !=(Z5 (Zm (Zh l (3:Int) (6:Int)) how at_ by_ (Zi s (40:Int))))) then
        false
       else bif ((Int.ofNat (List.length (Zm (Zh l (3:Int) (6:Int)) how at_ by_ (Zi s (40:Int))).1))==(3:Int)) then
        bif (Zap (Zm (Zh l (3:Int) (6:Int)) how at_ by_ (Zi s (40:Int))) and_ by_ at_ (Zi s (40:Int))) then
         Zat l how at_ by_ s and_ (Zm (Zm (Zh l (3:Int) (6:Int)) how at_ by_ (Zi s (40:Int))) and_ by_ at_ (Zi s (40:Int))).1 (Zm (Zm (Zh l (3:Int) (6:Int)) how at_ by_ (Zi s (40:Int))) and_ by_ at_ (Zi s (40:Int))).2
        else false
       else Zat l how at_ by_ s and_ (Zm (Zh l (3:Int) (6:Int)) how at_ by_ (Zi s (40:Int))).1 (Zm (Zh l (3:Int) (6:Int)) how at_ by_ (Zi s (40:Int))).2
      else false
     else false
    else false
   else false
  else false
 else false
def ZcN (l:List (List (El Zf))) (how:Int) (at_:Int) (by_:Int) (s:ByteArray) (and_:Int):Bool:=
 bif (ZaL s (40:Int)) then
  bif (ZbR l (3:Int) (6:Int)) then
   bif (Zy (Zh l (3:Int) (6:Int))) then
    bif ((Zu (Zh l (3:Int) (6:Int))) !=(0:Int)) then
     true
    else bif (Zap (Zh l (3:Int) (6:Int)) how at_ by_ (Zi s (40:Int))) then
     bif (Zy (Zm (Zh l (3:Int) (6:Int)) how at_ by_ (Zi s (40:Int)))) then
      bif (Zad (Zm (Zh l (3:Int) (6:Int)) how at_ by_ (Zi s (40:Int)))) then
       bif ((Zu (Zm (Zh l (3:Int) (6:Int)) how at_ by_ (Zi s (40:Int)))) !=(Z5 (Zm (Zh l (3:Int) (6:Int)) how at_ by_ (Zi s (40:Int))))) then
        true
       else bif ((Int.ofNat (List.length (Zm (Zh l (3:Int) (6:Int)) how at_ by_ (Zi s (40:Int))).1))==(3:Int)) then
        bif (Zap (Zm (Zh l (3:Int) (6:Int)) how at_ by_ (Zi s (40:Int))) and_ by_ at_ (Zi s (40:Int))) then
         Zau l how at_ by_ s and_ (Zm (Zm (Zh l (3:Int) (6:Int)) how at_ by_ (Zi s (40:Int))) and_ by_ at_ (Zi s (40:Int))).1 (Zm (Zm (Zh l (3:Int) (6:Int)) how at_ by_ (Zi s (40:Int))) and_ by_ at_ (Zi s (40:Int))).2
        else false
       else Zau l how at_ by_ s and_ (Zm (Zh l (3:Int) (6:Int)) how at_ by_ (Zi s (40:Int))).1 (Zm (Zh l (3:Int) (6:Int)) how at_ by_ (Zi s (40:Int))).2
      else false
     else false
    else false
   else false
  else false
 else false
theorem Zno (l:List (List (El Zf))) (how:Int) (at_:Int) (by_:Int) (s:ByteArray) (and_:Int) (hk:ZcN l how at_ by_ s and_=true):Goes (Zey l how at_ by_ s and_) (Zhc l how at_ by_ s and_) (ZcP l how at_ by_ s and_):=
 Goes.brk hk (fun hk=>
  Goes.brk hk (fun hk=>
   Goes.brk hk (fun hk=>
    Goes.brk hk (fun hk=>
     Goes.leaf) (fun hk=>
     Goes.brk hk (fun hk=>
      Goes.brk hk (fun hk=>
       Goes.brk hk (fun hk=>
        Goes.brk hk (fun hk=>
         Goes.leaf) (fun hk=>
         Goes.brk hk (fun hk=>
          Goes.brk hk (fun hk=>
           ZeE l how at_ by_ s and_ (Zm (Zm (Zh l (3:Int) (6:Int)) how at_ by_ (Zi s (40:Int))) and_ by_ at_ (Zi s (40:Int))).1 (Zm (Zm (Zh l (3:Int) (6:Int)) how at_ by_ (Zi s (40:Int))) and_ by_ at_ (Zi s (40:Int))).2 hk) (fun hk=>
           Goes.nok hk)) (fun hk=>
          ZeE l how at_ by_ s and_ (Zm (Zh l (3:Int) (6:Int)) how at_ by_ (Zi s (40:Int))).1 (Zm (Zh l (3:Int) (6:Int)) how at_ by_ (Zi s (40:Int))).2 hk))) (fun hk=>
        Goes.nok hk)) (fun hk=>
       Goes.nok hk)) (fun hk=>
      Goes.nok hk))) (fun hk=>
    Goes.nok hk)) (fun hk=>
   Goes.nok hk)) (fun hk=>
  Goes.nok hk)
def ZcQ:Bool→AV:=fun (r:Bool)=>.d .bool r
def Zas (l:List (List (El Zf))) (how:Int) (at_:Int) (by_:Int) (s:ByteArray) (and_:Int):Zbw→Nat×St
 |.l10 p p1=>(10,⟨mkTm 50 [(13,.pt 14 0 0)],[(14,0,.box 27 [.own 14337 0 none,.dn 14338 0 []] none),(14337,0,.row 47 Zk p false),(14338,0,.deep 39 (.ro (.pr (.leaf (.int .i64)) (.pr (.leaf .bool) (.pr (.leaf (.int .i64)) (.pr (.leaf Zc) (.pr (.leaf Zc) (.pr (.leaf .str) (.ro (.leaf .str))))))))) p1)]⟩)
theorem Zmn (l:List (List (El Zf))) (how:Int) (at_:Int) (by_:Int) (s:ByteArray) (and_:Int) (L:Lt):entryA Go.Proofs.Tryd.prog (clOf ZeC) Zg3 Go.Proofs.Tryd.f3 ZcR L (toForms ZJ (l,how,at_,by_,s,and_,()))=(Zhc l how at_ by_ s and_).run (fun v=>some (ZcQ v,tps (toForms ZJ (l,how,at_,by_,s,and_,())))) fun j=>L (Zas l how at_ by_ s and_ j).1 (Zas l how at_ by_ s and_ j).2:=by kernel_rfl
theorem Zmc (l:List (List (El Zf))) (how:Int) (at_:Int) (by_:Int) (s:ByteArray) (and_:Int):∀(L:Lt) (j:Zbw),procOf (procsF Go.Proofs.Tryd.prog (clOf ZeC) Zg3 Go.Proofs.Tryd.f3 ZcR (toForms ZJ (l,how,at_,by_,s,and_,()))) (Zas l how at_ by_ s and_ j).1 L (Zas l how at_ by_ s and_ j).2=(Zey l how at_ by_ s and_ j).run (fun v=>some (ZcQ v,tps (toForms ZJ (l,how,at_,by_,s,and_,())))) fun j=>L (Zas l how at_ by_ s and_ j).1 (Zas l how at_ by_ s and_ j).2
 | L,.l10 p p1=>by kernel_rfl
theorem Zmk (l:List (List (El Zf))) (how:Int) (at_:Int) (by_:Int) (s:ByteArray) (and_:Int) (hk:ZcN l how at_ by_ s and_=true):CallOK Go.Proofs.Tryd.prog 3 (toForms ZJ (l,how,at_,by_,s,and_,())) (ZcQ (ZcP l how at_ by_ s and_),tps (toForms ZJ (l,how,at_,by_,s,and_,()))):=by
 obtain ⟨h1,h2⟩:=ZoO Zmq
 obtain ⟨n,hn⟩:=Zo (c:=ZcR) (K:=fun v=>(ZcQ v,tps (toForms ZJ (l,how,at_,by_,s,and_,())))) (S:=Zas l how at_ by_ s and_) (by kernel_rfl) (Zmn l how at_ by_ s and_) (Zmc l how at_ by_ s and_) (Zno l how at_ by_ s and_ hk)
 exact Zlu (f:=3) (c:=ZcR) h1 h2 (by kernel_rfl) (by kernel_rfl) (by kernel_rfl) hn
end
end Go.Ev
end

section
set_option maxHeartbeats 1000000
namespace Go.Ev
open Go
def okI (n:Nat) (i:El Zb):Prop:=smallText i.2.2.2.2.2.1=true∧List.length i.2.2.2.2.2.2≤n∧∀l∈i.2.2.2.2.2.2,smallText l=true
def okT (n:Nat) (t:List (El Zb)):Prop:=1≤t.length∧t.length≤91∧∀i∈t,okI n i
def okP (n:Nat) (p:El Ze):Prop:=(∀s∈p.1,smallText s.1=true)∧p.2.length≤3∧∀t∈p.2,okT n t
theorem okI.mono {n:Nat} {i:El Zb} (h:okI n i):okI (n+1) i:=⟨h.1,Nat.le_succ_of_le h.2.1,h.2.2⟩
theorem okT.mono {n:Nat} {t:List (El Zb)} (h:okT n t):okT (n+1) t:=⟨h.1,h.2.1,fun i hi=>(h.2.2 i hi).mono⟩
theorem okP.mono {n:Nat} {p:El Ze} (h:okP n p):okP (n+1) p:=⟨h.1,h.2.1,fun t ht=>(h.2.2 t ht).mono⟩
theorem ZvM {n:Nat} {t:List (El Zb)} (h:∀i∈t,okI n i):(labels t).length≤n*t.length:=by
 unfold labels
 induction t with
 | nil=>simp
 | cons i r ih=>
  rw[List.flatMap_cons,List.length_append,List.length_cons,Nat.mul_add]
  have h1:=(h i (by simp)).2.1
  have h2:=ih fun j hj=>h j (by simp[hj])
  omega
theorem okP.small {n:Nat} (hn:n≤100) {p:El Ze} (h:okP n p):smallProg p=true:=by
 unfold smallProg
 simp only[Bool.and_eq_true,List.all_eq_true]
 refine ⟨h.1,fun t ht=>?_⟩
 obtain ⟨h1,h2,h3⟩:=h.2.2 t ht
 have h4:=ZvM h3
 have h5:n*t.length≤100*91:=Nat.mul_le_mul hn h2
 unfold smallThread
 simp only[Bool.and_eq_true,decide_eq_true_eq,List.all_eq_true]
 exact ⟨by omega,by omega,fun i hi=>⟨(h3 i hi).1,(h3 i hi).2.2⟩⟩
theorem Zr4 {n:Nat} {sy:List (El Zk)} {th:List (List (El Zb))} (h:okP n (sy,th)) {y:Nat} {e:El Zk} (he:smallText e.1=true):okP (n+1) (sy.set y e,th):=
 ⟨fun s hs=>by
  rcases List.mem_or_eq_of_mem_set hs with hs | rfl
  ·exact h.1 s hs
  ·exact he,h.2.1,fun t ht=>(h.2.2 t ht).mono⟩
theorem Zx2 {n:Nat} {sy:List (El Zk)} {th:List (List (El Zb))} (h:okP n (sy,th)) {A k:Nat} (hA:A < th.length) {e:El Zb} (he:okI (n+1) e):okP (n+1) (sy,th.set A ((th.getD A (dflt (.sl Zb))).set k e)):=
 ⟨h.1,by show (th.set A _).length≤3;rw[List.length_set];exact h.2.1,fun t ht=>by
  have hx:okT n (th.getD A (dflt (.sl Zb))):=by rw[ZV hA];exact h.2.2 _ (List.getElem_mem hA)
  rcases List.mem_or_eq_of_mem_set ht with ht | rfl
  ·exact (h.2.2 t ht).mono
  ·refine ⟨by rw[List.length_set];exact hx.1,by rw[List.length_set];exact hx.2.1,fun i hi=>?_⟩
   rcases List.mem_or_eq_of_mem_set hi with hi | rfl
   ·exact (hx.2.2 i hi).mono
   ·exact he⟩
theorem Zw1 {n:Nat} {sy:List (El Zk)} {th:List (List (El Zb))} (h:okP n (sy,th)) {y:Nat} :okP (n+1) (sy.take y,th):=⟨fun s hs=>h.1 s (List.mem_of_mem_take hs),h.2.1,fun t ht=>(h.2.2 t ht).mono⟩
theorem nbeq {a:Nat} :Nat.beq a a=true:=Nat.beq_refl a
theorem Zv2 {n:Nat} (hn:n≤99) {sy:List (El Zk)} {th:List (List (El Zb))} (h:okP n (sy,th)) (h3:sy.length=3) {how at_ by_:Int} {s:ByteArray} (hs:smallText s=true):
  Zap (sy,th) how at_ by_ s=true∧okP (n+1) (Zm (sy,th) how at_ by_ s):=by
 unfold Zap Zm
 dsimp only
 have hl:th.length≤3:=h.2.1
 cases h0:((Int.ofNat (List.length th))==(0:Int)) with
 | true=>exact ⟨rfl,h.mono⟩
 | false=>
 have hpos:0 < th.length:=by
  have:=beq_eq_false_iff_ne.1 h0
  rcases Nat.eq_zero_or_pos th.length with e | e
  ·rw[e] at this;exact absurd rfl this
  ·exact e
 obtain ⟨kA,a0,a1⟩:=Zav (n:=at_) (m:=Int.ofNat th.length) (by show (0:Int) < ((th.length:Nat):Int);omega) (by show ((th.length:Nat):Int) < _;omega)
 obtain ⟨A,hA⟩:∃A:Nat,Za at_ (Int.ofNat th.length)=(A:Int):=⟨_,(Int.toNat_of_nonneg a0).symm⟩
 have hAl:A < th.length:=by rw[hA] at a1;have a2:((A:Nat):Int) < ((th.length:Nat):Int):=a1;omega
 have bA:=ZlE hAl
 obtain ⟨x,hx⟩:∃x,List.getD th A (dflt (.sl Zb))=x:=⟨_,rfl⟩
 have hok:okT n x:=by rw[←hx,ZV hAl];exact h.2.2 _ (List.getElem_mem hAl)
 have x1:=hok.1
 have x2:=hok.2.1
 obtain ⟨kK,k0,k1⟩:=Zav (n:=IntKind.i64.wrap (Int.tdiv at_ (3:Int))) (m:=Int.ofNat (List.length x)) (by show (0:Int) < ((List.length x:Nat):Int);omega) (by show ((List.length x:Nat):Int) < _;omega)
 obtain ⟨K,hK⟩:∃K:Nat,Za (IntKind.i64.wrap (Int.tdiv at_ (3:Int))) (Int.ofNat (List.length x))=(K:Int):=⟨_,(Int.toNat_of_nonneg k0).symm⟩
 have hKl:K < List.length x:=by rw[hK] at k1;have k2:((K:Nat):Int) < ((List.length x:Nat):Int):=k1;omega
 have bK:=ZlE hKl
 obtain ⟨kY,y0,y1⟩:=Zav (n:=at_) (m:=3) (by omega) (by omega)
 obtain ⟨Y,hY⟩:∃Y:Nat,Za at_ 3=(Y:Int):=⟨_,(Int.toNat_of_nonneg y0).symm⟩
 have hYl:Y < sy.length:=by omega
 have bY:=ZlE hYl
 obtain ⟨kH,w0,w1⟩:=Zav (n:=how) (m:=14) (by omega) (by omega)
 obtain ⟨k5,q0,q1⟩:=Zav (n:=by_) (m:=5) (by omega) (by omega)
 obtain ⟨k4,r0,r1⟩:=Zav (n:=by_) (m:=4) (by omega) (by omega)
 obtain ⟨k3,t0,t1⟩:=Zav (n:=by_) (m:=3) (by omega) (by omega)
 have hi:okI n (List.getD x K (dflt Zb)):=by rw[ZV hKl];exact hok.2.2 _ (List.getElem_mem hKl)
 have hsy:smallText (List.getD sy Y (dflt Zk)).1=true:=by rw[ZV hYl];exact h.1 _ (List.getElem_mem hYl)
 have hm:(((Za by_ 5==Za by_ 5)&&decide ((0:Int)≤Za by_ 5))&&decide (Za by_ 5*8≤((limit:Nat):Int)))=true:=by
  simp only[Bool.and_eq_true,beq_self_eq_true,decide_eq_true_eq,true_and]
  exact ⟨q0,by unfold limit;omega⟩
 have hb:Nat.ble ((List.length (List.getD x K (dflt Zb)).2.2.2.2.2.2+1)*16) limit=true:=by
  apply Nat.ble_eq_true_of_le
  have:=hi.2.1
  unfold limit
  omega
 have hwl:IntKind.i64.wrap (Int.ofNat (List.length x) - 1)=((List.length x - 1:Nat):Int):=by
  rw[wrap_i64 (by show -(9223372036854775808:Int)≤((List.length x:Nat):Int) - 1;omega) (by show ((List.length x:Nat):Int) - 1 < 9223372036854775808;omega)]
  show ((List.length x:Nat):Int) - 1=_
  omega
 have hLl:List.length x - 1 < List.length x:=by omega
 have bL:=ZlE hLl
 have hil:okI n (List.getD x (List.length x - 1) (dflt Zb)):=by rw[ZV hLl];exact hok.2.2 _ (List.getElem_mem hLl)
 have ht:(decide ((0:Int)≤Za by_ 3)&&decide (Za by_ 3≤Int.ofNat (List.length sy)))=true:=by
  simp only[Bool.and_eq_true,decide_eq_true_eq]
  exact ⟨t0,by rw[h3];show Za by_ 3≤3;omega⟩
 have ins:∀ {k:Nat} {e:El Zb},okI (n+1) e→okP (n+1) (sy,th.set A (x.set k e)):=fun he=>by rw[←hx];exact Zx2 h hAl he
 simp only[cond_false,kA,cond_true,hA,Int.toNat_natCast,bA,hx,kK,hK,kY,hY,kH,bK,bY,k5,k4,k3,hm,hb,hwl,bL,ht,nbeq]
 cases e0:(Za how 14==(0:Int)) with
 | true=>exact ⟨by first | rfl | trivial,Zr4 h hs⟩
 | false=>
 simp only[cond_false]
 cases e1:(Za how 14==(1:Int)) with
 | true=>exact ⟨by first | rfl | trivial,Zr4 h hsy⟩
 | false=>
 simp only[cond_false]
 cases e2:(Za how 14==(2:Int)) with
 | true=>exact ⟨by first | rfl | trivial,Zr4 h (show smallText (bs [120])=true by decide+kernel)⟩
 | false=>
 simp only[cond_false]
 cases e3:(Za how 14==(3:Int)) with
 | true=>exact ⟨by first | rfl | trivial,Zr4 h hsy⟩
 | false=>
 simp only[cond_false]
 cases e4:(Za how 14==(4:Int)) with
 | true=>exact ⟨by first | rfl | trivial,ins ⟨hi.1,by show List.length (_++[s])≤n+1;rw[List.length_append];exact Nat.succ_le_succ hi.2.1,fun l hl=>by
   rcases List.mem_append.1 hl with hl | hl
   ·exact hi.2.2 l hl
   ·rw[List.mem_singleton] at hl;rw[hl];exact hs⟩⟩
 | false=>
 simp only[cond_false]
 cases e5:(Za how 14==(5:Int)) with
 | true=>exact ⟨by first | rfl | trivial,ins ⟨hs,Nat.le_succ_of_le hi.2.1,hi.2.2⟩⟩
 | false=>
 simp only[cond_false]
 cases e6:(Za how 14==(6:Int)) with
 | true=>exact ⟨by first | rfl | trivial,ins hi.mono⟩
 | false=>
 simp only[cond_false]
 cases e7:(Za how 14==(7:Int)) with
 | true=>exact ⟨by first | rfl | trivial,ins hi.mono⟩
 | false=>
 simp only[cond_false]
 cases e8:(Za how 14==(8:Int)) with
 | true=>exact ⟨by first | rfl | trivial,ins hi.mono⟩
 | false=>
 simp only[cond_false]
 cases e9:(Za how 14==(9:Int)) with
 | true=>exact ⟨by first | rfl | trivial,ins hi.mono⟩
 | false=>
 simp only[cond_false]
 cases e10:(Za how 14==(10:Int)) with
 | true=>exact ⟨by first | rfl | trivial,ins hi.mono⟩
 | false=>
 simp only[cond_false]
 cases e11:(Za how 14==(11:Int)) with
 | true=>exact ⟨by first | rfl | trivial,ins ⟨show smallText (bs [108,48,48])=true by decide+kernel,Nat.zero_le _,fun l hl=>by cases hl⟩⟩
 | false=>
 simp only[cond_false]
 cases e12:(Za how 14==(12:Int)) with
 | true=>exact ⟨by first | rfl | trivial,ins hil.mono⟩
 | false=>
 simp only[cond_false]
 exact ⟨by first | rfl | trivial,Zw1 h⟩
end Go.Ev
end

section
namespace Go.Ev
open Go
theorem ZpQ (i:El Zb) (ls:List ByteArray):ZA (setL i ls)=ZA i:=rfl
theorem Zx7 (i:El Zb) (ls:List ByteArray):(setL i ls).2.2.2.2.2.1=i.2.2.2.2.2.1:=rfl
theorem Zp0 {th:List (List (El Zb))} {k r s n:Int} (h:k=3∨k=4→placeOK k s n=true):placeC (symsB,th) (k,(r,(s,n)))=0:=by
 show placeN 3 _ k s n=0
 unfold placeN
 by_cases hk:k=3∨k=4
 ·rw[if_pos hk]
  have:=h hk
  unfold placeOK at this
  simp only[Bool.and_eq_true,decide_eq_true_eq,Bool.or_eq_true,beq_iff_eq] at this
  obtain ⟨h0,h3,hn⟩:=this
  rw[if_neg (by omega)]
  have hs:s=0∨s=1∨s=2:=by omega
  rcases hs with rfl | rfl | rfl
  ·rw[if_neg]
   rintro ⟨h1,h2⟩
   have h2:(1:Int)≤n:=h2
   rcases hn with hn | hn
   ·omega
   ·have hn:n < (1:Int):=hn
    omega
  ·rw[if_neg]
   rintro ⟨h1,h2⟩
   have h2:(2:Int)≤n:=h2
   rcases hn with hn | hn
   ·omega
   ·have hn:n < (2:Int):=hn
    omega
  ·rw[if_neg]
   rintro ⟨h1,h2⟩
   have h2:(1:Int)≤n:=h2
   rcases hn with hn | hn
   ·omega
   ·have hn:n < (1:Int):=hn
    omega
 ·rw[if_neg hk]
theorem ZwY {th:List (List (El Zb))} {many:Int} {i:El Zb} (h:BookOK many i) (ls:List ByteArray):insC (symsB,th) (setL i ls)=0:=by
 have hA:placeC (symsB,th) i.2.2.2.1=0:=Zp0 (k:=i.2.2.2.1.1) (r:=i.2.2.2.1.2.1) (s:=i.2.2.2.1.2.2.1) (n:=i.2.2.2.1.2.2.2) h.placeA
 have hB:placeC (symsB,th) i.2.2.2.2.1=0:=Zp0 (k:=i.2.2.2.2.1.1) (r:=i.2.2.2.2.1.2.1) (s:=i.2.2.2.2.1.2.2.1) (n:=i.2.2.2.2.1.2.2.2) h.placeB
 unfold insC
 rw[ZpQ,h.right]
 show (if (0:Int)≠0 then _ else if placeC (symsB,th) i.2.2.2.1≠0 then _ else placeC (symsB,th) i.2.2.2.2.1)=0
 rw[hA,hB]
 rfl
theorem ZsP {p:El Ze} {K:List ByteArray→Int} :∀(x:List (El Zb)) (k:Nat) (seen:List ByteArray),
  (∀(j:Nat) (i:El Zb),x[j]? =some i→(i.2.2.2.2.2.2=[]∨i.2.2.2.2.2.2=[Zg ((k+j:Nat):Int)])∧insC p i=0)→(∀l∈seen,∃k',k' < k∧l=Zg (k':Int))→k+x.length≤100→scanI p K seen x=K (seen++labels x)
 | [],k,seen,_,_,_=>by simp[scanI,labels]
 | i :: r,k,seen,h,hs,hk=>by
  obtain ⟨hl,hi⟩:=h 0 i rfl
  rw[List.length_cons] at hk
  have hr:=fun seen' hs'=>ZsP (K:=K) r (k+1) seen' (fun j y hy=>by
   have:=h (j+1) y (by simpa using hy)
   rwa[show k+(j+1)=k+1+j by omega] at this) hs' (by omega)
  unfold scanI
  rcases hl with hl | hl
  ·rw[hl]
   unfold scanL
   rw[hi]
   simp only[ne_eq,not_true_eq_false,if_false]
   rw[hr seen fun l hl=>by obtain ⟨k',h1,h2⟩:=hs l hl;exact ⟨k',by omega,h2⟩]
   unfold labels
   rw[List.flatMap_cons,hl,List.nil_append]
  ·rw[hl,Nat.add_zero]
   unfold scanL
   rw[if_neg (by rw[(ZhG (k:=(k:Int)) (by omega) (by omega)).1];decide)]
   have hns:seen.contains (Zg (k:Int))=false:=by
    rw[Bool.eq_false_iff]
    intro hc
    rw[List.contains_iff_mem] at hc
    obtain ⟨k',h1,h2⟩:=hs _ hc
    have:=Zwb (by omega) (by omega) h2
    omega
   rw[if_neg (by rw[hns];decide)]
   unfold scanL
   rw[hi]
   simp only[ne_eq,not_true_eq_false,if_false]
   rw[hr _ fun l hl=>by
    rcases List.mem_append.1 hl with hl | hl
    ·obtain ⟨k',h1,h2⟩:=hs l hl;exact ⟨k',by omega,h2⟩
    ·rw[List.mem_singleton] at hl;exact ⟨k,by omega,hl⟩]
   unfold labels
   rw[List.flatMap_cons,hl,Nat.add_zero,List.append_assoc]
theorem ZtZ {seen:List ByteArray} :∀ {x:List (El Zb)},(∀i∈x,((i.1==(10:Int)) || (i.1==(11:Int)))=true→seen.contains i.2.2.2.2.2.1=true)→jumpC seen x=0
 | [],_=>rfl
 | i :: r,h=>by
  unfold jumpC
  have ih:=ZtZ fun j hj=>h j (List.mem_cons_of_mem _ hj)
  by_cases hj:((i.1==(10:Int)) || (i.1==(11:Int)))=true
  ·rw[if_pos hj,if_pos (h i (List.mem_cons_self ..) hj)];exact ih
  ·rw[if_neg hj];exact ih
theorem Zfr {a:List (El Zf)} {n:Nat} (hn:n≤90) (ha:n≤a.length) {k:Nat} {i:El Zb} (h:(threadB a n)[k]? =some i):
  (k < n∧∃x,(baseT a n)[k]? =some x∧BookOK ((n+1:Nat):Int) x∧i=setL x (if sAt (baseT a n) n k then [Zg (k:Int)] else []))∨(k=n∧i=setL (bare 14) (if sAt (baseT a n) n k then [Zg (k:Int)] else [])):=by
 have hl:=Zjf a n ha
 obtain ⟨hk,he⟩:=List.getElem?_eq_some_iff.1 h
 unfold threadB at hk he
 rw[ZcI hk] at he
 rw[ZaA,hl] at hk
 by_cases hkn:k < n
 ·obtain ⟨x,h1,h2⟩:=ZvI hn hkn ha
  obtain ⟨h3,h4⟩:=List.getElem?_eq_some_iff.1 h1
  rw[h4] at he
  exact .inl ⟨hkn,_,h1,h2,he.symm⟩
 ·have hkn:k=n:=by omega
  subst hkn
  have:(baseT a k)[k]'(by omega)=bare 14:=by
   unfold baseT
   rw[List.getElem_append_right (by simp;omega)]
   simp
  rw[this] at he
  exact .inr ⟨rfl,he.symm⟩
theorem ZuC (many:Int) (ls:List ByteArray) {th:List (List (El Zb))} :insC (symsB,th) (setL (bare 14) ls)=0:=by
 unfold insC
 rw[ZpQ,ZvP (.inr (.inr rfl))]
 rfl
theorem ZvD {x:List (El Zb)} {k:Nat} {i:El Zb} {l:ByteArray} (h:x[k]? =some i) (hl:l∈i.2.2.2.2.2.2):(labels x).contains l=true:=by
 rw[List.contains_iff_mem]
 unfold labels
 exact List.mem_flatMap.2 ⟨i,List.mem_of_getElem? h,hl⟩
theorem Ztb {a:List (El Zf)} {n:Nat} (hn:n≤90) (ha:n≤a.length) {th:List (List (El Zb))} :threadC (symsB,th) (threadB a n)=0:=by
 have hlen:(threadB a n).length=n+1:=by unfold threadB;rw[ZaA,Zjf a n ha]
 unfold threadC
 have hc:=Zwf (threadB a n)
 rw[if_neg (by omega),ZsP (threadB a n) 0 [] (fun j i h=>by
  rw[Nat.zero_add]
  rcases Zfr hn ha h with ⟨_,x,_,hx,rfl⟩ | ⟨_,rfl⟩
  ·refine ⟨?_,ZwY hx _⟩
   show (if _ then [Zg (j:Int)] else [])=[]∨(if _ then [Zg (j:Int)] else [])=[Zg (j:Int)]
   split
   ·exact .inr rfl
   ·exact .inl rfl
  ·refine ⟨?_,ZuC 0 _⟩
   show (if _ then [Zg (j:Int)] else [])=[]∨(if _ then [Zg (j:Int)] else [])=[Zg (j:Int)]
   split
   ·exact .inr rfl
   ·exact .inl rfl) (fun l hl=>by cases hl) (by omega)]
 rw[List.nil_append,Zuq (by omega)]
 have hlast:(threadB a n)[(threadB a n).length - 1]? =some ((threadB a n)[(threadB a n).length - 1]'(by omega)):=List.getElem?_eq_getElem (by omega)
 have h14:(((threadB a n)[(threadB a n).length - 1]'(by omega)).1==(10:Int) || ((threadB a n)[(threadB a n).length - 1]'(by omega)).1==(14:Int))=true:=by
  rcases Zfr hn ha hlast with ⟨h1,_⟩ | ⟨_,h2⟩
  ·omega
  ·rw[h2];rfl
 rw[if_pos h14]
 refine ZtZ fun i hi hj=>?_
 obtain ⟨k,hk⟩:=List.getElem?_of_mem hi
 rcases Zfr hn ha hk with ⟨hkn,x,hx,hb,rfl⟩ | ⟨_,rfl⟩
 ·rw[Zx7]
  rcases hb.to with ⟨h1,h2,_⟩ | ⟨_,m,m0,m1,e⟩
  ·exfalso
   have hj:((x.1==(10:Int)) || (x.1==(11:Int)))=true:=hj
   simp only[Bool.or_eq_true,beq_iff_eq] at hj
   rcases hj with hj | hj
   ·exact h1 hj
   ·exact h2 hj
  ·rw[e]
   obtain ⟨q,rfl⟩:∃q:Nat,m=(q:Int):=⟨m.toNat,by omega⟩
   have hqn:q < n+1:=by omega
   have hq:(threadB a n)[q]? =some ((threadB a n)[q]'(by omega)):=List.getElem?_eq_getElem (by omega)
   have hs:sAt (baseT a n) n q=true:=by
    unfold sAt
    rw[List.any_eq_true]
    exact ⟨x,List.mem_of_getElem? (i:=k) (by rw[List.getElem?_take,if_pos hkn];exact hx),decide_eq_true e⟩
   refine ZvD hq ?_
   rcases Zfr hn ha hq with ⟨_,y,_,_,h2⟩ | ⟨_,h2⟩
   ·rw[h2,hs];exact List.mem_singleton.2 rfl
   ·rw[h2,hs];exact List.mem_singleton.2 rfl
 ·cases hj
theorem Zp8 {a:List (El Zf)} {n:Nat} (hn:n≤90) (ha:n≤a.length):smallThread (threadB a n)=true:=by
 have hlen:(threadB a n).length=n+1:=by unfold threadB;rw[ZaA,Zjf a n ha]
 have hlab:∀i∈threadB a n,smallText i.2.2.2.2.2.1=true∧i.2.2.2.2.2.2.length≤1∧∀l∈i.2.2.2.2.2.2,smallText l=true:=fun i hi=>by
  obtain ⟨k,hk⟩:=List.getElem?_of_mem hi
  have hkl:=(List.getElem?_eq_some_iff.1 hk).1
  have hls:∀b:Bool,(if b=true then [Zg (k:Int)] else []).length≤1∧∀l∈(if b=true then [Zg (k:Int)] else []),smallText l=true:=fun b=>by
   cases b with
   | false=>exact ⟨by simp,fun l hl=>by simp at hl⟩
   | true=>exact ⟨by simp,fun l hl=>by
     rw[if_pos rfl,List.mem_singleton] at hl
     rw[hl];exact (ZhG (by omega) (by omega)).2⟩
  rcases Zfr hn ha hk with ⟨hkn,x,hx,hb,rfl⟩ | ⟨_,rfl⟩
  ·exact ⟨hb.small (by omega),hls _⟩
  ·exact ⟨(by decide:smallText (bs [])=true),hls _⟩
 have:=Zwr (t:=threadB a n) (n:=1) fun i hi=>(hlab i hi).2.1
 unfold smallThread
 simp only[Bool.and_eq_true,decide_eq_true_eq,List.all_eq_true]
 exact ⟨by omega,by omega,fun i hi=>⟨(hlab i hi).1,(hlab i hi).2.2⟩⟩
theorem ZvL (K:Int):symsC K [] symsB=K:=by kernel_rfl
theorem Ztg {p:El Ze} :∀ {th:List (List (El Zb))},(∀t∈th,threadC p t=0)→thsC p th=0
 | [],_=>rfl
 | t :: r,h=>by
  unfold thsC
  rw[h t (List.mem_cons_self ..)]
  simp only[ne_eq,not_true_eq_false,if_false]
  exact Ztg fun x hx=>h x (List.mem_cons_of_mem _ hx)
theorem ZvV (l:List (List (El Zf))) {threads many:Int} (h0:0≤threads) (h1:threads≤64) (m0:0≤many) (m1:many≤90):checkC (Zh l threads many)=0∧smallProg (Zh l threads many)=true∧ZbR l threads many=true:=by
 refine ⟨?_,?_,?_⟩
 ·unfold checkC Zh
  show (if 64 < symsB.length∨64 < ((l.take threads.toNat).map fun a=>threadB a (min a.length many.toNat)).length then (10:Int) else symsC (thsC _ ((l.take threads.toNat).map fun a=>threadB a (min a.length many.toNat))) [] symsB)=0
  rw[if_neg,ZvL]
  ·exact Ztg fun t ht=>by
    obtain ⟨a,_,rfl⟩:=List.mem_map.1 ht
    exact Ztb (by omega) (by omega)
  ·rw[List.length_map,List.length_take]
   have:symsB.length=3:=rfl
   omega
 ·unfold smallProg Zh
  simp only[Bool.and_eq_true,List.all_eq_true]
  refine ⟨?_,fun t ht=>?_⟩
  ·have:symsB.all (fun s=>smallText s.1)=true:=by decide+kernel
   rw[List.all_eq_true] at this
   exact this
  ·obtain ⟨a,_,rfl⟩:=List.mem_map.1 ht
   exact Zp8 (by omega) (by omega)
 ·unfold ZbR
  simp only[Bool.and_eq_true,decide_eq_true_eq]
  omega
end Go.Ev
end

section
namespace Go.Ev
open Go
theorem Zxz:Zc8=true:=by decide+kernel
theorem Zw9:Zet=true:=by decide+kernel
end Go.Ev
end

section
namespace Go.Ev
open Go
theorem Zvh {s:ByteArray} {n:Int} (h:0≤n):ZaL s n=true:=by
 unfold ZaL
 have h0:(0:Int)≤Int.ofNat s.size:=Int.natCast_nonneg _
 have h1:(0:Int)≤minI (Int.ofNat s.size) n:=by unfold minI;split <;> omega
 have h2:minI (Int.ofNat s.size) n≤Int.ofNat s.size:=by unfold minI;split <;> omega
 simp only[decide_eq_true h1,decide_eq_true h2,Bool.and_self,cond_true]
theorem Zu9 (s:ByteArray):smallText (Zi s 40)=true:=by
 refine decide_eq_true ?_
 have hk:ZaL s 40=true:=Zvh (by omega)
 have h2:minI (Int.ofNat s.size) 40≤40:=by unfold minI;split <;> omega
 have h1:(0:Int)≤minI (Int.ofNat s.size) 40:=by have:(0:Int)≤Int.ofNat s.size:=Int.natCast_nonneg _;unfold minI;split <;> omega
 have h3:minI (Int.ofNat s.size) 40≤Int.ofNat s.size:=by unfold minI;split <;> omega
 unfold Zi
 simp only[decide_eq_true h1,decide_eq_true h3,Bool.and_self,cond_true]
 rw[ByteArray.size_extract]
 omega
theorem ZxD (l:List (List (El Zf))):okP 1 (Zh l 3 6):=by
 refine ⟨show ∀s∈symsB,smallText s.1=true by decide+kernel,?_,fun t ht=>?_⟩
 ·show ((l.take 3).map fun a=>threadB a (min a.length 6)).length≤3
  rw[List.length_map,List.length_take];omega
 ·obtain ⟨a,_,rfl⟩:=List.mem_map.1 (show t∈(l.take 3).map fun a=>threadB a (min a.length 6) from ht)
  have hs:=Zp8 (a:=a) (n:=min a.length 6) (by omega) (by omega)
  unfold smallThread at hs
  simp only[Bool.and_eq_true,decide_eq_true_eq,List.all_eq_true] at hs
  have hlen:(threadB a (min a.length 6)).length=min a.length 6+1:=by
   unfold threadB
   rw[ZaA,Zjf a _ (by omega)]
  refine ⟨by omega,by omega,fun i hi=>⟨(hs.2.2 i hi).1,?_,(hs.2.2 i hi).2⟩⟩
  obtain ⟨k,hk,rfl⟩:=List.mem_iff_getElem.1 hi
  have hg:=ZcI (s:=sAt (baseT a (min a.length 6)) (min a.length 6)) (b:=baseT a (min a.length 6)) hk
  have hg':(threadB a (min a.length 6))[k]=_:=hg
  rw[hg']
  show (if sAt (baseT a (min a.length 6)) (min a.length 6) k then [Zg (k:Int)] else []).length≤1
  split <;> simp
theorem Zuc (l:List (List (El Zf))) (how at_ by_:Int) (s:ByteArray) (and_:Int) {p:El Ze} {n:Nat} (hn:n≤100) (h:okP n p):Zat l how at_ by_ s and_ p.1 p.2=true∧Zau l how at_ by_ s and_ p.1 p.2=true:=by
 have hs:=h.small hn
 have k1:Zy (p.1,p.2)=true:=hs
 have k2:Zad (p.1,p.2)=true:=hs
 have e:(Zu (p.1,p.2)==Z5 (p.1,p.2))=true:=by unfold Zu Z5;simp
 unfold Zat Zau
 simp only[k1,k2,e,cond_true,Zxz,Zw9,Bool.cond_self,and_self]
theorem Zug (l:List (List (El Zf))) (how at_ by_:Int) (s:ByteArray) (and_:Int):ZcP l how at_ by_ s and_=true∧ZcN l how at_ by_ s and_=true:=by
 obtain ⟨hc,hsm,hk⟩:=ZvV l (threads:=3) (many:=6) (by omega) (by omega) (by omega) (by omega)
 have h1:=ZxD l
 have hss:=Zu9 s
 have hks:ZaL s 40=true:=Zvh (by omega)
 obtain ⟨p,hp⟩:∃p,Zh l 3 6=p:=⟨_,rfl⟩
 have h3:p.1.length=3:=by rw[←hp];rfl
 rw[hp] at hc hsm h1
 obtain ⟨s',hs'⟩:∃s',Zi s 40=s':=⟨_,rfl⟩
 rw[hs'] at hss
 have b1:=Zv2 (n:=1) (by omega) (sy:=p.1) (th:=p.2) h1 h3 (how:=how) (at_:=at_) (by_:=by_) hss
 obtain ⟨b1a,b1b⟩:=b1
 have b1a':Zap p how at_ by_ s'=true:=b1a
 have b1b':okP 2 (Zm p how at_ by_ s'):=b1b
 obtain ⟨p2,hp2⟩:∃p2,Zm p how at_ by_ s'=p2:=⟨_,rfl⟩
 rw[hp2] at b1b'
 have e1:(Zu p !=(0:Int))=false:=by
  have:Zu p=0:=hc
  rw[this];rfl
 have kp:Zy p=true:=hsm
 have hs2:=b1b'.small (by omega)
 have kp2:Zy p2=true:=hs2
 have kr2:Zad p2=true:=hs2
 have e2:(Zu p2 !=Z5 p2)=false:=by unfold Zu Z5;simp
 unfold ZcP ZcN
 simp only[hks,hk,hp,hs',kp,e1,b1a',hp2,kp2,kr2,e2,cond_true,cond_false]
 cases h0:((Int.ofNat (List.length p2.1))==(3:Int)) with
 | false=>
  simp only[cond_false]
  exact Zuc l how at_ by_ s and_ (by omega) b1b'
 | true=>
  have h4:p2.1.length=3:=by
   have:((p2.1.length:Nat):Int)=3:=eq_of_beq h0
   omega
  obtain ⟨b2a,b2b⟩:=Zv2 (n:=2) (by omega) (sy:=p2.1) (th:=p2.2) b1b' h4 (how:=and_) (at_:=by_) (by_:=at_) hss
  have b2a':Zap p2 and_ by_ at_ s'=true:=b2a
  simp only[b2a',cond_true]
  exact Zuc l how at_ by_ s and_ (by omega) b2b
theorem Zk1 (a:Args ZJ) (ha:smallArgs ZJ a):CallOK Go.Proofs.Tryd.prog 3 (toForms ZJ a) (.d .bool true,tps (toForms ZJ a)):=by
 obtain ⟨x,y,z,u,v,q,_⟩:=a
 have h:=Zmk x y z u v q (Zug x y z u v q).2
 rw[(Zug x y z u v q).1] at h
 exact h
end Go.Ev
end

/- Part of the proof of: Whether any points are enough, and which of them go, is what the document says: for every input the law answers true. -/
import Derived.Test.YtebidhanmfkhdaaGreatDoorCon1
set_option maxRecDepth 100000
set_option linter.unusedSectionVars false
set_option linter.unusedVariables false
set_option linter.unusedSimpArgs false
section
open Go Go.Ev
namespace Go.Ev
noncomputable section
def Zf0:Sig:=[(true,Zb),(true,Zb)]
noncomputable def ZsC:Tbl:=[]
theorem ZFB:∀p∈ZsC,EntOK Go.Proofs.Tryz.prog p.1 p.2:=Zt
noncomputable def Zmz:Code:=Go.Proofs.Tryz.f95.body.getD .skip
def ZqX:Tb:=[]
def ZyV (a:El Zb) (b:El Zb):Empty→JT Empty (Bool):=fun j=>nomatch j
def Zw5 (a:El Zb) (b:El Zb):JT Empty (Bool):=.br (a.1 !=b.1) (.br (a.2.2.2.1==b.2.2.2.1) (.br a.2.2.2.2.1 (.leaf true) (.leaf b.2.2.2.2.1)) (.leaf false)) (.leaf false)
def Zho (a:El Zb) (b:El Zb):Bool:=bif (a.1 !=b.1) then bif (a.2.2.2.1==b.2.2.2.1) then bif a.2.2.2.2.1 then true else b.2.2.2.2.1 else false else false
theorem ZJS (a:El Zb) (b:El Zb):Goes (ZyV a b) (Zw5 a b) (Zho a b):=Goes.br (Goes.br (Goes.br (Goes.leaf) (Goes.leaf)) (Goes.leaf)) (Goes.leaf)
def ZmY:Bool→AV:=fun (r:Bool)=>.d .bool r
def ZeO (a:El Zb) (b:El Zb):Empty→Nat×St:=fun j=>nomatch j
theorem ZEk (a:El Zb) (b:El Zb) (L:Lt):entryA Go.Proofs.Tryz.prog (clOf ZsC) ZqX Go.Proofs.Tryz.f95 Zmz L (toForms Zf0 (a,b,()))=(Zw5 a b).run (fun v=>some (ZmY v,tps (toForms Zf0 (a,b,())))) fun j=>L (ZeO a b j).1 (ZeO a b j).2:=by kernel_rfl
theorem ZG6 (a:El Zb) (b:El Zb):∀(L:Lt) (j:Empty),procOf (procsF Go.Proofs.Tryz.prog (clOf ZsC) ZqX Go.Proofs.Tryz.f95 Zmz (toForms Zf0 (a,b,()))) (ZeO a b j).1 L (ZeO a b j).2=(ZyV a b j).run (fun v=>some (ZmY v,tps (toForms Zf0 (a,b,())))) fun j=>L (ZeO a b j).1 (ZeO a b j).2:=fun L j=>nomatch j
noncomputable def ZyA:Run:=entT Zf0 ZmY (fun a=>Zho a.1 a.2.1)
theorem ZFo:EntOK Go.Proofs.Tryz.prog 95 ZyA:=Zaw (tb:=ZqX) (c:=Zmz) ZFB (by kernel_rfl) (by kernel_rfl) (by kernel_rfl) (fun a=>by kernel_rfl) fun ⟨a,b,_⟩=>Zl (c:=Zmz) (K:=fun v=>(ZmY v,tps (toForms Zf0 (a,b,())))) (S:=ZeO a b) (by kernel_rfl) (ZEk a b) (ZG6 a b) (ZJS a b)
end
end Go.Ev
end

section
open Go Go.Ev
namespace Go.Ev
noncomputable section
def Zde:Sig:=[(true,Zc),(true,Zb),(true,Zb)]
noncomputable def Zom:Tbl:=[(58,ZuV)]
theorem ZAL:∀p∈Zom,EntOK Go.Proofs.Tryz.prog p.1 p.2:=Zg Zyi (Zt)
noncomputable def Zja:Code:=Go.Proofs.Tryz.f96.body.getD .skip
def Zls:Tb:=[]
def Zup (p:El Zc) (a:El Zb) (b:El Zb):Empty→JT Empty (Bool):=fun j=>nomatch j
def Zsl (p:El Zc) (a:El Zb) (b:El Zb):JT Empty (Bool):=.br (a.1 !=b.1) (.leaf false) (.br ((a.1==b.1)&&((a.2.1==b.2.1)&&((a.2.2.1==b.2.2.1)&&((a.2.2.2.1==b.2.2.2.1)&&((a.2.2.2.2.1==b.2.2.2.2.1)&&(a.2.2.2.2.2==b.2.2.2.2.2)))))) (.leaf true) (.br (a.2.1==b.2.1) (.br (decide (b.2.2.1 > a.2.2.1)) (.leaf true) (.br ((decide ((0:Int)≤a.1))&&(decide (a.1 < (Int.ofNat (List.length p.2))))) (.br (Zci (List.getD p.2 (Int.toNat a.1) (dflt (.sl Za))) a.2.1) (.br ((decide ((0:Int)≤b.2.1))&&(decide (b.2.1 < (Int.ofNat (List.length (Zaq (List.getD p.2 (Int.toNat a.1) (dflt (.sl Za))) a.2.1)))))) (.leaf (List.getD (Zaq (List.getD p.2 (Int.toNat a.1) (dflt (.sl Za))) a.2.1) (Int.toNat b.2.1) (dflt .bool))) (.no)) (.no)) (.no))) (.br ((decide ((0:Int)≤a.1))&&(decide (a.1 < (Int.ofNat (List.length p.2))))) (.br (Zci (List.getD p.2 (Int.toNat a.1) (dflt (.sl Za))) a.2.1) (.br ((decide ((0:Int)≤b.2.1))&&(decide (b.2.1 < (Int.ofNat (List.length (Zaq (List.getD p.2 (Int.toNat a.1) (dflt (.sl Za))) a.2.1)))))) (.leaf (List.getD (Zaq (List.getD p.2 (Int.toNat a.1) (dflt (.sl Za))) a.2.1) (Int.toNat b.2.1) (dflt .bool))) (.no)) (.no)) (.no))))
def Zd1 (p:El Zc) (a:El Zb) (b:El Zb):Bool:=bif (a.1 !=b.1) then false else bif ((a.1==b.1)&&((a.2.1==b.2.1)&&((a.2.2.1==b.2.2.1)&&((a.2.2.2.1==b.2.2.2.1)&&((a.2.2.2.2.1==b.2.2.2.2.1)&&(a.2.2.2.2.2==b.2.2.2.2.2)))))) then true else bif (a.2.1==b.2.1) then bif (decide (b.2.2.1 > a.2.2.1)) then true else bif ((decide ((0:Int)≤a.1))&&(decide (a.1 < (Int.ofNat (List.length p.2))))) then bif (Zci (List.getD p.2 (Int.toNat a.1) (dflt (.sl Za))) a.2.1) then bif ((decide ((0:Int)≤b.2.1))&&(decide (b.2.1 < (Int.ofNat (List.length (Zaq (List.getD p.2 (Int.toNat a.1) (dflt (.sl Za))) a.2.1)))))) then (List.getD (Zaq (List.getD p.2 (Int.toNat a.1) (dflt (.sl Za))) a.2.1) (Int.toNat b.2.1) (dflt .bool)) else false else false else false else bif ((decide ((0:Int)≤a.1))&&(decide (a.1 < (Int.ofNat (List.length p.2))))) then bif (Zci (List.getD p.2 (Int.toNat a.1) (dflt (.sl Za))) a.2.1) then bif ((decide ((0:Int)≤b.2.1))&&(decide (b.2.1 < (Int.ofNat (List.length (Zaq (List.getD p.2 (Int.toNat a.1) (dflt (.sl Za))) a.2.1)))))) then (List.getD (Zaq (List.getD p.2 (Int.toNat a.1) (dflt (.sl Za))) a.2.1) (Int.toNat b.2.1) (dflt .bool)) else false else false else false
def Zd4 (p:El Zc) (a:El Zb) (b:El Zb):Bool:=bif (a.1 !=b.1) then true else bif ((a.1==b.1)&&((a.2.1==b.2.1)&&((a.2.2.1==b.2.2.1)&&((a.2.2.2.1==b.2.2.2.1)&&((a.2.2.2.2.1==b.2.2.2.2.1)&&(a.2.2.2.2.2==b.2.2.2.2.2)))))) then true else bif (a.2.1==b.2.1) then bif (decide (b.2.2.1 > a.2.2.1)) then true else bif ((decide ((0:Int)≤a.1))&&(decide (a.1 < (Int.ofNat (List.length p.2))))) then bif (Zci (List.getD p.2 (Int.toNat a.1) (dflt (.sl Za))) a.2.1) then bif ((decide ((0:Int)≤b.2.1))&&(decide (b.2.1 < (Int.ofNat (List.length (Zaq (List.getD p.2 (Int.toNat a.1) (dflt (.sl Za))) a.2.1)))))) then true else false else false else false else bif ((decide ((0:Int)≤a.1))&&(decide (a.1 < (Int.ofNat (List.length p.2))))) then bif (Zci (List.getD p.2 (Int.toNat a.1) (dflt (.sl Za))) a.2.1) then bif ((decide ((0:Int)≤b.2.1))&&(decide (b.2.1 < (Int.ofNat (List.length (Zaq (List.getD p.2 (Int.toNat a.1) (dflt (.sl Za))) a.2.1)))))) then true else false else false else false
theorem ZCV (p:El Zc) (a:El Zb) (b:El Zb) (hk:Zd4 p a b=true):Goes (Zup p a b) (Zsl p a b) (Zd1 p a b):=Goes.brk hk (fun hk=>Goes.leaf) (fun hk=>Goes.brk hk (fun hk=>Goes.leaf) (fun hk=>Goes.brk hk (fun hk=>Goes.brk hk (fun hk=>Goes.leaf) (fun hk=>Goes.brk hk (fun hk=>Goes.brk hk (fun hk=>Goes.brk hk (fun hk=>Goes.leaf) (fun hk=>Goes.nok hk)) (fun hk=>Goes.nok hk)) (fun hk=>Goes.nok hk))) (fun hk=>Goes.brk hk (fun hk=>Goes.brk hk (fun hk=>Goes.brk hk (fun hk=>Goes.leaf) (fun hk=>Goes.nok hk)) (fun hk=>Goes.nok hk)) (fun hk=>Goes.nok hk))))
def Zjk:Bool→AV:=fun (r:Bool)=>.d .bool r
def ZcN (p:El Zc) (a:El Zb) (b:El Zb):Empty→Nat×St:=fun j=>nomatch j
theorem ZBj (p:El Zc) (a:El Zb) (b:El Zb) (L:Lt):entryA Go.Proofs.Tryz.prog (clOf Zom) Zls Go.Proofs.Tryz.f96 Zja L (toForms Zde (p,a,b,()))=(Zsl p a b).run (fun v=>some (Zjk v,tps (toForms Zde (p,a,b,())))) fun j=>L (ZcN p a b j).1 (ZcN p a b j).2:=by kernel_rfl
theorem ZBV (p:El Zc) (a:El Zb) (b:El Zb):∀(L:Lt) (j:Empty),procOf (procsF Go.Proofs.Tryz.prog (clOf Zom) Zls Go.Proofs.Tryz.f96 Zja (toForms Zde (p,a,b,()))) (ZcN p a b j).1 L (ZcN p a b j).2=(Zup p a b j).run (fun v=>some (Zjk v,tps (toForms Zde (p,a,b,())))) fun j=>L (ZcN p a b j).1 (ZcN p a b j).2:=fun L j=>nomatch j
noncomputable def Zub:Run:=entG Zde Zjk (fun a=>Zd4 a.1 a.2.1 a.2.2.1) (fun a=>Zd1 a.1 a.2.1 a.2.2.1)
theorem ZAp:EntOK Go.Proofs.Tryz.prog 96 Zub:=ZI (tb:=Zls) (c:=Zja) ZAL (by kernel_rfl) (by kernel_rfl) (by kernel_rfl) (fun a=>by kernel_rfl) fun ⟨p,a,b,_⟩ hk=>Zl (c:=Zja) (K:=fun v=>(Zjk v,tps (toForms Zde (p,a,b,())))) (S:=ZcN p a b) (by kernel_rfl) (ZBj p a b) (ZBV p a b) (ZCV p a b hk)
end
end Go.Ev
end

section
open Go Go.Ev
namespace Go.Ev
noncomputable section
def Zhv:Sig:=[(true,Zc),(false,(.sl Zb)),(false,(.int .i64))]
noncomputable def Zvy:Tbl:=[(95,ZyA),(96,Zub)]
theorem ZKp:∀p∈Zvy,EntOK Go.Proofs.Tryz.prog p.1 p.2:=Zg ZFo (Zg ZAp (Zt))
noncomputable def ZpA:Code:=Go.Proofs.Tryz.f59.body.getD .skip
def Ztc:Tb:=[(8,⟨[1,2,3,7,8,9,95,105,147,156],[]⟩),(14,⟨[1,2,3,7,8,10,95,105,147,156],[]⟩),(19,⟨[1,2,3,7,8,10,11,95,105,147,156],[]⟩),(24,⟨[1,2,3,7,8,10,11,12,147,156],[]⟩),(31,⟨[1,2,7,8,13,147,156],[]⟩),(36,⟨[1,2,7,8,13,14],[]⟩)]
inductive Zma where | l8 (i:Int) (is:List Bool) | l14 (is:List Bool) (moved:Bool) | l19 (is:List Bool) (i:Int) (moved:Bool) | l24 (is:List Bool) (moved:Bool) (k:Int) (i:Int) | l31 (is:List Bool) (i:Int) (out:List Bool) | l36 (is:List Bool) (k:Int) (out:List Bool) (i:Int)
def ZaU (p:El Zc) (l:List (El Zb)) (a:Int):Zma→JT Zma (List Bool) |.l8 i is=>.br (decide (i < (Int.ofNat (List.length l)))) (.br ((decide ((0:Int)≤a))&&(decide (a < (Int.ofNat (List.length l))))) (.br ((decide ((0:Int)≤i))&&(decide (i < (Int.ofNat (List.length l))))) (.br ((decide ((0:Int)≤i))&&(decide (i < (Int.ofNat (List.length is))))) (.jmp (.l8 (IntKind.i64.wrap (i+(1:Int))) (List.set is (Int.toNat i) (Zho (List.getD l (Int.toNat a) (dflt Zb)) (List.getD l (Int.toNat i) (dflt Zb)))))) (.no)) (.no)) (.no)) (.jmp (.l14 is true)) |.l14 is moved=>.br moved (.jmp (.l19 is (0:Int) false)) (.jmp (.l31 is (0:Int) (List.replicate (List.length l) false))) |.l19 is i moved=>.br (decide (i < (Int.ofNat (List.length l)))) (.jmp (.l24 is moved (0:Int) i)) (.jmp (.l14 is moved)) |.l24 is moved k i=>.br (decide (k < (Int.ofNat (List.length l)))) (.br ((decide ((0:Int)≤i))&&(decide (i < (Int.ofNat (List.length is))))) (.br (List.getD is (Int.toNat i) (dflt .bool)) (.br ((decide ((0:Int)≤k))&&(decide (k < (Int.ofNat (List.length is))))) (.br (! (List.getD is (Int.toNat k) (dflt .bool))) (.br ((decide ((0:Int)≤k))&&(decide (k < (Int.ofNat (List.length l))))) (.br ((decide ((0:Int)≤a))&&(decide (a < (Int.ofNat (List.length l))))) (.br ((List.getD l (Int.toNat k) (dflt Zb)).1 !=(List.getD l (Int.toNat a) (dflt Zb)).1) (.br ((decide ((0:Int)≤i))&&(decide (i < (Int.ofNat (List.length l))))) (.br ((decide ((0:Int)≤k))&&(decide (k < (Int.ofNat (List.length l))))) (.br (Zho (List.getD l (Int.toNat i) (dflt Zb)) (List.getD l (Int.toNat k) (dflt Zb))) (.br ((decide ((0:Int)≤k))&&(decide (k < (Int.ofNat (List.length is))))) (.jmp (.l24 (List.set is (Int.toNat k) true) true (IntKind.i64.wrap (k+(1:Int))) i)) (.no)) (.br ((decide ((0:Int)≤i))&&(decide (i < (Int.ofNat (List.length l))))) (.br ((decide ((0:Int)≤k))&&(decide (k < (Int.ofNat (List.length l))))) (.br (Zd4 p (List.getD l (Int.toNat i) (dflt Zb)) (List.getD l (Int.toNat k) (dflt Zb))) (.br (Zd1 p (List.getD l (Int.toNat i) (dflt Zb)) (List.getD l (Int.toNat k) (dflt Zb))) (.br ((decide ((0:Int)≤k))&&(decide (k < (Int.ofNat (List.length is))))) (.jmp (.l24 (List.set is (Int.toNat k) true) true (IntKind.i64.wrap (k+(1:Int))) i)) (.no)) (.jmp (.l24 is moved (IntKind.i64.wrap (k+(1:Int))) i))) (.no)) (.no)) (.no))) (.no)) (.no)) (.jmp (.l24 is moved (IntKind.i64.wrap (k+(1:Int))) i))) (.no)) (.no)) (.jmp (.l24 is moved (IntKind.i64.wrap (k+(1:Int))) i))) (.no)) (.jmp (.l19 is (IntKind.i64.wrap (i+(1:Int))) moved))) (.no)) (.jmp (.l19 is (IntKind.i64.wrap (i+(1:Int))) moved)) |.l31 is i out=>.br (decide (i < (Int.ofNat (List.length l)))) (.jmp (.l36 is (0:Int) out i)) (.leaf out) |.l36 is k out i=>.br (decide (k < (Int.ofNat (List.length l)))) (.br ((decide ((0:Int)≤i))&&(decide (i < (Int.ofNat (List.length l))))) (.br ((decide ((0:Int)≤a))&&(decide (a < (Int.ofNat (List.length l))))) (.br ((List.getD l (Int.toNat i) (dflt Zb)).1==(List.getD l (Int.toNat a) (dflt Zb)).1) (.br ((decide ((0:Int)≤i))&&(decide (i < (Int.ofNat (List.length out))))) (.br (List.getD out (Int.toNat i) (dflt .bool)) (.br ((decide ((0:Int)≤i))&&(decide (i < (Int.ofNat (List.length out))))) (.jmp (.l36 is (IntKind.i64.wrap (k+(1:Int))) (List.set out (Int.toNat i) true) i)) (.no)) (.br ((decide ((0:Int)≤k))&&(decide (k < (Int.ofNat (List.length is))))) (.br (List.getD is (Int.toNat k) (dflt .bool)) (.br ((decide ((0:Int)≤k))&&(decide (k < (Int.ofNat (List.length l))))) (.br ((decide ((0:Int)≤i))&&(decide (i < (Int.ofNat (List.length l))))) (.br ((decide ((0:Int)≤i))&&(decide (i < (Int.ofNat (List.length out))))) (.jmp (.l36 is (IntKind.i64.wrap (k+(1:Int))) (List.set out (Int.toNat i) (Zho (List.getD l (Int.toNat k) (dflt Zb)) (List.getD l (Int.toNat i) (dflt Zb)))) i)) (.no)) (.no)) (.no)) (.br ((decide ((0:Int)≤i))&&(decide (i < (Int.ofNat (List.length out))))) (.jmp (.l36 is (IntKind.i64.wrap (k+(1:Int))) (List.set out (Int.toNat i) false) i)) (.no))) (.no))) (.no)) (.jmp (.l31 is (IntKind.i64.wrap (i+(1:Int))) out))) (.no)) (.no)) (.jmp (.l31 is (IntKind.i64.wrap (i+(1:Int))) out))
def Ztg (p:El Zc) (l:List (El Zb)) (a:Int):JT Zma (List Bool):=.br ((((Int.ofNat (List.length l))==(Int.ofNat (List.length l)))&&(decide ((0:Int)≤(Int.ofNat (List.length l)))))&&(decide (((Int.ofNat (List.length l))*(1:Int))≤(limit:Int)))) (.br (decide (a < (0:Int))) (.leaf (List.replicate (List.length l) false)) (.br (decide (a≥(Int.ofNat (List.length l)))) (.leaf (List.replicate (List.length l) false)) (.br ((((Int.ofNat (List.length l))==(Int.ofNat (List.length l)))&&(decide ((0:Int)≤(Int.ofNat (List.length l)))))&&(decide (((Int.ofNat (List.length l))*(1:Int))≤(limit:Int)))) (.jmp (.l8 (0:Int) (List.replicate (List.length l) false))) (.no)))) (.no)
def ZqC:List Bool→AV:=fun (r:List Bool)=>.rw 4 .bool r
def ZgZ (p:El Zc) (l:List (El Zb)) (a:Int):Zma→Nat×St |.l8 i is=>(8,⟨mkTm 161 [(1,.d (.sl Zb) l),(2,.d (.int .i64) a),(3,.pt 4 0 0),(7,.own 8 0 none),(8,.own 9 0 none),(9,.d (.int .i64) i)],[(4,0,.box 27 [.d (.sl Zx) p.1,.d (.sl (.sl Za)) p.2] none),(8,0,.row 4 .bool (List.replicate (List.length l) false) false),(9,0,.row 4 .bool is false)]⟩) |.l14 is moved=>(14,⟨mkTm 161 [(1,.d (.sl Zb) l),(2,.d (.int .i64) a),(3,.pt 4 0 0),(7,.own 8 0 none),(8,.own 9 0 none),(10,.d .bool moved)],[(4,0,.box 27 [.d (.sl Zx) p.1,.d (.sl (.sl Za)) p.2] none),(8,0,.row 4 .bool (List.replicate (List.length l) false) false),(9,0,.row 4 .bool is false)]⟩) |.l19 is i moved=>(19,⟨mkTm 161 [(1,.d (.sl Zb) l),(2,.d (.int .i64) a),(3,.pt 4 0 0),(7,.own 8 0 none),(8,.own 9 0 none),(10,.d .bool moved),(11,.d (.int .i64) i)],[(4,0,.box 27 [.d (.sl Zx) p.1,.d (.sl (.sl Za)) p.2] none),(8,0,.row 4 .bool (List.replicate (List.length l) false) false),(9,0,.row 4 .bool is false)]⟩) |.l24 is moved k i=>(24,⟨mkTm 161 [(1,.d (.sl Zb) l),(2,.d (.int .i64) a),(3,.pt 4 0 0),(7,.own 8 0 none),(8,.own 9 0 none),(10,.d .bool moved),(11,.d (.int .i64) i),(12,.d (.int .i64) k)],[(4,0,.box 27 [.d (.sl Zx) p.1,.d (.sl (.sl Za)) p.2] none),(8,0,.row 4 .bool (List.replicate (List.length l) false) false),(9,0,.row 4 .bool is false)]⟩) |.l31 is i out=>(31,⟨mkTm 161 [(1,.d (.sl Zb) l),(2,.d (.int .i64) a),(7,.own 8 0 none),(8,.own 9 0 none),(13,.d (.int .i64) i)],[(8,0,.row 4 .bool out false),(9,0,.row 4 .bool is false)]⟩) |.l36 is k out i=>(36,⟨mkTm 161 [(1,.d (.sl Zb) l),(2,.d (.int .i64) a),(7,.own 8 0 none),(8,.own 9 0 none),(13,.d (.int .i64) i),(14,.d (.int .i64) k)],[(8,0,.row 4 .bool out false),(9,0,.row 4 .bool is false)]⟩)
theorem ZHp (p:El Zc) (l:List (El Zb)) (a:Int) (L:Lt):entryA Go.Proofs.Tryz.prog (clOf Zvy) Ztc Go.Proofs.Tryz.f59 ZpA L (toForms Zhv (p,l,a,()))=(Ztg p l a).run (fun v=>some (ZqC v,tps (toForms Zhv (p,l,a,())))) fun j=>L (ZgZ p l a j).1 (ZgZ p l a j).2:=by kernel_rfl
theorem ZJY (p:El Zc) (l:List (El Zb)) (a:Int):∀(L:Lt) (j:Zma),procOf (procsF Go.Proofs.Tryz.prog (clOf Zvy) Ztc Go.Proofs.Tryz.f59 ZpA (toForms Zhv (p,l,a,()))) (ZgZ p l a j).1 L (ZgZ p l a j).2=(ZaU p l a j).run (fun v=>some (ZqC v,tps (toForms Zhv (p,l,a,())))) fun j=>L (ZgZ p l a j).1 (ZgZ p l a j).2 | L,.l8 i is=>by kernel_rfl | L,.l14 is moved=>by kernel_rfl | L,.l19 is i moved=>by kernel_rfl | L,.l24 is moved k i=>by kernel_rfl | L,.l31 is i out=>by kernel_rfl | L,.l36 is k out i=>by kernel_rfl
end
end Go.Ev
end

section
open Go
namespace Go.Ev
theorem ZuT (l:List Acc) (i j:Nat):Zho (accA l i) (accA l j)=clB l i j:=rfl
theorem Zgm {p:El Zc} (h:smallAll p=true) {i:Nat} (hi:i < (ofC p).length):
  0≤thA (ofC p) i∧thA (ofC p) i < (p.2.length:Int)∧flowOK (thrOf p (ofC p) i)=true∧0≤inA (ofC p) i∧inA (ofC p) i < ((thrOf p (ofC p) i).length:Int):=by
 have hA:=smallA h
 have hm:accA (ofC p) i∈ofC p:=by unfold accA;rw[ZH hi];exact List.getElem_mem hi
 obtain ⟨u,x,j,y,h1,h2,h3,h4,h5⟩:=ZKo hm
 have hth:thA (ofC p) i=(u:Int):=h4
 have hin:inA (ofC p) i=(j:Int):=h5
 have hu:=(List.getElem?_eq_some_iff.1 h1).1
 have hj:=(List.getElem?_eq_some_iff.1 h2).1
 have ht:thrOf p (ofC p) i=x:=by
  unfold thrOf
  rw[hth,Int.toNat_natCast,List.getD_eq_getElem?_getD,h1];rfl
 rw[ht]
 exact ⟨by omega,by omega,Ztw (hA.thr x (List.mem_of_getElem? h1)),by omega,by omega⟩
theorem ZQB {p:El Zc} {i k:Nat} (hi:i < (ofC p).length) (hk:k < (ofC p).length) (e:accA (ofC p) i=accA (ofC p) k):i=k:=by
 have ho:=List.pairwise_iff_getElem.1 (ZNZ p)
 have gi:accA (ofC p) i=(ofC p)[i]:=by unfold accA;rw[ZH hi]
 have gk:accA (ofC p) k=(ofC p)[k]:=by unfold accA;rw[ZH hk]
 have irr:∀a:El Zb,¬ltAX a a:=fun a h=>by
  have:∀t k q:Int,¬ltNX t k q t k q:=fun t k q h=>by
   rcases h with h | ⟨_,h | ⟨_,h⟩⟩ <;> omega
  exact this _ _ _ h
 rw[gi,gk] at e
 by_cases h:i=k
 ·exact h
 ·exfalso
  by_cases hl:i < k
  ·have:=ho i k hi hk hl
   rw[e] at this
   exact irr _ this
  ·have:=ho k i hk hi (by omega)
   rw[←e] at this
   exact irr _ this
theorem ZMO {p:El Zc} (h:smallAll p=true) {i k:Nat} (hi:i < (ofC p).length) (hk:k < (ofC p).length):
  Zd4 p (accA (ofC p) i) (accA (ofC p) k)=true∧Zd1 p (accA (ofC p) i) (accA (ofC p) k)=behB p (ofC p) i k:=by
 obtain ⟨i0,i1,i2,i3,i4⟩:=Zgm h hi
 obtain ⟨k0,k1,k2,k3,k4⟩:=Zgm h hk
 have hinj:=fun e=>ZQB hi hk e
 have a1:(accA (ofC p) i).1=thA (ofC p) i:=rfl
 have a2:(accA (ofC p) i).2.1=inA (ofC p) i:=rfl
 have a3:(accA (ofC p) i).2.2.1=paA (ofC p) i:=rfl
 have b1:(accA (ofC p) k).1=thA (ofC p) k:=rfl
 have b2:(accA (ofC p) k).2.1=inA (ofC p) k:=rfl
 have b3:(accA (ofC p) k).2.2.1=paA (ofC p) k:=rfl
 have ht:List.getD p.2 (Int.toNat (thA (ofC p) i)) (dflt (.sl Za))=thrOf p (ofC p) i:=rfl
 have kf:Zci (thrOf p (ofC p) i) (inA (ofC p) i)=true:=i2
 have vf:Zaq (thrOf p (ofC p) i) (inA (ofC p) i)=rowOf (thrOf p (ofC p) i).length (fromB (thrOf p (ofC p) i) (inA (ofC p) i)):=rfl
 have htri:(decide ((0:Int)≤thA (ofC p) i)&&decide (thA (ofC p) i < Int.ofNat p.2.length))=true:=by
  rw[Bool.and_eq_true,decide_eq_true_eq,decide_eq_true_eq];exact ⟨i0,i1⟩
 unfold Zd4 Zd1 behB
 rw[decide_eq_true hk,Bool.true_and]
 simp only[a1,a2,a3,b1,b2,b3,ht,kf,vf,htri,cond_true,ZK]
 by_cases e1:thA (ofC p) i=thA (ofC p) k
 ·have htk:thrOf p (ofC p) k=thrOf p (ofC p) i:=by unfold thrOf;rw[e1]
  rw[htk] at k4
  have hbr:(decide ((0:Int)≤inA (ofC p) k)&&decide (inA (ofC p) k < Int.ofNat (thrOf p (ofC p) i).length))=true:=by
   rw[Bool.and_eq_true,decide_eq_true_eq,decide_eq_true_eq];exact ⟨k3,k4⟩
  have hrow:List.getD (rowOf (thrOf p (ofC p) i).length (fromB (thrOf p (ofC p) i) (inA (ofC p) i))) (inA (ofC p) k).toNat (dflt .bool)=fromB (thrOf p (ofC p) i) (inA (ofC p) i) (inA (ofC p) k).toNat:=Zby (by omega)
  have hb2:decide (inA (ofC p) k < Int.ofNat (thrOf p (ofC p) i).length)=true:=decide_eq_true k4
  simp only[hb2,hrow,cond_true,e1,bne_self_eq_false,beq_self_eq_true,cond_false,Bool.true_and,decide_eq_true k3]
  by_cases e2:k=i
  ·subst e2
   simp
  ·have hne:accA (ofC p) i≠accA (ofC p) k:=fun e=>e2 (hinj e).symm
   have hstr:((accA (ofC p) i).2.1==(accA (ofC p) k).2.1&&((accA (ofC p) i).2.2.1==(accA (ofC p) k).2.2.1&&((accA (ofC p) i).2.2.2.1==(accA (ofC p) k).2.2.2.1&&((accA (ofC p) i).2.2.2.2.1==(accA (ofC p) k).2.2.2.2.1&&(accA (ofC p) i).2.2.2.2.2==(accA (ofC p) k).2.2.2.2.2))))=false:=by
    rw[←Bool.not_eq_true]
    simp only[Bool.and_eq_true,beq_iff_eq]
    rintro ⟨h1,h2,h3,h4,h5⟩
    exact hne (Prod.ext e1 (Prod.ext h1 (Prod.ext h2 (Prod.ext h3 (Prod.ext h4 h5)))))
   rw[a2,a3,b2,b3] at hstr
   have e2b:(k==i)=false:=by simpa using e2
   simp only[hstr,e2b,cond_false,Bool.false_or]
   by_cases e3:inA (ofC p) i=inA (ofC p) k
   ·rw[e3]
    simp only[beq_self_eq_true,cond_true,Bool.true_and]
    cases hq:decide (paA (ofC p) k > paA (ofC p) i) <;> simp
   ·have e3b:(inA (ofC p) i==inA (ofC p) k)=false:=by simpa using e3
    have e3c:(inA (ofC p) k==inA (ofC p) i)=false:=by simpa using fun e=>e3 e.symm
    simp only[e3b,e3c,cond_false,Bool.false_and,Bool.false_or,and_self]
 ·have e1b:(thA (ofC p) i !=thA (ofC p) k)=true:=by simpa using e1
  have e1c:(thA (ofC p) k==thA (ofC p) i)=false:=by simpa using fun e=>e1 e.symm
  simp only[e1b,e1c,cond_true,Bool.false_and,and_self]
end Go.Ev
end

section
open Go
namespace Go.Ev
noncomputable def ZcK (p:El Zc) (l:List (El Zb)) (a:Int):List Bool:=rowOf l.length fun b=>decide (0≤a∧a < (l.length:Int))&&backB p l a.toNat b
def ZiY (p:El Zc) (l:List (El Zb)) (a:Int):Bool:=smallAll p&&same (.sl Zb) l (ofC p)
theorem ZPL {P:Nat→Bool} {k:Nat} :(List.range (k+1)).any P=((List.range k).any P || P k):=by
 rw[List.range_succ,List.any_append];simp
theorem ZLE (p:El Zc) (l:List (El Zb)) (a:Int) (hk:ZiY p l a=true):Goes (ZaU p l a) (Ztg p l a) (ZcK p l a):=by
 unfold ZiY at hk
 rw[Bool.and_eq_true] at hk
 obtain ⟨hs,hsame⟩:=hk
 have hl:=ZL5.1 hsame
 have hN:=ZNU hs
 rw[←hl] at hN
 have hfol:∀i k,i < l.length→k < l.length→Zd4 p (accA l i) (accA l k)=true∧Zd1 p (accA l i) (accA l k)=behB p l i k:=fun i k hi hk=>by
  rw[hl] at*
  exact ZMO hs hi hk
 have hmk:((((Int.ofNat (List.length l))==(Int.ofNat (List.length l)))&&(decide ((0:Int)≤(Int.ofNat (List.length l)))))&&(decide (((Int.ofNat (List.length l))*(1:Int))≤(limit:Int))))=true:=by
  simp[limit];omega
 obtain ⟨n,hn⟩:∃n,l.length=n:=⟨_,rfl⟩
 have none:¬(0≤a∧a < (n:Int))→List.replicate n false=ZcK p l a:=fun h=>by
  unfold ZcK
  rw[hn,ZoH]
  exact Z3 fun i _=>by rw[decide_eq_false h];rfl
 obtain ⟨T,hT⟩:∃T,T=ZaU p l a:=⟨_,rfl⟩
 rw[←hT]
 unfold Ztg
 rw[hn] at hN hfol hmk ⊢
 rw[Ze,if_pos hmk,Ze]
 by_cases h0:a < 0
 ·rw[if_pos (decide_eq_true h0),none (fun h=>by omega)];exact .leaf
 rw[if_neg (by simpa using h0),Ze]
 by_cases h1:a≥Int.ofNat n
 ·rw[if_pos (decide_eq_true h1),none (fun h=>by simp at h1;omega)];exact .leaf
 obtain ⟨a,rfl⟩:=Int.eq_ofNat_of_zero_le (show 0≤a by omega)
 have ha:a < n:=by simp at h1;omega
 rw[if_neg (by simpa using h1),Ze,if_pos hmk]
 have hval:ZcK p l (a:Int)=rowOf n (backB p l a):=by
  unfold ZcK
  rw[hn]
  exact Z3 fun i _=>by rw[decide_eq_true ⟨by omega,by omega⟩,Int.toNat_natCast];rfl
 rw[hval]
 have ea:List.getD l a (dflt Zb)=accA l a:=rfl
 have nn:(List.length l)=n:=hn
 have out:Goes T (.jmp (.l31 (rowOf n (isB p l a)) (0:Int) (List.replicate n false))) (rowOf n (backB p l a)):=by
  have outer:∀i,i≤n→Goes T (.jmp (.l31 (rowOf n (isB p l a)) (i:Int) (rowOf n fun j=>decide (j < i)&&backB p l a j))) (rowOf n (backB p l a)):=by
   refine down ?_ fun i hi ih=>?_
   ·rw[Zi,hT,ZaU,←hT,Ze,nn,if_neg (by simp)]
    rw[show (rowOf n fun j=>decide (j < n)&&backB p l a j)=rowOf n (backB p l a) from Z3 fun j hj=>by rw[decide_eq_true hj];rfl]
    exact .leaf
   ·have inner:∀k,k≤n→thA l i=thA l a→Goes T (.jmp (.l36 (rowOf n (isB p l a)) (k:Int) (rowOf n fun j=>if j=i then (List.range k).any (fun q=>isB p l a q&&clB l q i) else decide (j < i)&&backB p l a j) (i:Int))) (rowOf n (backB p l a)):=by
     refine down ?_ fun k hk ih2=>?_
     ·intro ht
      rw[Zi,hT,ZaU,←hT,Ze,nn,if_neg (by simp),Zo (by omega)]
      rw[show (rowOf n fun j=>if j=i then (List.range n).any (fun q=>isB p l a q&&clB l q i) else decide (j < i)&&backB p l a j)=(rowOf n fun j=>decide (j < i+1)&&backB p l a j) from Z3 fun j hj=>by
       by_cases e:j=i
       ·subst e
        rw[if_pos rfl,decide_eq_true (by omega),Bool.true_and]
        unfold backB
        rw[ht,beq_self_eq_true,Bool.true_and,hn]
       ·rw[if_neg e]
        by_cases e2:j < i
        ·rw[decide_eq_true e2,decide_eq_true (by omega)]
        ·rw[decide_eq_false e2,decide_eq_false (by omega)]]
      exact ih
     ·intro ht
      have hrow:∀M:Nat→Bool,List.getD (rowOf n M) i (dflt .bool)=M i:=fun M=>Zby hi
      have hrk:List.getD (rowOf n (isB p l a)) k (dflt .bool)=isB p l a k:=Zby hk
      have et:((accA l i).1==(accA l a).1)=true:=by show (thA l i==thA l a)=true;rw[ht];simp
      have ei:List.getD l i (dflt Zb)=accA l i:=rfl
      have ek:List.getD l k (dflt Zb)=accA l k:=rfl
      have lt1:∀ {x:Nat},x < n→decide ((x:Int) < Int.ofNat n)=true:=fun h=>decide_eq_true (by simpa using h)
      have key:∀b,b=((List.range (k+1)).any fun q=>isB p l a q&&clB l q i)→Goes T (.jmp (.l36 (rowOf n (isB p l a)) ((k+1:Nat):Int) ((rowOf n fun j=>if j=i then (List.range k).any (fun q=>isB p l a q&&clB l q i) else decide (j < i)&&backB p l a j).set i b) (i:Int))) (rowOf n (backB p l a)):=fun b hb=>by
       rw[ZBd,show (rowOf n fun j=>if j=i then b else if j=i then (List.range k).any (fun q=>isB p l a q&&clB l q i) else decide (j < i)&&backB p l a j)=(rowOf n fun j=>if j=i then (List.range (k+1)).any (fun q=>isB p l a q&&clB l q i) else decide (j < i)&&backB p l a j) from Z3 fun j _=>by
        by_cases e:j=i
        ·rw[if_pos e,if_pos e,hb]
        ·rw[if_neg e,if_neg e,if_neg e]]
       exact ih2 ht
      rw[ZPL] at key
      rw[Zi,hT,ZaU,←hT]
      simp only[Ze,nn,ZK,lt1 hk,lt1 hi,lt1 ha,nng,Bool.and_self,if_true,Int.toNat_natCast,ei,ek,ea,et,hrow,hrk,ZuT,Zo (k:=k) (by omega)]
      generalize hq:((List.range k).any fun q=>isB p l a q&&clB l q i)=q at*
      cases q with
      | true=>
       rw[if_pos rfl]
       exact key true (by simp)
      | false=>
       rw[if_neg (by decide)]
       cases hb:isB p l a k with
       | true=>
        rw[if_pos rfl]
        exact key _ (by rw[hb];simp)
       | false=>
        rw[if_neg (by decide)]
        exact key false (by rw[hb];simp)
    rw[Zi,hT,ZaU,←hT,Ze,nn,if_pos (decide_eq_true (by simpa using hi))]
    by_cases ht:thA l i=thA l a
    ·have:=inner 0 (Nat.zero_le _) ht
     rw[show (rowOf n fun j=>if j=i then (List.range 0).any (fun q=>isB p l a q&&clB l q i) else decide (j < i)&&backB p l a j)=(rowOf n fun j=>decide (j < i)&&backB p l a j) from Z3 fun j _=>by
      by_cases e:j=i
      ·subst e;simp
      ·rw[if_neg e]] at this
     exact this
    ·have lt1:∀ {x:Nat},x < n→decide ((x:Int) < Int.ofNat n)=true:=fun h=>decide_eq_true (by simpa using h)
     have et:((accA l i).1==(accA l a).1)=false:=by show (thA l i==thA l a)=false;simpa using ht
     have ei:List.getD l i (dflt Zb)=accA l i:=rfl
     have hlt0:decide ((0:Int) < Int.ofNat n)=true:=decide_eq_true (by simp;omega)
     rw[Zi,hT,ZaU,←hT]
     simp only[Ze,nn,hlt0,lt1 hi,lt1 ha,nng,Bool.and_self,if_true,Int.toNat_natCast,ei,ea,et,Bool.false_eq_true,if_false,Zo (k:=i) (by omega)]
     rw[show (rowOf n fun j=>decide (j < i)&&backB p l a j)=(rowOf n fun j=>decide (j < i+1)&&backB p l a j) from Z3 fun j _=>by
      by_cases e:j=i
      ·subst e
       have:backB p l a j=false:=by unfold backB;rw[show (thA l j==thA l a)=false by simpa using ht];rfl
       rw[this,Bool.and_false,Bool.and_false]
      ·by_cases e2:j < i
       ·rw[decide_eq_true e2,decide_eq_true (by omega)]
       ·rw[decide_eq_false e2,decide_eq_false (by omega)]]
     exact ih
  have:=outer 0 (Nat.zero_le _)
  rw[show (rowOf n fun j=>decide (j < 0)&&backB p l a j)=List.replicate n false from by
   rw[ZoH];exact Z3 fun j _=>by simp] at this
  exact this
 let OK:(Nat→Bool)→(Nat→Bool)→Bool→Prop:=fun M0 M moved=>(∀j,chS l a j=true→M j=true)∧(∀j,M j=true→Come (chB p l a) (chS l a) j)∧(moved=false→M=M0)∧(moved=true→card n M0 < card n M)
 have lt1:∀ {x:Nat},x < n→decide ((x:Int) < Int.ofNat n)=true:=fun h=>decide_eq_true (by simpa using h)
 have hMlt:∀ {M:Nat→Bool},(∀j,M j=true→Come (chB p l a) (chS l a) j)→∀j,M j=true→j < n:=fun h j hj=>by
  have:=ZQX (p:=p) (l:=l) (a:=a) (ZdY.2 (h j hj))
  omega
 have loop:∀m,∀M:Nat→Bool,n - card n M=m→(∀j,chS l a j=true→M j=true)→(∀j,M j=true→Come (chB p l a) (chS l a) j)→Goes T (.jmp (.l14 (rowOf n M) true)) (rowOf n (backB p l a)):=by
  intro m
  induction m using Nat.strongRecOn with
  | _ m ih=>
  intro M0 hm hA hC
  have inner:∀i,i < n→∀Z:Prop,(∀M moved,OK M0 M moved→(moved=false→Z∧(M0 i=true→∀j,chB p l a i j=true→M0 j=true))→Goes T (.jmp (.l19 (rowOf n M) ((i+1:Nat):Int) moved)) (rowOf n (backB p l a)))→
    ∀k,k≤n→∀M moved,OK M0 M moved→(moved=false→Z∧∀x,x < k→M0 i=true→chB p l a i x=true→M0 x=true)→Goes T (.jmp (.l24 (rowOf n M) moved (k:Int) (i:Int))) (rowOf n (backB p l a)):=by
   intro i hi Z hz
   refine down ?_ fun k hk ih2=>?_
   ·intro M moved hok hcl
    rw[Zi,hT,ZaU,←hT,Ze,nn,if_neg (by simp),Zo (by omega)]
    refine hz M moved hok fun hm=>⟨(hcl hm).1,fun h1 j hj=>(hcl hm).2 j ?_ h1 hj⟩
    unfold chB at hj
    simp only[Bool.and_eq_true,decide_eq_true_eq] at hj
    omega
   ·intro M moved hok hcl
    obtain ⟨f1,f2⟩:=hfol i k hi hk
    have hri:List.getD (rowOf n M) i (dflt .bool)=M i:=Zby hi
    have hrk:List.getD (rowOf n M) k (dflt .bool)=M k:=Zby hk
    have ei:List.getD l i (dflt Zb)=accA l i:=rfl
    have ek:List.getD l k (dflt Zb)=accA l k:=rfl
    have tk:(accA l k).1=thA l k:=rfl
    have ta:(accA l a).1=thA l a:=rfl
    rw[Zi,hT,ZaU,←hT]
    simp only[Ze,nn,ZK,lt1 hk,lt1 hi,lt1 ha,nng,Bool.and_self,if_true,Int.toNat_natCast,ei,ek,ea,hri,hrk,ZuT,f1,f2,tk,ta,Zo (k:=k) (by omega),Zo (k:=i) (by omega)]
    cases hMi:M i with
    | false=>
     rw[if_neg (by decide)]
     refine hz M moved hok fun hm=>⟨(hcl hm).1,fun h1=>?_⟩
     rw[←hok.2.2.1 hm,hMi] at h1;cases h1
    | true=>
     rw[if_pos rfl]
     cases hMk:M k with
     | true=>
      rw[if_neg (by decide)]
      refine ih2 M moved hok fun hm=>⟨(hcl hm).1,fun x hx h1 h2=>?_⟩
      by_cases e:x=k
      ·subst e;rw[←hok.2.2.1 hm];exact hMk
      ·exact (hcl hm).2 x (by omega) h1 h2
     | false=>
      rw[if_pos (by decide)]
      have skip:chB p l a i k=false→Goes T (.jmp (.l24 (rowOf n M) moved ((k+1:Nat):Int) (i:Int))) (rowOf n (backB p l a)):=fun hc=>ih2 M moved hok fun hm=>⟨(hcl hm).1,fun x hx h1 h2=>by
       by_cases e:x=k
       ·subst e;rw[hc] at h2;cases h2
       ·exact (hcl hm).2 x (by omega) h1 h2⟩
      have set:chB p l a i k=true→Goes T (.jmp (.l24 ((rowOf n M).set k true) true ((k+1:Nat):Int) (i:Int))) (rowOf n (backB p l a)):=fun hc=>by
       have hca:=Zm4 hMk hk
       rw[Zsd]
       refine ih2 _ true ⟨fun x hx=>(show (M x || (x==k))=true by rw[hok.1 x hx];rfl),fun x hx=>?_,fun h=>(by cases h),fun _=>?_⟩ (fun h=>by cases h)
       ·simp only[Bool.or_eq_true,beq_iff_eq] at hx
        rcases hx with hx | hx
        ·exact hok.2.1 x hx
        ·subst hx;exact .step (hok.2.1 i hMi) hc
       ·cases moved with
        | true=>have:=hok.2.2.2 rfl;omega
        | false=>rw[hok.2.2.1 rfl] at hca;rw[hok.2.2.1 rfl];omega
      have hce:chB p l a i k=(!(thA l k==thA l a)&&(clB l i k || behB p l i k)):=by unfold chB;rw[hn,decide_eq_true hk,Bool.true_and]
      by_cases c1:thA l k=thA l a
      ·rw[if_neg (by simp[c1])]
       exact skip (by rw[hce];simp[c1])
      ·rw[if_pos (by simpa using c1)]
       have c1b:(thA l k==thA l a)=false:=by simpa using c1
       rw[c1b] at hce
       cases c2:clB l i k with
       | true=>
        rw[if_pos rfl]
        exact set (by rw[hce,c2];rfl)
       | false=>
        rw[if_neg (by decide)]
        cases c3:behB p l i k with
        | true=>
         rw[if_pos rfl]
         exact set (by rw[hce,c2,c3];rfl)
        | false=>
         rw[if_neg (by decide)]
         exact skip (by rw[hce,c2,c3];rfl)
  have pass:∀i,i≤n→∀M moved,OK M0 M moved→(moved=false→∀i' j,i' < i→M0 i'=true→chB p l a i' j=true→M0 j=true)→Goes T (.jmp (.l19 (rowOf n M) (i:Int) moved)) (rowOf n (backB p l a)):=by
   refine down ?_ fun i hi ih2=>?_
   ·intro M moved hok hcl
    rw[Zi,hT,ZaU,←hT,Ze,nn,if_neg (by simp)]
    cases moved with
    | true=>
     have h1:=hok.2.2.2 rfl
     have h2:= @ZeU n M
     exact ih (n - card n M) (by omega) M rfl hok.1 hok.2.1
    | false=>
     have e:=hok.2.2.1 rfl
     subst e
     rw[Zi,hT,ZaU,←hT,Ze,if_neg (by decide),nn]
     rw[show rowOf n M=rowOf n (isB p l a) from Z3 fun j _=>ZqU hok.1 (fun k j hk hj=>hcl rfl k j (hMlt hok.2.1 k hk) hk hj) hok.2.1 j]
     exact out
   ·intro M moved hok hcl
    rw[Zi,hT,ZaU,←hT,Ze,nn,if_pos (lt1 hi)]
    refine inner i hi (∀i' j,i' < i→M0 i'=true→chB p l a i' j=true→M0 j=true) (fun M' moved' hok' hcl'=>ih2 M' moved' hok' fun hm i' j hi' h1 hj=>?_) 0 (Nat.zero_le _) M moved hok (fun hm=>⟨hcl hm,fun x hx=>by omega⟩)
    by_cases e:i'=i
    ·subst e;exact (hcl' hm).2 h1 j hj
    ·exact (hcl' hm).1 i' j (by omega) h1 hj
  rw[Zi,hT,ZaU,←hT,Ze,if_pos rfl]
  exact pass 0 (Nat.zero_le _) M0 false ⟨hA,hC,fun _=>rfl,fun h=>by cases h⟩ fun _ i' j h=>by omega
 have start:∀i,i≤n→Goes T (.jmp (.l8 (i:Int) (rowOf n fun j=>decide (j < i)&&chS l a j))) (rowOf n (backB p l a)):=by
  refine down ?_ fun i hi ih=>?_
  ·rw[Zi,hT,ZaU,←hT,Ze,nn,if_neg (by simp)]
   rw[show (rowOf n fun j=>decide (j < n)&&chS l a j)=rowOf n (chS l a) from Z3 fun j hj=>by rw[decide_eq_true hj];rfl]
   exact loop _ (chS l a) rfl (fun j h=>h) (fun j h=>.start h)
  ·have ei:List.getD l i (dflt Zb)=accA l i:=rfl
   rw[Zi,hT,ZaU,←hT]
   simp only[Ze,nn,ZK,lt1 hi,lt1 ha,nng,Bool.and_self,if_true,Int.toNat_natCast,ei,ea,ZuT,Zo (k:=i) (by omega)]
   rw[ZBd,show (rowOf n fun j=>if j=i then clB l a i else decide (j < i)&&chS l a j)=(rowOf n fun j=>decide (j < i+1)&&chS l a j) from Z3 fun j hj=>by
    by_cases e:j=i
    ·subst e
     rw[if_pos rfl,decide_eq_true (by omega),Bool.true_and]
     unfold chS
     rw[hn,decide_eq_true hj,Bool.true_and]
    ·rw[if_neg e]
     by_cases e2:j < i
     ·rw[decide_eq_true e2,decide_eq_true (by omega)]
     ·rw[decide_eq_false e2,decide_eq_false (by omega)]]
   exact ih
 have:=start 0 (Nat.zero_le _)
 rw[show (rowOf n fun j=>decide (j < 0)&&chS l a j)=List.replicate n false from by
  rw[ZoH];exact Z3 fun j _=>by simp] at this
 exact this
end Go.Ev
end

section
open Go Go.Ev
namespace Go.Ev
noncomputable section
noncomputable def ZBY:Run:=entG Zhv ZqC (fun a=>ZiY a.1 a.2.1 a.2.2.1) (fun a=>ZcK a.1 a.2.1 a.2.2.1)
theorem ZJp:EntOK Go.Proofs.Tryz.prog 59 ZBY:=ZI (tb:=Ztc) (c:=ZpA) ZKp (by kernel_rfl) (by kernel_rfl) (by kernel_rfl) (fun a=>by kernel_rfl) fun ⟨p,l,a,_⟩ hk=>Zl (c:=ZpA) (K:=fun v=>(ZqC v,tps (toForms Zhv (p,l,a,())))) (S:=ZgZ p l a) (by kernel_rfl) (ZHp p l a) (ZJY p l a) (ZLE p l a hk)
end
end Go.Ev
end

section
open Go Go.Ev
namespace Go.Ev
noncomputable section
def Zel:Sig:=[(true,Zc)]
noncomputable def ZqE:Tbl:=[(57,ZsY),(58,ZuV),(59,ZBY)]
theorem ZCT:∀p∈ZqE,EntOK Go.Proofs.Tryz.prog p.1 p.2:=Zg Zzw (Zg Zyi (Zg ZJp (Zt)))
noncomputable def ZkE:Code:=Go.Proofs.Tryz.f30.body.getD .skip
def ZnG:Tb:=[(5,⟨[1,3,4,5],[(5,118)]⟩),(13,⟨[1,3,4,5,6,7],[(5,118)]⟩)]
inductive Zin where | l5 (s:Int) (out:List (El Zd)) | l13 (behind:List Bool) (s:Int) (r:Int) (out:List (El Zd))
def ZbD (p:El Zc):Zin→JT Zin (List (El Zd)) |.l5 s out=>.br (decide (s < (Int.ofNat (List.length (Zs p))))) (.br ((decide ((0:Int)≤s))&&(decide (s < (Int.ofNat (List.length (Zs p)))))) (.br (! (List.getD (Zs p) (Int.toNat s) (dflt Zb)).2.2.2.2.1) (.jmp (.l5 (IntKind.i64.wrap (s+(1:Int))) out)) (.br ((decide ((0:Int)≤s))&&(decide (s < (Int.ofNat (List.length (Zs p)))))) (.br (List.getD (Zs p) (Int.toNat s) (dflt Zb)).2.2.2.2.2 (.jmp (.l5 (IntKind.i64.wrap (s+(1:Int))) out)) (.br ((decide ((0:Int)≤s))&&(decide (s < (Int.ofNat (List.length (Zs p)))))) (.br ((decide ((0:Int)≤(List.getD (Zs p) (Int.toNat s) (dflt Zb)).1))&&(decide ((List.getD (Zs p) (Int.toNat s) (dflt Zb)).1 < (Int.ofNat (List.length p.2))))) (.br ((decide ((0:Int)≤s))&&(decide (s < (Int.ofNat (List.length (Zs p)))))) (.br (Zci (List.getD p.2 (Int.toNat (List.getD (Zs p) (Int.toNat s) (dflt Zb)).1) (dflt (.sl Za))) (List.getD (Zs p) (Int.toNat s) (dflt Zb)).2.1) (.jmp (.l13 (Zaq (List.getD p.2 (Int.toNat (List.getD (Zs p) (Int.toNat s) (dflt Zb)).1) (dflt (.sl Za))) (List.getD (Zs p) (Int.toNat s) (dflt Zb)).2.1) s (0:Int) out)) (.no)) (.no)) (.no)) (.no))) (.no))) (.no)) (.leaf out) |.l13 behind s r out=>.br (decide (r < (Int.ofNat (List.length (Zs p))))) (.br ((decide ((0:Int)≤r))&&(decide (r < (Int.ofNat (List.length (Zs p)))))) (.br ((decide ((0:Int)≤s))&&(decide (s < (Int.ofNat (List.length (Zs p)))))) (.br ((List.getD (Zs p) (Int.toNat r) (dflt Zb)).1==(List.getD (Zs p) (Int.toNat s) (dflt Zb)).1) (.br ((decide ((0:Int)≤r))&&(decide (r < (Int.ofNat (List.length (Zs p)))))) (.br (! (List.getD (Zs p) (Int.toNat r) (dflt Zb)).2.2.2.2.1) (.br ((decide ((0:Int)≤r))&&(decide (r < (Int.ofNat (List.length (Zs p)))))) (.br (! (List.getD (Zs p) (Int.toNat r) (dflt Zb)).2.2.2.2.2) (.br ((decide ((0:Int)≤r))&&(decide (r < (Int.ofNat (List.length (Zs p)))))) (.br ((decide ((0:Int)≤(List.getD (Zs p) (Int.toNat r) (dflt Zb)).2.1))&&(decide ((List.getD (Zs p) (Int.toNat r) (dflt Zb)).2.1 < (Int.ofNat (List.length behind))))) (.br (List.getD behind (Int.toNat (List.getD (Zs p) (Int.toNat r) (dflt Zb)).2.1) (dflt .bool)) (.br (ZiY p (Zs p) r) (.br ((decide ((0:Int)≤s))&&(decide (s < (Int.ofNat (List.length (ZcK p (Zs p) r)))))) (.br (List.getD (ZcK p (Zs p) r) (Int.toNat s) (dflt .bool)) (.br ((decide ((0:Int)≤s))&&(decide (s < (Int.ofNat (List.length (Zs p)))))) (.br ((decide ((0:Int)≤s))&&(decide (s < (Int.ofNat (List.length (Zs p)))))) (.br ((decide ((0:Int)≤r))&&(decide (r < (Int.ofNat (List.length (Zs p)))))) (.br (Nat.ble (((List.length out)+1)*24) limit) (.jmp (.l13 behind s (IntKind.i64.wrap (r+(1:Int))) (out++[((List.getD (Zs p) (Int.toNat s) (dflt Zb)).1,((List.getD (Zs p) (Int.toNat s) (dflt Zb)).2.1,(List.getD (Zs p) (Int.toNat r) (dflt Zb)).2.1))]))) (.no)) (.no)) (.no)) (.no)) (.jmp (.l13 behind s (IntKind.i64.wrap (r+(1:Int))) out))) (.no)) (.no)) (.jmp (.l13 behind s (IntKind.i64.wrap (r+(1:Int))) out))) (.no)) (.no)) (.jmp (.l13 behind s (IntKind.i64.wrap (r+(1:Int))) out))) (.no)) (.jmp (.l13 behind s (IntKind.i64.wrap (r+(1:Int))) out))) (.no)) (.jmp (.l13 behind s (IntKind.i64.wrap (r+(1:Int))) out))) (.no)) (.no)) (.jmp (.l5 (IntKind.i64.wrap (s+(1:Int))) out))
def ZnZ (p:El Zc):JT Zin (List (El Zd)):=.br (Zik p) (.jmp (.l5 (0:Int) [])) (.no)
def Zk2:List (El Zd)→AV:=fun (r:List (El Zd))=>.rw 70 Zd r
def ZdF (p:El Zc):Zin→Nat×St |.l5 s out=>(5,⟨mkTm 116 [(1,.pt 2 0 0),(3,.own 4 0 none),(4,.own 5 0 none),(5,.d (.int .i64) s)],[(2,0,.box 27 [.d (.sl Zx) p.1,.d (.sl (.sl Za)) p.2] none),(4,0,.row 90 Zb (Zs p) false),(5,0,.row 70 Zd out false)]⟩) |.l13 behind s r out=>(13,⟨mkTm 116 [(1,.pt 2 0 0),(3,.own 4 0 none),(4,.own 5 0 none),(5,.d (.int .i64) s),(6,.own 7 0 none),(7,.d (.int .i64) r)],[(2,0,.box 27 [.d (.sl Zx) p.1,.d (.sl (.sl Za)) p.2] none),(4,0,.row 90 Zb (Zs p) false),(5,0,.row 70 Zd out false),(7,0,.row 4 .bool behind false)]⟩)
theorem ZCr (p:El Zc) (L:Lt):entryA Go.Proofs.Tryz.prog (clOf ZqE) ZnG Go.Proofs.Tryz.f30 ZkE L (toForms Zel (p,()))=(ZnZ p).run (fun v=>some (Zk2 v,tps (toForms Zel (p,())))) fun j=>L (ZdF p j).1 (ZdF p j).2:=by kernel_rfl
theorem ZDm (p:El Zc):∀(L:Lt) (j:Zin),procOf (procsF Go.Proofs.Tryz.prog (clOf ZqE) ZnG Go.Proofs.Tryz.f30 ZkE (toForms Zel (p,()))) (ZdF p j).1 L (ZdF p j).2=(ZbD p j).run (fun v=>some (Zk2 v,tps (toForms Zel (p,())))) fun j=>L (ZdF p j).1 (ZdF p j).2 | L,.l5 s out=>by kernel_rfl | L,.l13 behind s r out=>by kernel_rfl
end
end Go.Ev
end

section
open Go
namespace Go.Ev
def stB' (l:List Acc) (s:Nat):Bool:=(accA l s).2.2.2.2.1&& ! (accA l s).2.2.2.2.2
def ldB' (l:List Acc) (s:Nat):Bool:=! (accA l s).2.2.2.2.1&& ! (accA l s).2.2.2.2.2
noncomputable def delB (p:El Zc) (l:List Acc) (s r:Nat):Bool:=((thA l r==thA l s)&&ldB' l r)&&(fromB (thrOf p l s) (inA l s) (inA l r).toNat&&backB p l r s)
def delPair (l:List Acc) (s r:Nat):El Zd:=(thA l s,(inA l s,inA l r))
noncomputable def delS (p:El Zc) (l:List Acc) (s:Nat):List (El Zd):=if stB' l s then ((List.range' 0 l.length).filter fun r=>delB p l s r).map (delPair l s) else []
noncomputable def delsFrom (p:El Zc) (l:List Acc) (s:Nat):List (El Zd):=(List.range' s (l.length - s)).flatMap (delS p l)
noncomputable def ZA (p:El Zc):List (El Zd):=delsFrom p (ofC p) 0
def Za8 (p:El Zc):Bool:=smallAll p&&decide ((ofC p).length < 1000000)
theorem ZMc (p:El Zc) (l:List Acc) (s:Nat):(delS p l s).length≤l.length:=by
 unfold delS
 split
 ·rw[List.length_map]
  have:=List.length_filter_le (fun r=>delB p l s r) (List.range' 0 l.length)
  rw[List.length_range'] at this
  exact this
 ·exact Nat.zero_le _
theorem ZES (p:El Zc) (hk:Za8 p=true):Goes (ZbD p) (ZnZ p) (ZA p):=by
 unfold Za8 at hk
 rw[Bool.and_eq_true] at hk
 obtain ⟨hs,hN⟩:=hk
 have hN:=of_decide_eq_true hN
 have kt:Zik p=true:=hs
 have vt:Zs p=ofC p:=rfl
 have facts:=fun i=>Zgm (i:=i) hs
 have same_th:∀i k,thA (ofC p) k=thA (ofC p) i→thrOf p (ofC p) k=thrOf p (ofC p) i:=fun i k h=>by unfold thrOf;rw[h]
 have kb:∀r,ZiY p (ofC p) r=true:=fun r=>by unfold ZiY;rw[hs,ZL5.2 rfl];rfl
 have vb:∀r:Nat,r < (ofC p).length→ZcK p (ofC p) (r:Int)=rowOf (ofC p).length fun b=>backB p (ofC p) r b:=fun r hr=>by
  unfold ZcK
  rw[Int.toNat_natCast]
  exact Z3 fun i _=>by rw[decide_eq_true ⟨Int.natCast_nonneg r,Int.ofNat_lt.2 hr⟩,Bool.true_and]
 obtain ⟨l,hl⟩:∃l,ofC p=l:=⟨_,rfl⟩
 rw[hl] at hN vt facts kb vb same_th
 have outer:∀s,s≤l.length→∀out:List (El Zd),out.length≤s*l.length→Goes (ZbD p) (.jmp (.l5 (s:Int) out)) (out++delsFrom p l s):=by
  refine down ?_ fun s hsl ih=>?_
  ·intro out ho
   rw[Zi,ZbD,vt,Ze,if_neg (by rw[Zv (Nat.lt_irrefl _)];decide)]
   unfold delsFrom
   rw[Nat.sub_self]
   simp only[List.range'_zero,List.flatMap_nil,List.append_nil]
   exact .leaf
  ·intro out ho
   have e:delsFrom p l s=delS p l s++delsFrom p l (s+1):=by
    unfold delsFrom
    rw[show l.length - s=(l.length - (s+1))+1 by omega,List.range'_succ,List.flatMap_cons]
   have ga:List.getD l s (dflt Zb)=accA l s:=rfl
   have goon:∀o2,o2=out++delS p l s→Goes (ZbD p) (.jmp (.l5 (((s+1:Nat)):Int) o2)) (out++delsFrom p l s):=fun o2 ho2=>by
    have:=ih (out++delS p l s) (by
     rw[List.length_append]
     have:=ZMc p l s
     rw[Nat.add_mul];omega)
    rw[e,←List.append_assoc,ho2]
    exact this
   rw[Zi,ZbD,vt]
   simp only[Ze,ZO hsl,nng,Bool.and_self,if_true,Int.toNat_natCast,ga,Zo (k:=s) (by omega)]
   by_cases c1:(! (accA l s).2.2.2.2.1)=true
   ·rw[if_pos c1]
    refine goon out ?_
    unfold delS stB'
    rw[if_neg (by rw[Bool.not_eq_true'] at c1;rw[c1,Bool.false_and];exact Bool.false_ne_true),List.append_nil]
   rw[if_neg c1]
   by_cases c2:(accA l s).2.2.2.2.2=true
   ·rw[if_pos c2]
    refine goon out ?_
    unfold delS stB'
    rw[if_neg (by rw[c2];simp),List.append_nil]
   rw[if_neg c2]
   have hst:stB' l s=true:=by
    unfold stB'
    cases h1:(accA l s).2.2.2.2.1 <;> cases h2:(accA l s).2.2.2.2.2 <;> simp_all
   have hdel:delS p l s=((List.range' 0 l.length).filter fun r=>delB p l s r).map (delPair l s):=by unfold delS;rw[if_pos hst]
   obtain ⟨t0,t1,hf,i0,i1⟩:=facts s hsl
   have hth:(decide ((0:Int)≤(accA l s).1)&&decide ((accA l s).1 < Int.ofNat p.2.length))=true:=by
    rw[Bool.and_eq_true,decide_eq_true_eq,decide_eq_true_eq];exact ⟨t0,t1⟩
   have kf:Zci (List.getD p.2 (Int.toNat (accA l s).1) (dflt (.sl Za))) (accA l s).2.1=true:=hf
   have vf:Zaq (List.getD p.2 (Int.toNat (accA l s).1) (dflt (.sl Za))) (accA l s).2.1=rowOf (thrOf p l s).length (fromB (thrOf p l s) (inA l s)):=rfl
   rw[if_pos hth,if_pos kf,vf]
   have inner:∀r,r≤l.length→∀o2:List (El Zd),o2.length≤s*l.length+r→o2++((List.range' r (l.length - r)).filter fun r=>delB p l s r).map (delPair l s)=out++delS p l s→
     Goes (ZbD p) (.jmp (.l13 (rowOf (thrOf p l s).length (fromB (thrOf p l s) (inA l s))) (s:Int) (r:Int) o2)) (out++delsFrom p l s):=by
    refine down ?_ fun r hr ih2=>?_
    ·intro o2 ho2 he
     rw[Zi,ZbD,vt,Ze,if_neg (by rw[Zv (Nat.lt_irrefl _)];decide),Zo (by omega)]
     rw[Nat.sub_self] at he
     simp only[List.range'_zero,List.filter_nil,List.map_nil,List.append_nil] at he
     exact goon o2 he
    ·intro o2 ho2 he
     have hprod:s*l.length≤1000000*1000000:=Nat.mul_le_mul (by omega) (by omega)
     have b1:Nat.ble ((o2.length+1)*24) limit=true:=Nat.ble_eq_true_of_le (by unfold limit;omega)
     have gr:List.getD l r (dflt Zb)=accA l r:=rfl
     rw[show l.length - r=(l.length - (r+1))+1 by omega,List.range'_succ,List.filter_cons] at he
     have next:∀o3,delB p l s r=false→o3=o2→Goes (ZbD p) (.jmp (.l13 (rowOf (thrOf p l s).length (fromB (thrOf p l s) (inA l s))) (s:Int) ((r+1:Nat):Int) o3)) (out++delsFrom p l s):=fun o3 hd h3=>by
      subst h3
      rw[if_neg (by rw[hd];decide)] at he
      exact ih2 o3 (by omega) he
     rw[Zi,ZbD,vt]
     simp only[Ze,ZO hr,ZO hsl,nng,Bool.and_self,if_true,Int.toNat_natCast,ga,gr,b1,Zo (k:=r) (by omega)]
     by_cases d1:((accA l r).1==(accA l s).1)=true
     ·rw[if_pos d1]
      by_cases d2:(! (accA l r).2.2.2.2.1)=true
      ·rw[if_pos d2]
       by_cases d3:(! (accA l r).2.2.2.2.2)=true
       ·rw[if_pos d3]
        have eth:thA l r=thA l s:=by simpa[thA] using d1
        obtain ⟨_,_,_,j0,j1⟩:=facts r hr
        rw[same_th s r eth] at j1
        have hin:(decide ((0:Int)≤(accA l r).2.1)&&decide ((accA l r).2.1 < Int.ofNat (rowOf (thrOf p l s).length (fromB (thrOf p l s) (inA l s))).length))=true:=by
         rw[ZK,Bool.and_eq_true,decide_eq_true_eq,decide_eq_true_eq];exact ⟨j0,j1⟩
        have hin':(inA l r).toNat < (thrOf p l s).length:=by omega
        have hg:List.getD (rowOf (thrOf p l s).length (fromB (thrOf p l s) (inA l s))) (Int.toNat (accA l r).2.1) (dflt .bool)=fromB (thrOf p l s) (inA l s) (inA l r).toNat:=Zby hin'
        rw[if_pos hin,hg]
        have hld:ldB' l r=true:=by unfold ldB';rw[d2,d3];rfl
        have hdb:delB p l s r=(fromB (thrOf p l s) (inA l s) (inA l r).toNat&&backB p l r s):=by
         unfold delB
         rw[hld,show (thA l r==thA l s)=true from d1];rfl
        by_cases d4:fromB (thrOf p l s) (inA l s) (inA l r).toNat=true
        ·rw[if_pos d4,if_pos (kb (r:Int)),vb r hr,ZK,Bool.true_and,if_pos (ZO hsl),Zby hsl]
         by_cases d5:backB p l r s=true
         ·rw[if_pos d5]
          rw[if_pos (by rw[hdb,d4,d5];rfl)] at he
          exact ih2 _ (by simp;omega) (by rw[List.append_assoc];exact he)
         ·rw[if_neg d5]
          exact next _ (by rw[hdb];simp[d5]) rfl
        ·rw[if_neg d4]
         exact next _ (by rw[hdb];simp[d4]) rfl
       ·rw[if_neg d3]
        exact next _ (by unfold delB ldB';simp at d3;simp[d3]) rfl
      ·rw[if_neg d2]
       exact next _ (by unfold delB ldB';simp at d2;simp[d2]) rfl
     ·rw[if_neg d1]
      exact next _ (by unfold delB thA;simp at d1;simp[d1]) rfl
   exact inner 0 (Nat.zero_le _) out (by omega) (by rw[hdel];rfl)
 have:=outer 0 (Nat.zero_le _) [] (Nat.zero_le _)
 unfold ZnZ ZA
 rw[Ze,if_pos kt,hl]
 exact this
end Go.Ev
end

section
open Go
namespace Go.Ev
def Zrc (a b:List (El Zd)):Bool:=decide (a.length < 4611686018427387904)
end Go.Ev
end

section
open Go
namespace Go.Ev
theorem ZJs {n:Nat} (hn:n < 4611686018427387904) {B:Nat→Bool} :∀(xs:List Nat) (d:SetD) (M:Nat→Bool),(∀x∈xs,x < n)→SetOK d n M→SetOK (putAll d (xs.map Int.ofNat)) n fun k=>M k || xs.contains k
 | [],d,M,_,h=>h.congr' fun j=>by simp
 | x :: xs,d,M,hx,h=>by
  have h1:=(h.putO hn (hx x (by simp))).2
  have h2:=ZJs (B:=B) hn xs _ _ (fun y hy=>hx y (by simp[hy])) h1
  refine h2.congr' fun j=>?_
  rw[List.contains_cons,Bool.or_assoc]
theorem Zz8 {n:Nat} (hn:n < 4611686018427387904) {B:Nat→Bool} :SetOK (putAll ((n:Int),[]) (listOf n B)) n fun k=>decide (k < n)&&B k:=by
 have:=ZJs (B:=B) hn ((List.range n).filter B) ((n:Int),[]) _ (fun x hx=>List.mem_range.1 (List.mem_filter.1 hx).1) (SetOK.new n)
 refine this.congr' fun j=>?_
 rw[Bool.false_or,Bool.eq_iff_iff,List.contains_iff_mem,List.mem_filter,List.mem_range,Bool.and_eq_true,decide_eq_true_eq]
theorem ZP4 {n:Nat} (hn:n < 4611686018427387904):Zy (Int.ofNat n)=((n:Int),[]):=by
 unfold Zy
 simp
 omega
section
variable {p:El Zc}
theorem ZQc (hk:ZS p=true) {r:Nat} (hr:r < (ofC p).length):SetOK (dBack p (ofC p) (r:Int)) (ofC p).length fun k=>decide (k < (ofC p).length)&&backB p (ofC p) r k:=by
 obtain ⟨hs,hd⟩:=delayOK hk
 have hn:(ofC p).length < 4611686018427387904:=Nat.lt_trans hd.len (by decide)
 unfold dBack
 rw[ZP4 hn]
 unfold ZbI
 rw[if_pos ⟨Int.natCast_nonneg r,Int.ofNat_lt.2 hr⟩,Int.toNat_natCast]
 exact Zz8 hn
theorem ZQ4 (hk:ZS p=true) {s r:Nat} (hs:s < (ofC p).length) (hr:r < (ofC p).length) (ht:thA (ofC p) r=thA (ofC p) s):
  hitP p (ofC p) (s:Int) (frS p (ofC p) (thA (ofC p) s) (s:Int)) (r:Int)=(fromB (thrOf p (ofC p) s) (inA (ofC p) s) (inA (ofC p) r).toNat&&backB p (ofC p) r s):=by
 obtain ⟨hsm,hd⟩:=delayOK hk
 have hn:(ofC p).length < 4611686018427387904:=Nat.lt_trans hd.len (by decide)
 obtain ⟨t0,t1,hf,i0,i1⟩:=Zgm hsm hs
 obtain ⟨_,_,_,j0,j1⟩:=Zgm hsm hr
 have et:thrOf p (ofC p) r=thrOf p (ofC p) s:=by unfold thrOf;rw[ht]
 rw[et] at j1
 have hlen:(thrOf p (ofC p) s).length < 4611686018427387904:=Nat.lt_trans (ZbC hf) (by decide)
 have e1:frS p (ofC p) (thA (ofC p) s) (s:Int)=putAll (((thrOf p (ofC p) s).length:Int),[]) (listOf (thrOf p (ofC p) s).length (fromB (thrOf p (ofC p) s) (inA (ofC p) s))):=by
  unfold frS
  rw[show insP p (thA (ofC p) s)=thrOf p (ofC p) s from rfl,ZP4 hlen]
  rfl
 have h1:=Zz8 hlen (B:=fromB (thrOf p (ofC p) s) (inA (ofC p) s))
 rw[←e1] at h1
 have h2:=ZQc hk hr
 have e2:∀(x:SetD) (i:Int),(Zq x i).1=hasS x i:=fun _ _=>rfl
 have g1:(Zq (frS p (ofC p) (thA (ofC p) s) (s:Int)) (inA (ofC p) r)).1=fromB (thrOf p (ofC p) s) (inA (ofC p) s) (inA (ofC p) r).toNat:=by
  rw[e2,h1.has hlen,decide_eq_true j0,decide_eq_true (show (inA (ofC p) r).toNat < (thrOf p (ofC p) s).length by omega),Bool.true_and,Bool.true_and]
 have g2:(Zq (dBack p (ofC p) (r:Int)) (s:Int)).1=backB p (ofC p) r s:=by
  rw[e2,h2.has hn,decide_eq_true (Int.natCast_nonneg s),Int.toNat_natCast,decide_eq_true hs,Bool.true_and,Bool.true_and]
 unfold hitP
 rw[g2]
 have:(Zq (frS p (ofC p) (thA (ofC p) s) (s:Int)) (List.getD (ofC p) (Int.toNat (r:Int)) (dflt Zb)).2.1).1=fromB (thrOf p (ofC p) s) (inA (ofC p) s) (inA (ofC p) r).toNat:=by
  rw[Int.toNat_natCast]
  exact g1
 rw[this]
end
theorem ZqY {α β:Type} {f g:α→List β} {l:List α} (h:∀x∈l,f x=g x):l.flatMap f=l.flatMap g:=by
 rw[List.flatMap_def,List.flatMap_def,List.map_congr_left h]
theorem ZQb {α β:Type} {key:α→Nat} {D:α→List β} :∀(T:Nat) (L:List α),L.Pairwise (fun a b=>key a≤key b)→(∀x∈L,key x < T)→((List.range T).flatMap fun t=>(L.filter fun x=>key x==t).flatMap D)=L.flatMap D
 | 0,L,_,h=>by
  cases L with
  | nil=>rfl
  | cons x L=>exact absurd (h x (by simp)) (Nat.not_lt_zero _)
 | T+1,L,hp,h=>by
  have split:∀L:List α,L.Pairwise (fun a b=>key a≤key b)→(∀x∈L,key x < T+1)→L=(L.filter fun x=>decide (key x < T))++L.filter fun x=>key x==T:=by
   intro L
   induction L with
   | nil=>intros;rfl
   | cons x L ih=>
    intro hp h
    obtain ⟨p1,p2⟩:=List.pairwise_cons.1 hp
    have ih:=ih p2 fun y hy=>h y (by simp[hy])
    by_cases hx:key x < T
    ·have hx':(key x==T)=false:=by rw[beq_eq_false_iff_ne];omega
     rw[List.filter_cons_of_pos (by simpa using hx),List.filter_cons_of_neg (by rw[hx'];exact Bool.false_ne_true),List.cons_append,←ih]
    ·have hk:key x=T:=by have:=h x (by simp);omega
     have hnone:L.filter (fun x=>decide (key x < T))=[]:=List.filter_eq_nil_iff.2 fun y hy=>by have:=p1 y hy;simp;omega
     rw[List.filter_cons_of_neg (by simpa using hx),List.filter_cons_of_pos (by simpa using hk),hnone,List.nil_append]
     rw[hnone,List.nil_append] at ih
     rw[←ih]
  have e:=split L hp h
  rw[List.range_succ,List.flatMap_append]
  have h1:((List.range T).flatMap fun t=>(L.filter fun x=>key x==t).flatMap D)=(L.filter fun x=>decide (key x < T)).flatMap D:=by
   rw[←ZQb T (L.filter fun x=>decide (key x < T)) (hp.sublist List.filter_sublist) fun x hx=>by simpa using (List.mem_filter.1 hx).2]
   refine ZqY fun t ht=>?_
   rw[List.filter_filter]
   congr 1
   refine List.filter_congr fun x hx=>?_
   have:=List.mem_range.1 ht
   by_cases hk:key x=t
   ·simp[hk,this]
   ·simp[hk]
  rw[h1]
  simp only[List.flatMap_cons,List.flatMap_nil,List.append_nil]
  rw[←List.flatMap_append,←e]
theorem ZOy {α β γ:Type} {g:β→List γ} {f:α→β} {P H:α→Bool} {q:α→γ} :∀(l:List α),(∀x∈l,P x=true→g (f x)=if H x=true then [q x] else [])→((l.filter P).map f).flatMap g=(l.filter fun x=>P x&&H x).map q
 | [],_=>rfl
 | x :: l,h=>by
  have ih:=ZOy l fun y hy=>h y (by simp[hy])
  cases hP:P x with
  | false=>rw[List.filter_cons_of_neg (by simp[hP]),List.filter_cons_of_neg (by simp[hP]),ih]
  | true=>
   rw[List.filter_cons_of_pos hP,List.map_cons,List.flatMap_cons,h x (by simp) hP,ih]
   cases hH:H x with
   | false=>rw[List.filter_cons_of_neg (by simp[hP,hH])];simp
   | true=>rw[List.filter_cons_of_pos (by simp[hP,hH])];simp
theorem Zu1 {α β:Type} {P:α→Bool} {D:α→List β} :∀(l:List α),(l.flatMap fun x=>if P x=true then D x else [])=(l.filter P).flatMap D
 | []=>rfl
 | x :: l=>by
  cases hP:P x with
  | false=>rw[List.filter_cons_of_neg (by simp[hP]),List.flatMap_cons,Zu1 l];simp[hP]
  | true=>rw[List.filter_cons_of_pos hP,List.flatMap_cons,List.flatMap_cons,Zu1 l];simp[hP]
theorem ZQ9 {p:El Zc} {a b:Nat} (ha:a < (ofC p).length) (hb:b < (ofC p).length) (h:a < b):thA (ofC p) a≤thA (ofC p) b:=by
 have ho:=List.pairwise_iff_getElem.1 (ZNZ p) a b ha hb h
 have ga:accA (ofC p) a=(ofC p)[a]:=by unfold accA;rw[ZH ha]
 have gb:accA (ofC p) b=(ofC p)[b]:=by unfold accA;rw[ZH hb]
 rw[←ga,←gb] at ho
 have:∀t k q t' k' q':Int,ltNX t k q t' k' q'→t≤t':=fun t k q t' k' q' h=>by
  rcases h with h | ⟨h,_⟩ <;> omega
 exact this _ _ _ _ _ _ ho
theorem ZOT {p:El Zc} (hk:ZS p=true):Zj p=ZA p:=by
 obtain ⟨hsm,hd⟩:=delayOK hk
 have facts:=fun i=>Zgm (i:=i) hsm
 have hits:=fun s r=>ZQ4 (s:=s) (r:=r) hk
 have keys:=fun a b=>ZQ9 (p:=p) (a:=a) (b:=b)
 unfold Zj ZA delsFrom outN
 generalize ofC p=l at facts hits keys
 rw[Nat.sub_zero,←List.range_eq_range']
 have hD:∀s,delS p l s=if stB' l s=true then ((List.range l.length).filter fun r=>delB p l s r).map (delPair l s) else []:=fun s=>by
  unfold delS
  rw[←List.range_eq_range']
 rw[ZqY fun s _=>hD s,Zu1]
 refine Eq.trans ?_ (ZQb (key:=fun s=>(thA l s).toNat) p.2.length ((List.range l.length).filter fun s=>stB' l s) ?_ ?_)
 ·refine ZqY fun t ht=>?_
  have ht:=List.mem_range.1 ht
  rw[List.filter_filter]
  unfold outT ZT listOf
  rw[List.flatMap_map]
  have hf:(List.range l.length).filter (plB l (t:Int) true)=(List.range l.length).filter fun s=>((thA l s).toNat==t)&&stB' l s:=by
   refine List.filter_congr fun s hs=>?_
   obtain ⟨t0,_⟩:=facts s (List.mem_range.1 hs)
   unfold plB stB'
   rw[Bool.and_assoc]
   have e:(((List.getD l s (dflt Zb)).1:Int)==(t:Int))=((thA l s).toNat==t):=by
    show (thA l s==(t:Int))=_
    rw[Bool.eq_iff_iff,beq_iff_eq,beq_iff_eq]
    omega
   have e2:((List.getD l s (dflt Zb)).2.2.2.2.1==true)=(accA l s).2.2.2.2.1:=by
    show ((accA l s).2.2.2.2.1==true)=_
    cases (accA l s).2.2.2.2.1 <;> rfl
   rw[e2]
   exact congrArg (· &&_) e
  rw[hf]
  refine ZqY fun s hs=>?_
  obtain ⟨hs1,hs2⟩:=List.mem_filter.1 hs
  have hsN:=List.mem_range.1 hs1
  rw[Bool.and_eq_true,beq_iff_eq] at hs2
  obtain ⟨t0,_⟩:=facts s hsN
  have hth:thA l s=(t:Int):=by have:=hs2.1;omega
  unfold outS ZT listOf
  rw[ZOy (H:=fun r=>fromB (thrOf p l s) (inA l s) (inA l r).toNat&&backB p l r s) (q:=delPair l s)]
  ·congr 1
   refine List.filter_congr fun r hr=>?_
   unfold plB delB ldB'
   have e1:(((List.getD l r (dflt Zb)).1:Int)==(t:Int))=(thA l r==thA l s):=by rw[hth];rfl
   have e2:((List.getD l r (dflt Zb)).2.2.2.2.1==false)=! (accA l r).2.2.2.2.1:=by
    show ((accA l r).2.2.2.2.1==false)=_
    cases (accA l r).2.2.2.2.1 <;> rfl
   rw[e2,←Bool.and_assoc (thA l r==thA l s)]
   exact congrArg (fun x=>x&&_&&_&&_) e1
  ·intro r hr hP
   have hrN:=List.mem_range.1 hr
   unfold plB at hP
   rw[Bool.and_eq_true,Bool.and_eq_true] at hP
   have hth2:thA l r=(t:Int):=by have:=hP.1.1;exact eq_of_beq this
   have:=hits s r hsN hrN (hth2.trans hth.symm)
   rw[hth] at this
   show oneP p l (t:Int) (s:Int) (frS p l (t:Int) (s:Int)) (r:Int)=_
   unfold oneP
   rw[this]
   unfold delPair
   rw[hth]
   rfl
 ·refine List.Pairwise.filter _ ?_
  refine List.pairwise_lt_range.imp_of_mem fun {a b} ha hb h=>?_
  have:=keys a b (List.mem_range.1 ha) (List.mem_range.1 hb) h
  omega
 ·intro s hs
  obtain ⟨t0,t1,_⟩:=facts s (List.mem_range.1 (List.mem_filter.1 hs).1)
  omega
end Go.Ev
end

section
namespace Go.Ev
open Go
theorem ZDL (i:El Za) (ls:List ByteArray):Zz (setL i ls)=Zz i:=rfl
theorem ZQl (i:El Za) (ls:List ByteArray):(setL i ls).2.2.2.2.2.1=i.2.2.2.2.2.1:=rfl
theorem ZDF {th:List (List (El Za))} {k r s n:Int} (h:k=3∨k=4→placeOK k s n=true):placeC (symsB,th) (k,(r,(s,n)))=0:=by
 show placeN 3 _ k s n=0
 unfold placeN
 by_cases hk:k=3∨k=4
 ·rw[if_pos hk]
  have:=h hk
  unfold placeOK at this
  simp only[Bool.and_eq_true,decide_eq_true_eq,Bool.or_eq_true,beq_iff_eq] at this
  obtain ⟨h0,h3,hn⟩:=this
  rw[if_neg (by omega)]
  have hs:s=0∨s=1∨s=2:=by omega
  rcases hs with rfl | rfl | rfl
  ·rw[if_neg]
   rintro ⟨h1,h2⟩
   have h2:(1:Int)≤n:=h2
   rcases hn with hn | hn
   ·omega
   ·have hn:n < (1:Int):=hn
    omega
  ·rw[if_neg]
   rintro ⟨h1,h2⟩
   have h2:(2:Int)≤n:=h2
   rcases hn with hn | hn
   ·omega
   ·have hn:n < (2:Int):=hn
    omega
  ·rw[if_neg]
   rintro ⟨h1,h2⟩
   have h2:(1:Int)≤n:=h2
   rcases hn with hn | hn
   ·omega
   ·have hn:n < (1:Int):=hn
    omega
 ·rw[if_neg hk]
theorem ZNS {th:List (List (El Za))} {many:Int} {i:El Za} (h:BookOK many i) (ls:List ByteArray):insC (symsB,th) (setL i ls)=0:=by
 have hA:placeC (symsB,th) i.2.2.2.1=0:=ZDF (k:=i.2.2.2.1.1) (r:=i.2.2.2.1.2.1) (s:=i.2.2.2.1.2.2.1) (n:=i.2.2.2.1.2.2.2) h.placeA
 have hB:placeC (symsB,th) i.2.2.2.2.1=0:=ZDF (k:=i.2.2.2.2.1.1) (r:=i.2.2.2.2.1.2.1) (s:=i.2.2.2.2.1.2.2.1) (n:=i.2.2.2.2.1.2.2.2) h.placeB
 unfold insC
 rw[ZDL,h.right]
 show (if (0:Int)≠0 then _ else if placeC (symsB,th) i.2.2.2.1≠0 then _ else placeC (symsB,th) i.2.2.2.2.1)=0
 rw[hA,hB]
 rfl
theorem ZJJ {p:El Zc} {K:List ByteArray→Int} :∀(x:List (El Za)) (k:Nat) (seen:List ByteArray),
  (∀(j:Nat) (i:El Za),x[j]? =some i→(i.2.2.2.2.2.2=[]∨i.2.2.2.2.2.2=[Zn ((k+j:Nat):Int)])∧insC p i=0)→(∀l∈seen,∃k',k' < k∧l=Zn (k':Int))→k+x.length≤100→scanI p K seen x=K (seen++labels x)
 | [],k,seen,_,_,_=>by simp[scanI,labels]
 | i :: r,k,seen,h,hs,hk=>by
  obtain ⟨hl,hi⟩:=h 0 i rfl
  rw[List.length_cons] at hk
  have hr:=fun seen' hs'=>ZJJ (K:=K) r (k+1) seen' (fun j y hy=>by
   have:=h (j+1) y (by simpa using hy)
   rwa[show k+(j+1)=k+1+j by omega] at this) hs' (by omega)
  unfold scanI
  rcases hl with hl | hl
  ·rw[hl]
   unfold scanL
   rw[hi]
   simp only[ne_eq,not_true_eq_false,if_false]
   rw[hr seen fun l hl=>by obtain ⟨k',h1,h2⟩:=hs l hl;exact ⟨k',by omega,h2⟩]
   unfold labels
   rw[List.flatMap_cons,hl,List.nil_append]
  ·rw[hl,Nat.add_zero]
   unfold scanL
   rw[if_neg (by rw[(ZpQ (k:=(k:Int)) (by omega) (by omega)).1];decide)]
   have hns:seen.contains (Zn (k:Int))=false:=by
    rw[Bool.eq_false_iff]
    intro hc
    rw[List.contains_iff_mem] at hc
    obtain ⟨k',h1,h2⟩:=hs _ hc
    have:=ZNx (by omega) (by omega) h2
    omega
   rw[if_neg (by rw[hns];decide)]
   unfold scanL
   rw[hi]
   simp only[ne_eq,not_true_eq_false,if_false]
   rw[hr _ fun l hl=>by
    rcases List.mem_append.1 hl with hl | hl
    ·obtain ⟨k',h1,h2⟩:=hs l hl;exact ⟨k',by omega,h2⟩
    ·rw[List.mem_singleton] at hl;exact ⟨k,by omega,hl⟩]
   unfold labels
   rw[List.flatMap_cons,hl,Nat.add_zero,List.append_assoc]
theorem ZHI {seen:List ByteArray} :∀ {x:List (El Za)},(∀i∈x,((i.1==(10:Int)) || (i.1==(11:Int)))=true→seen.contains i.2.2.2.2.2.1=true)→jumpC seen x=0
 | [],_=>rfl
 | i :: r,h=>by
  unfold jumpC
  have ih:=ZHI fun j hj=>h j (List.mem_cons_of_mem _ hj)
  by_cases hj:((i.1==(10:Int)) || (i.1==(11:Int)))=true
  ·rw[if_pos hj,if_pos (h i (List.mem_cons_self ..) hj)];exact ih
  ·rw[if_neg hj];exact ih
theorem Zl2 {a:List (El Zr)} {n:Nat} (hn:n≤90) (ha:n≤a.length) {k:Nat} {i:El Za} (h:(threadB a n)[k]? =some i):
  (k < n∧∃x,(baseT a n)[k]? =some x∧BookOK ((n+1:Nat):Int) x∧i=setL x (if sAt (baseT a n) n k then [Zn (k:Int)] else []))∨(k=n∧i=setL (bare 14) (if sAt (baseT a n) n k then [Zn (k:Int)] else [])):=by
 have hl:=ZoA a n ha
 obtain ⟨hk,he⟩:=List.getElem?_eq_some_iff.1 h
 unfold threadB at hk he
 rw[Zio hk] at he
 rw[Zb2,hl] at hk
 by_cases hkn:k < n
 ·obtain ⟨x,h1,h2⟩:=ZM1 hn hkn ha
  obtain ⟨h3,h4⟩:=List.getElem?_eq_some_iff.1 h1
  rw[h4] at he
  exact .inl ⟨hkn,_,h1,h2,he.symm⟩
 ·have hkn:k=n:=by omega
  subst hkn
  have:(baseT a k)[k]'(by omega)=bare 14:=by
   unfold baseT
   rw[List.getElem_append_right (by simp;omega)]
   simp
  rw[this] at he
  exact .inr ⟨rfl,he.symm⟩
theorem ZKE (many:Int) (ls:List ByteArray) {th:List (List (El Za))} :insC (symsB,th) (setL (bare 14) ls)=0:=by
 unfold insC
 rw[ZDL,ZMH (.inr (.inr rfl))]
 rfl
theorem ZMF {x:List (El Za)} {k:Nat} {i:El Za} {l:ByteArray} (h:x[k]? =some i) (hl:l∈i.2.2.2.2.2.2):(labels x).contains l=true:=by
 rw[List.contains_iff_mem]
 unfold labels
 exact List.mem_flatMap.2 ⟨i,List.mem_of_getElem? h,hl⟩
theorem ZIm {a:List (El Zr)} {n:Nat} (hn:n≤90) (ha:n≤a.length) {th:List (List (El Za))} :threadC (symsB,th) (threadB a n)=0:=by
 have hlen:(threadB a n).length=n+1:=by unfold threadB;rw[Zb2,ZoA a n ha]
 unfold threadC
 have hc:=ZOc (threadB a n)
 rw[if_neg (by omega),ZJJ (threadB a n) 0 [] (fun j i h=>by
  rw[Nat.zero_add]
  rcases Zl2 hn ha h with ⟨_,x,_,hx,rfl⟩ | ⟨_,rfl⟩
  ·refine ⟨?_,ZNS hx _⟩
   show (if _ then [Zn (j:Int)] else [])=[]∨(if _ then [Zn (j:Int)] else [])=[Zn (j:Int)]
   split
   ·exact .inr rfl
   ·exact .inl rfl
  ·refine ⟨?_,ZKE 0 _⟩
   show (if _ then [Zn (j:Int)] else [])=[]∨(if _ then [Zn (j:Int)] else [])=[Zn (j:Int)]
   split
   ·exact .inr rfl
   ·exact .inl rfl) (fun l hl=>by cases hl) (by omega)]
 rw[List.nil_append,ZLH (by omega)]
 have hlast:(threadB a n)[(threadB a n).length - 1]? =some ((threadB a n)[(threadB a n).length - 1]'(by omega)):=List.getElem?_eq_getElem (by omega)
 have h14:(((threadB a n)[(threadB a n).length - 1]'(by omega)).1==(10:Int) || ((threadB a n)[(threadB a n).length - 1]'(by omega)).1==(14:Int))=true:=by
  rcases Zl2 hn ha hlast with ⟨h1,_⟩ | ⟨_,h2⟩
  ·omega
  ·rw[h2];rfl
 rw[if_pos h14]
 refine ZHI fun i hi hj=>?_
 obtain ⟨k,hk⟩:=List.getElem?_of_mem hi
 rcases Zl2 hn ha hk with ⟨hkn,x,hx,hb,rfl⟩ | ⟨_,rfl⟩
 ·rw[ZQl]
  rcases hb.to with ⟨h1,h2,_⟩ | ⟨_,m,m0,m1,e⟩
  ·exfalso
   have hj:((x.1==(10:Int)) || (x.1==(11:Int)))=true:=hj
   simp only[Bool.or_eq_true,beq_iff_eq] at hj
   rcases hj with hj | hj
   ·exact h1 hj
   ·exact h2 hj
  ·rw[e]
   obtain ⟨q,rfl⟩:∃q:Nat,m=(q:Int):=⟨m.toNat,by omega⟩
   have hqn:q < n+1:=by omega
   have hq:(threadB a n)[q]? =some ((threadB a n)[q]'(by omega)):=List.getElem?_eq_getElem (by omega)
   have hs:sAt (baseT a n) n q=true:=by
    unfold sAt
    rw[List.any_eq_true]
    exact ⟨x,List.mem_of_getElem? (i:=k) (by rw[List.getElem?_take,if_pos hkn];exact hx),decide_eq_true e⟩
   refine ZMF hq ?_
   rcases Zl2 hn ha hq with ⟨_,y,_,_,h2⟩ | ⟨_,h2⟩
   ·rw[h2,hs];exact List.mem_singleton.2 rfl
   ·rw[h2,hs];exact List.mem_singleton.2 rfl
 ·cases hj
theorem ZMP {a:List (El Zr)} {n:Nat} (hn:n≤90) (ha:n≤a.length):smallThread (threadB a n)=true:=by
 have hlen:(threadB a n).length=n+1:=by unfold threadB;rw[Zb2,ZoA a n ha]
 have hlab:∀i∈threadB a n,smallText i.2.2.2.2.2.1=true∧i.2.2.2.2.2.2.length≤1∧∀l∈i.2.2.2.2.2.2,smallText l=true:=fun i hi=>by
  obtain ⟨k,hk⟩:=List.getElem?_of_mem hi
  have hkl:=(List.getElem?_eq_some_iff.1 hk).1
  have hls:∀b:Bool,(if b=true then [Zn (k:Int)] else []).length≤1∧∀l∈(if b=true then [Zn (k:Int)] else []),smallText l=true:=fun b=>by
   cases b with
   | false=>exact ⟨by simp,fun l hl=>by simp at hl⟩
   | true=>exact ⟨by simp,fun l hl=>by
     rw[if_pos rfl,List.mem_singleton] at hl
     rw[hl];exact (ZpQ (by omega) (by omega)).2⟩
  rcases Zl2 hn ha hk with ⟨hkn,x,hx,hb,rfl⟩ | ⟨_,rfl⟩
  ·exact ⟨hb.small (by omega),hls _⟩
  ·exact ⟨(by decide:smallText (bs [])=true),hls _⟩
 have:=ZOD (t:=threadB a n) (n:=1) fun i hi=>(hlab i hi).2.1
 unfold smallThread
 simp only[Bool.and_eq_true,decide_eq_true_eq,List.all_eq_true]
 exact ⟨by omega,by omega,fun i hi=>⟨(hlab i hi).1,(hlab i hi).2.2⟩⟩
theorem ZNv (K:Int):symsC K [] symsB=K:=by kernel_rfl
theorem ZJ3 {p:El Zc} :∀ {th:List (List (El Za))},(∀t∈th,threadC p t=0)→thsC p th=0
 | [],_=>rfl
 | t :: r,h=>by
  unfold thsC
  rw[h t (List.mem_cons_self ..)]
  simp only[ne_eq,not_true_eq_false,if_false]
  exact ZJ3 fun x hx=>h x (List.mem_cons_of_mem _ hx)
theorem ZNt (l:List (List (El Zr))) {threads many:Int} (h0:0≤threads) (h1:threads≤64) (m0:0≤many) (m1:many≤90):checkC (Zm l threads many)=0∧smallProg (Zm l threads many)=true∧ZeP l threads many=true:=by
 refine ⟨?_,?_,?_⟩
 ·unfold checkC Zm
  show (if 64 < symsB.length∨64 < ((l.take threads.toNat).map fun a=>threadB a (min a.length many.toNat)).length then (10:Int) else symsC (thsC _ ((l.take threads.toNat).map fun a=>threadB a (min a.length many.toNat))) [] symsB)=0
  rw[if_neg,ZNv]
  ·exact ZJ3 fun t ht=>by
    obtain ⟨a,_,rfl⟩:=List.mem_map.1 ht
    exact ZIm (by omega) (by omega)
  ·rw[List.length_map,List.length_take]
   have:symsB.length=3:=rfl
   omega
 ·unfold smallProg Zm
  simp only[Bool.and_eq_true,List.all_eq_true]
  refine ⟨?_,fun t ht=>?_⟩
  ·have:symsB.all (fun s=>smallText s.1)=true:=by decide+kernel
   rw[List.all_eq_true] at this
   exact this
  ·obtain ⟨a,_,rfl⟩:=List.mem_map.1 ht
   exact ZMP (by omega) (by omega)
 ·unfold ZeP
  simp only[Bool.and_eq_true,decide_eq_true_eq]
  omega
end Go.Ev
end

section
open Go
namespace Go.Ev
end Go.Ev
end

section
open Go Go.Ev
namespace Go.Ev
noncomputable section
def Zhf:Sig:=[(true,Za)]
noncomputable def ZuG:Tbl:=[(110,Zg3),(83,ZsE)]
theorem ZJj:∀p∈ZuG,EntOK Go.Proofs.Tryz.prog p.1 p.2:=Zg Zhw (Zg Zxl (Zt))
noncomputable def Zp2:Code:=Go.Proofs.Tryz.f79.body.getD .skip
def ZrN:Tb:=[]
def ZA3 (i:El Za):Empty→JT Empty (Bool):=fun j=>nomatch j
def Zy0 (i:El Za):JT Empty (Bool):=.br (ZU i) (.br ((Zz i)==(0:Int)) (.br (i.1==(12:Int)) (.leaf true) (.br (Zay i) (.leaf (Zak i)) (.no))) (.br (Zay i) (.leaf (Zak i)) (.no))) (.no)
def ZgC (i:El Za):Bool:=bif (ZU i) then bif ((Zz i)==(0:Int)) then bif (i.1==(12:Int)) then true else bif (Zay i) then (Zak i) else false else bif (Zay i) then (Zak i) else false else false
def Ze9 (i:El Za):Bool:=bif (ZU i) then bif ((Zz i)==(0:Int)) then bif (i.1==(12:Int)) then true else bif (Zay i) then true else false else bif (Zay i) then true else false else false
theorem ZKQ (i:El Za) (hk:Ze9 i=true):Goes (ZA3 i) (Zy0 i) (ZgC i):=Goes.brk hk (fun hk=>Goes.brk hk (fun hk=>Goes.brk hk (fun hk=>Goes.leaf) (fun hk=>Goes.brk hk (fun hk=>Goes.leaf) (fun hk=>Goes.nok hk))) (fun hk=>Goes.brk hk (fun hk=>Goes.leaf) (fun hk=>Goes.nok hk))) (fun hk=>Goes.nok hk)
def ZpY:Bool→AV:=fun (r:Bool)=>.d .bool r
def Zg1 (i:El Za):Empty→Nat×St:=fun j=>nomatch j
theorem ZKm (i:El Za) (L:Lt):entryA Go.Proofs.Tryz.prog (clOf ZuG) ZrN Go.Proofs.Tryz.f79 Zp2 L (toForms Zhf (i,()))=(Zy0 i).run (fun v=>some (ZpY v,tps (toForms Zhf (i,())))) fun j=>L (Zg1 i j).1 (Zg1 i j).2:=by kernel_rfl
theorem ZJd (i:El Za):∀(L:Lt) (j:Empty),procOf (procsF Go.Proofs.Tryz.prog (clOf ZuG) ZrN Go.Proofs.Tryz.f79 Zp2 (toForms Zhf (i,()))) (Zg1 i j).1 L (Zg1 i j).2=(ZA3 i j).run (fun v=>some (ZpY v,tps (toForms Zhf (i,())))) fun j=>L (Zg1 i j).1 (Zg1 i j).2:=fun L j=>nomatch j
noncomputable def ZBs:Run:=entG Zhf ZpY (fun a=>Ze9 a.1) (fun a=>ZgC a.1)
theorem ZJg:EntOK Go.Proofs.Tryz.prog 79 ZBs:=ZI (tb:=ZrN) (c:=Zp2) ZJj (by kernel_rfl) (by kernel_rfl) (by kernel_rfl) (fun a=>by kernel_rfl) fun ⟨i,_⟩ hk=>Zl (c:=Zp2) (K:=fun v=>(ZpY v,tps (toForms Zhf (i,())))) (S:=Zg1 i) (by kernel_rfl) (ZKm i) (ZJd i) (ZKQ i hk)
end
end Go.Ev
end

section
open Go Go.Ev
namespace Go.Ev
noncomputable section
def Zhc:Sig:=[(true,(.sl Za)),(false,(.sl (.int .i64))),(false,(.int .i64))]
noncomputable def ZvF:Tbl:=[(51,Zk5),(53,ZcW),(78,ZuI),(54,Zgr),(79,ZBs),(80,Ziv)]
theorem ZHs:∀p∈ZvF,EntOK Go.Proofs.Tryz.prog p.1 p.2:=Zg Zlc (Zg Zce (Zg Zyc (Zg Zfe (Zg ZJg (Zg ZjY (Zt))))))
noncomputable def ZqO:Code:=Go.Proofs.Tryz.f47.body.getD .skip
def Zs4:Tb:=[(4,⟨[2,3,7,8,23,24,25],[]⟩),(11,⟨[3,7,8,11],[(1000000000000000000000000000000000000000000000000000000000012,1)]⟩),(17,⟨[3,7,8,11,51,52,53],[(1000000000000000000000000000000000000000000000000000000000012,1)]⟩)]
inductive Zly where | l4 (h:Int) (closed:Int) (closed1:List (Int×Int)) | l11 (closed:Int) (closed1:List (Int×Int)) (len:Nat) (seen:Int) (open_:List Int) (seen1:List (Int×Int)) | l17 (closed:Int) (closed1:List (Int×Int)) (len:Nat) (h:Int) (seen:Int) (open_:List Int) (seen1:List (Int×Int)) (h1:Int) (h2:List Int)
def ZbY (t:List (El Za)) (points:List Int) (s:Int):Zly→JT Zly (List Int) |.l4 h closed closed1=>.br (decide (h < (Int.ofNat (List.length points)))) (.br ((decide ((0:Int)≤h))&&(decide (h < (Int.ofNat (List.length points))))) (.jmp (.l4 (IntKind.i64.wrap (h+(1:Int))) (Zp (closed,closed1) (List.getD points (Int.toNat h) (dflt (.int .i64)))).2.1 (Zp (closed,closed1) (List.getD points (Int.toNat h) (dflt (.int .i64)))).2.2)) (.no)) (.jmp (.l11 closed closed1 1 (Zy (Int.ofNat (List.length t))).1 [s] (Zy (Int.ofNat (List.length t))).2)) |.l11 closed closed1 len seen open_ seen1=>.br (decide ((Int.ofNat len) > (0:Int))) (.br ((decide ((0:Int)≤(IntKind.i64.wrap ((Int.ofNat len) - (1:Int)))))&&(decide ((IntKind.i64.wrap ((Int.ofNat len) - (1:Int))) < (Int.ofNat len)))) (.br ((decide ((0:Int)≤(IntKind.i64.wrap ((Int.ofNat len) - (1:Int)))))&&(decide ((IntKind.i64.wrap ((Int.ofNat len) - (1:Int)))≤(Int.ofNat len)))) (.br (Zfl t (List.getD open_ (Int.toNat (IntKind.i64.wrap ((Int.ofNat len) - (1:Int)))) (dflt (.int .i64)))) (.jmp (.l17 closed closed1 (Int.toNat (IntKind.i64.wrap ((Int.ofNat len) - (1:Int)))) (0:Int) seen open_ seen1 (Int.ofNat (List.length (Zab t (List.getD open_ (Int.toNat (IntKind.i64.wrap ((Int.ofNat len) - (1:Int)))) (dflt (.int .i64)))))) (Zab t (List.getD open_ (Int.toNat (IntKind.i64.wrap ((Int.ofNat len) - (1:Int)))) (dflt (.int .i64)))))) (.no)) (.no)) (.no)) (.br (Zbm (seen,seen1)) (.leaf (ZbP (seen,seen1)).1) (.no)) |.l17 closed closed1 len h seen open_ seen1 h1 h2=>.br (decide (h < h1)) (.br ((decide ((0:Int)≤h))&&(decide (h < (Int.ofNat (List.length h2))))) (.br (! (Zq (closed,closed1) (List.getD h2 (Int.toNat h) (dflt (.int .i64)))).1) (.br (Zp (seen,seen1) (List.getD h2 (Int.toNat h) (dflt (.int .i64)))).1 (.br ((decide ((0:Int)≤(List.getD h2 (Int.toNat h) (dflt (.int .i64)))))&&(decide ((List.getD h2 (Int.toNat h) (dflt (.int .i64))) < (Int.ofNat (List.length t))))) (.br (Ze9 (List.getD t (Int.toNat (List.getD h2 (Int.toNat h) (dflt (.int .i64)))) (dflt Za))) (.br (! (ZgC (List.getD t (Int.toNat (List.getD h2 (Int.toNat h) (dflt (.int .i64)))) (dflt Za)))) (.br (Nat.ble (((List.length (List.take len open_))+1)*8) limit) (.jmp (.l17 (Zq (closed,closed1) (List.getD h2 (Int.toNat h) (dflt (.int .i64)))).2.1 (Zq (closed,closed1) (List.getD h2 (Int.toNat h) (dflt (.int .i64)))).2.2 (List.length ((List.take len open_)++[(List.getD h2 (Int.toNat h) (dflt (.int .i64)))])) (IntKind.i64.wrap (h+(1:Int))) (Zp (seen,seen1) (List.getD h2 (Int.toNat h) (dflt (.int .i64)))).2.1 ((List.take len open_)++[(List.getD h2 (Int.toNat h) (dflt (.int .i64)))]) (Zp (seen,seen1) (List.getD h2 (Int.toNat h) (dflt (.int .i64)))).2.2 h1 h2)) (.no)) (.jmp (.l17 (Zq (closed,closed1) (List.getD h2 (Int.toNat h) (dflt (.int .i64)))).2.1 (Zq (closed,closed1) (List.getD h2 (Int.toNat h) (dflt (.int .i64)))).2.2 len (IntKind.i64.wrap (h+(1:Int))) (Zp (seen,seen1) (List.getD h2 (Int.toNat h) (dflt (.int .i64)))).2.1 open_ (Zp (seen,seen1) (List.getD h2 (Int.toNat h) (dflt (.int .i64)))).2.2 h1 h2))) (.no)) (.no)) (.jmp (.l17 (Zq (closed,closed1) (List.getD h2 (Int.toNat h) (dflt (.int .i64)))).2.1 (Zq (closed,closed1) (List.getD h2 (Int.toNat h) (dflt (.int .i64)))).2.2 len (IntKind.i64.wrap (h+(1:Int))) (Zp (seen,seen1) (List.getD h2 (Int.toNat h) (dflt (.int .i64)))).2.1 open_ (Zp (seen,seen1) (List.getD h2 (Int.toNat h) (dflt (.int .i64)))).2.2 h1 h2))) (.jmp (.l17 (Zq (closed,closed1) (List.getD h2 (Int.toNat h) (dflt (.int .i64)))).2.1 (Zq (closed,closed1) (List.getD h2 (Int.toNat h) (dflt (.int .i64)))).2.2 len (IntKind.i64.wrap (h+(1:Int))) seen open_ seen1 h1 h2))) (.no)) (.jmp (.l11 closed closed1 len seen open_ seen1))
def Zsi (t:List (El Za)) (points:List Int) (s:Int):JT Zly (List Int):=.jmp (.l4 (0:Int) (Zy (Int.ofNat (List.length t))).1 (Zy (Int.ofNat (List.length t))).2)
def ZoT:List Int→AV:=fun (r:List Int)=>.rw 3 (.int .i64) r
def ZgU (t:List (El Za)) (points:List Int) (s:Int):Zly→Nat×St |.l4 h closed closed1=>(4,⟨mkTm 82 [(2,.d (.int .i64) s),(3,.pt 4 0 0),(7,.pt 8 0 0),(8,.pt 9 0 0),(23,.d (.sl (.int .i64)) points),(24,.d (.int .i64) (Int.ofNat (List.length points))),(25,.d (.int .i64) h)],[(4,0,.box 33 [.d (.sl Za) t] none),(8,0,.box 117 [.d (.int .i64) closed,.mp 8194 0] none),(9,0,.box 117 [.d (.int .i64) (Zy (Int.ofNat (List.length t))).1,.mp 9218 0] none),(8194,0,.map (.int .i64) (.int .u64) closed1),(9218,0,.map (.int .i64) (.int .u64) (Zy (Int.ofNat (List.length t))).2)]⟩) |.l11 closed closed1 len seen open_ seen1=>(11,⟨mkTm 82 [(3,.pt 4 0 0),(7,.pt 8 0 0),(8,.pt 9 0 0),(11,.own 12 0 (some len))],[(4,0,.box 33 [.d (.sl Za) t] none),(8,0,.box 117 [.d (.int .i64) closed,.mp 8194 0] none),(9,0,.box 117 [.d (.int .i64) seen,.mp 9218 0] none),(12,0,.row 3 (.int .i64) open_ false),(8194,0,.map (.int .i64) (.int .u64) closed1),(9218,0,.map (.int .i64) (.int .u64) seen1)]⟩) |.l17 closed closed1 len h seen open_ seen1 h1 h2=>(17,⟨mkTm 82 [(3,.pt 4 0 0),(7,.pt 8 0 0),(8,.pt 9 0 0),(11,.own 12 0 (some len)),(51,.own 52 0 none),(52,.d (.int .i64) h1),(53,.d (.int .i64) h)],[(4,0,.box 33 [.d (.sl Za) t] none),(8,0,.box 117 [.d (.int .i64) closed,.mp 8194 0] none),(9,0,.box 117 [.d (.int .i64) seen,.mp 9218 0] none),(12,0,.row 3 (.int .i64) open_ false),(52,0,.row 3 (.int .i64) h2 false),(8194,0,.map (.int .i64) (.int .u64) closed1),(9218,0,.map (.int .i64) (.int .u64) seen1)]⟩)
theorem ZIC (t:List (El Za)) (points:List Int) (s:Int) (L:Lt):entryA Go.Proofs.Tryz.prog (clOf ZvF) Zs4 Go.Proofs.Tryz.f47 ZqO L (toForms Zhc (t,points,s,()))=(Zsi t points s).run (fun v=>some (ZoT v,tps (toForms Zhc (t,points,s,())))) fun j=>L (ZgU t points s j).1 (ZgU t points s j).2:=by kernel_rfl
theorem ZH6 (t:List (El Za)) (points:List Int) (s:Int):∀(L:Lt) (j:Zly),procOf (procsF Go.Proofs.Tryz.prog (clOf ZvF) Zs4 Go.Proofs.Tryz.f47 ZqO (toForms Zhc (t,points,s,()))) (ZgU t points s j).1 L (ZgU t points s j).2=(ZbY t points s j).run (fun v=>some (ZoT v,tps (toForms Zhc (t,points,s,())))) fun j=>L (ZgU t points s j).1 (ZgU t points s j).2 | L,.l4 h closed closed1=>by kernel_rfl | L,.l11 closed closed1 len seen open_ seen1=>by kernel_rfl | L,.l17 closed closed1 len h seen open_ seen1 h1 h2=>by kernel_rfl
end
end Go.Ev
end

section
open Go
namespace Go.Ev
theorem ZQq {i:El Za} (h:smallText i.2.2.2.2.2.1=true):Ze9 i=true:=by
 have h0:ZU i=true:=h
 have a:Zay i=true:=by unfold Zay;simp only[h0,cond_true,Bool.cond_self]
 unfold Ze9
 simp only[h0,a,cond_true,Bool.cond_self]
end Go.Ev
end

section
open Go
namespace Go.Ev
def fenceAtT (t:List (El Za)) (k:Nat):Bool:=ZgC (t.getD k (dflt Za))
def stepB (t:List (El Za)) (points:List Int) (k j:Nat):Bool:=!fenceAtT t k&&(nextB t (k:Int) j&& !points.contains (j:Int))
def firstB (t:List (El Za)) (points:List Int) (s:Int) (j:Nat):Bool:=nextB t s j&& !points.contains (j:Int)
noncomputable def endsB (t:List (El Za)) (points:List Int) (s:Int) (j:Nat):Bool:=comeB (stepB t points) (firstB t points s) j
theorem ZHb {t:List (El Za)} {points:List Int} {k j:Nat} (h:stepB t points k j=true):j < t.length:=by
 unfold stepB at h
 simp only[Bool.and_eq_true] at h
 exact Zex h.2.1
theorem ZHl {t:List (El Za)} {points:List Int} {s:Int} {j:Nat} (h:firstB t points s j=true):j < t.length:=by
 unfold firstB at h
 simp only[Bool.and_eq_true] at h
 exact Zex h.1
end Go.Ev
end

section
open Go
namespace Go.Ev
noncomputable def ZP (t:List (El Za)) (points:List Int) (s:Int):List Int:=listOf t.length (endsB t points s)
def Zb0 (t:List (El Za)) (points:List Int) (s:Int):Bool:=flowOK t&&decide (points.length < 4611686018427387904)
def goB (t:List (El Za)) (points:List Int) (x:Int) (j:Nat):Bool:=nextB t x j&& !points.contains (j:Int)
def nodeP (t:List (El Za)) (s:Int) (M:Nat→Bool) (x:Int):Prop:=x=s∨∃j:Nat,x=(j:Int)∧M j=true∧fenceAtT t j=false
theorem ZNq {l:List Int} {n:Nat} (h:n+1≤l.length):l.take (n+1)=l.take n++[l.getD n 0]:=by
 have hn:n < l.length:=by omega
 rw[List.take_succ_eq_append_getElem hn,ZH hn]
theorem ZLT (t:List (El Za)) (points:List Int) (s:Int) (hk:Zb0 t points s=true):Goes (ZbY t points s) (Zsi t points s) (ZP t points s):=by
 unfold Zb0 at hk
 rw[Bool.and_eq_true] at hk
 obtain ⟨hf,hpl⟩:=hk
 have hpl:=of_decide_eq_true hpl
 have hlen:=ZbC hf
 generalize hn:t.length=n at hlen
 have kfe:∀k,k < n→Ze9 (List.getD t k (dflt Za))=true:=fun k hk=>by
  have hmem:t.getD k (dflt Za)∈t:=by rw[ZH (by omega)];exact List.getElem_mem (by omega)
  exact ZQq (Zpn hf hmem)
 have main:∀(C:Nat→Bool) (cl:Int×List (Int×Int)),SetOK cl n C→(∀j,j < n→C j=points.contains (j:Int))→∀m,∀(M:Nat→Bool) (se:Int×List (Int×Int)) (open_:List Int) (len:Nat),len≤open_.length→2*(n - card n M)+len=m→SetOK se n M→
   (∀j,M j=true→Come (stepB t points) (firstB t points s) j)→(∀x∈open_.take len,nodeP t s M x)→(∀x,nodeP t s M x→x∈open_.take len∨∀j,goB t points x j=true→M j=true)→len≤card n M+1→
   Goes (ZbY t points s) (.jmp (.l11 cl.1 cl.2 len se.1 open_ se.2)) (ZP t points s):=by
  intro C cl hcl hC m
  induction m using Nat.strongRecOn with
  | _ m ih=>
  intro M se open_ len hl hm hs h1 h2 h3 h5
  cases len with
  | zero=>
   rw[Zi,ZbY,Ze,if_neg (by decide)]
   have hkl:Zbm (se.1,se.2)=true:=Nat.ble_eq_true_of_le (by have:=hs.few;unfold limit;show se.2.length*512≤_;omega)
   rw[Ze,if_pos hkl]
   have hv:(ZbP (se.1,se.2)).1=ZP t points s:=by
    show listS se=_
    rw[hs.list (by omega)]
    unfold ZP endsB
    rw[hn]
    refine ZsN fun j _=>ZqU (fun j hj=>?_) (fun k j hk hj=>?_) h1 j
    ·rcases h3 s (.inl rfl) with h | h
     ·simp at h
     ·exact h j hj
    ·unfold stepB at hj
     rw[Bool.and_eq_true] at hj
     rcases h3 (k:Int) (.inr ⟨k,rfl,hk,by simpa using hj.1⟩) with h | h
     ·simp at h
     ·exact h j hj.2
   rw[hv];exact .leaf
  | succ len=>
   have hc:= @ZeU n M
   have e:IntKind.i64.wrap (Int.ofNat (len+1) - 1)=(len:Int):=by
    rw[wrap_i64 (by simp <;> omega) (by simp <;> omega)];simp
   have g1:decide (Int.ofNat (len+1) > (0:Int))=true:=decide_eq_true (by simp <;> omega)
   have g2:(decide ((0:Int)≤(len:Int))&&decide ((len:Int) < Int.ofNat (len+1)))=true:=Zas (by omega)
   have g3:(decide ((0:Int)≤(len:Int))&&decide ((len:Int)≤Int.ofNat (len+1)))=true:=by simp;omega
   rw[Zi,ZbY,e,Ze,if_pos g1,Ze,if_pos g2,Ze,if_pos g3,Int.toNat_natCast]
   have htk:=ZNq hl
   generalize hx0:open_.getD len 0=x0 at htk
   have hd:open_.getD len (dflt (.int .i64))=x0:=hx0
   rw[hd]
   have kn:Zfl t x0=true:=hf
   rw[Ze,if_pos kn]
   have hnode:=h2 x0 (by rw[htk];simp)
   generalize hr:Zab t x0=r
   have hrm:∀y∈r,∃j:Nat,j < n∧nextB t x0 j=true∧y=(j:Int):=fun y hy=>by
    rw[←hr] at hy
    unfold Zab at hy
    rw[hn] at hy
    exact Zcv.1 hy
   have hrl:r.length≤n:=by rw[←hr];unfold Zab;rw[Zif,hn];exact ZeU
   have hin:∀j:Nat,nextB t x0 j=true→(j:Int)∈r:=fun j hj=>by rw[←hr];exact Zcv.2 ⟨j,Zex hj,hj,rfl⟩
   have inner:∀h,h≤r.length→∀(M1:Nat→Bool) (se1:Int×List (Int×Int)) (op1:List Int) (len1:Nat),len1≤op1.length→2*(n - card n M1)+len1 < m→SetOK se1 n M1→nodeP t s M1 x0→
     (∀j,M1 j=true→Come (stepB t points) (firstB t points s) j)→(∀x∈op1.take len1,nodeP t s M1 x)→(∀x,nodeP t s M1 x→x∈op1.take len1∨∀j,goB t points x j=true→M1 j=true∨(x=x0∧(j:Int)∈r.drop h))→len1≤card n M1+1→
     Goes (ZbY t points s) (.jmp (.l17 cl.1 cl.2 len1 (h:Int) se1.1 op1 se1.2 (Int.ofNat r.length) r)) (ZP t points s):=by
    refine down ?_ fun h hh ih2=>?_
    ·intro M1 se1 op1 len1 i1 i2 i3 i4 i5 i6 i7 i8
     rw[Zi,ZbY,Ze,if_neg (by rw[Zv (Nat.lt_irrefl _)];decide)]
     refine ih _ i2 M1 se1 op1 len1 i1 rfl i3 i5 i6 (fun x hx=>(i7 x hx).imp id fun h j hj=>(h j hj).resolve_right (by simp)) i8
    ·intro M1 se1 op1 len1 i1 i2 i3 i4 i5 i6 i7 i8
     obtain ⟨y,hy,hyN,hxy⟩:=hrm r[h] (List.getElem_mem hh)
     have hdy:List.getD r h (dflt (.int .i64))=(y:Int):=by rw[←hxy];exact ZH hh
     have hhas:(Zq (cl.1,cl.2) (y:Int)).1=points.contains (y:Int):=by
      show hasS cl (y:Int)=_
      rw[hcl.has (by omega),Int.toNat_natCast,decide_eq_true (by omega),Bool.true_and,hC y hy]
     have hhas2:(Zq (cl.1,cl.2) (y:Int)).2=cl:=rfl
     have hput:Zp (se1.1,se1.2) (y:Int)=putS se1 (y:Int):=rfl
     have hdr:∀z,z∈r.drop h↔z=(y:Int)∨z∈r.drop (h+1):=fun z=>by rw[ZN hh,List.mem_cons,hxy]
     rw[Zi,ZbY,Ze,if_pos (ZO hh),Ze,if_pos (Zas hh),Ze,Int.toNat_natCast,hdy,hhas,hhas2,hput,Zo (by omega)]
     have skip:(goB t points x0 y=true→M1 y=true)→Goes (ZbY t points s) (.jmp (.l17 cl.1 cl.2 len1 ((h+1:Nat):Int) se1.1 op1 se1.2 (Int.ofNat r.length) r)) (ZP t points s):=fun hsk=>
      ih2 M1 se1 op1 len1 i1 i2 i3 i4 i5 i6 (fun x hx=>(i7 x hx).imp id fun hg j hj=>by
       rcases hg j hj with h | ⟨hx0,h⟩
       ·exact .inl h
       ·rcases (hdr _).1 h with h | h
        ·have:j=y:=by omega
         subst this
         rw[hx0] at hj
         exact .inl (hsk hj)
        ·exact .inr ⟨hx0,h⟩) i8
     cases hpt:points.contains (y:Int) with
     | true=>
      rw[if_neg (by decide)]
      exact skip fun h=>by unfold goB at h;rw[hpt,Bool.not_true,Bool.and_false] at h;cases h
     | false=>
      rw[if_pos (by decide),Ze]
      cases hMy:M1 y with
      | true=>
       have hno:=i3.put_no (by omega) (i:=(y:Int)) (fun h=>by rw[Int.toNat_natCast,hMy] at h;cases h.2.2)
       rw[hno,if_neg (by simp)]
       exact skip fun _=>hMy
      | false=>
       obtain ⟨p1,p2⟩:=i3.put (by omega) hy hMy
       have hgo:goB t points x0 y=true:=by unfold goB;rw[hyN,hpt];rfl
       have hcome:Come (stepB t points) (firstB t points s) y:=by
        rcases i4 with h | ⟨k,hk,hMk,hfk⟩
        ·subst h;exact .start hgo
        ·subst hk;exact .step (i5 k hMk) (by unfold stepB;rw[hfk];exact hgo)
       have hcard:=Zm4 hMy hy
       have hcl2:= @ZeU n (fun k=>M1 k || (k==y))
       have mono:∀x,nodeP t s M1 x→nodeP t s (fun k=>M1 k || (k==y)) x:=fun x hx=>hx.imp id fun ⟨k,h1,h2,h3⟩=>⟨k,h1,by show (M1 k || (k==y))=true;rw[h2];rfl,h3⟩
       have hcc:∀k,(M1 k || (k==y))=true→Come (stepB t points) (firstB t points s) k:=fun k hk=>by
        simp only[Bool.or_eq_true,beq_iff_eq] at hk
        rcases hk with hk | hk
        ·exact i5 k hk
        ·subst hk;exact hcome
       have keep:∀(o:List Int),(∀x∈op1.take len1,x∈o)→(fenceAtT t y=false→(y:Int)∈o)→∀x,nodeP t s (fun k=>M1 k || (k==y)) x→x∈o∨∀j,goB t points x j=true→(M1 j || (j==y))=true∨(x=x0∧(j:Int)∈r.drop (h+1)):=fun o ho hyo x hx=>by
        have old:nodeP t s M1 x→x∈o∨∀j,goB t points x j=true→(M1 j || (j==y))=true∨(x=x0∧(j:Int)∈r.drop (h+1)):=fun hx=>by
         rcases i7 x hx with h | h
         ·exact .inl (ho x h)
         ·refine .inr fun j hj=>?_
          rcases h j hj with h | ⟨hx0,h⟩
          ·exact .inl (by rw[h];rfl)
          ·rcases (hdr _).1 h with h | h
           ·have:j=y:=by omega
            subst this;exact .inl (by simp)
           ·exact .inr ⟨hx0,h⟩
        rcases hx with hx | ⟨k,hk,hMk,hfk⟩
        ·exact old (.inl hx)
        ·have hMk:(M1 k || (k==y))=true:=hMk
         simp only[Bool.or_eq_true,beq_iff_eq] at hMk
         rcases hMk with hMk | hMk
         ·exact old (.inr ⟨k,hk,hMk,hfk⟩)
         ·subst hMk;subst hk;exact .inl (hyo hfk)
       have vf:ZgC (List.getD t y (dflt Za))=fenceAtT t y:=rfl
       rw[p1,if_pos rfl,Ze,hn,if_pos (Zas hy),Ze,Int.toNat_natCast,if_pos (kfe y hy),Ze,vf]
       cases hfy:fenceAtT t y with
       | true=>
        rw[if_neg (by decide)]
        exact ih2 _ _ op1 len1 i1 (by omega) p2 (mono x0 i4) hcc (fun x hx=>mono x (i6 x hx)) (keep _ (fun x hx=>hx) (fun h=>by rw[hfy] at h;cases h)) (by omega)
       | false=>
        have htl:(op1.take len1).length=len1:=by rw[List.length_take];omega
        rw[if_pos (by decide),Ze,if_pos (Nat.ble_eq_true_of_le (by rw[htl];unfold limit;omega))]
        have htake:(op1.take len1++[(y:Int)]).take (op1.take len1++[(y:Int)]).length=op1.take len1++[(y:Int)]:=List.take_length
        have hl2:(op1.take len1++[(y:Int)]).length=len1+1:=by rw[List.length_append,htl];rfl
        refine ih2 _ _ (op1.take len1++[(y:Int)]) _ (Nat.le_refl _) (by omega) p2 (mono x0 i4) hcc (fun x hx=>?_) ?_ (by omega)
        ·rw[htake,List.mem_append] at hx
         rcases hx with hx | hx
         ·exact mono x (i6 x hx)
         ·simp only[List.mem_singleton] at hx
          exact .inr ⟨y,hx,by simp,hfy⟩
        ·rw[htake]
         exact keep _ (fun x hx=>List.mem_append_left _ hx) (fun _=>List.mem_append_right _ (by simp))
   refine inner 0 (Nat.zero_le _) M se open_ len (by omega) (by omega) hs hnode h1 (fun x hx=>h2 x (by rw[htk];simp[hx])) (fun x hx=>?_) (by omega)
   rcases h3 x hx with h | h
   ·rw[htk,List.mem_append] at h
    rcases h with h | h
    ·exact .inl h
    ·simp only[List.mem_singleton] at h
     refine .inr fun j hj=>.inr ⟨h,?_⟩
     subst h
     unfold goB at hj
     rw[Bool.and_eq_true] at hj
     rw[List.drop_zero]
     exact hin j hj.1
   ·exact .inr fun j hj=>.inl (h j hj)
 have hnew:Zy (Int.ofNat (List.length t))=((n:Int),[]):=by
  rw[hn]
  unfold Zy
  simp
  omega
 have first:∀h,h≤points.length→∀(C:Nat→Bool) (cl:Int×List (Int×Int)),SetOK cl n C→(∀j:Nat,j < n→((C j=true∨(j:Int)∈points.drop h)↔(j:Int)∈points))→Goes (ZbY t points s) (.jmp (.l4 (h:Int) cl.1 cl.2)) (ZP t points s):=by
  refine down ?_ fun h hh ih=>?_
  ·intro C cl hcl hC
   rw[Zi,ZbY,Ze,if_neg (by rw[Zv (Nat.lt_irrefl _)];decide),hnew]
   refine main C cl hcl (fun j hj=>?_) _ (fun _=>false) ((n:Int),[]) [s] 1 (by simp) rfl (SetOK.new n) (fun j h=>by cases h) (fun x hx=>.inl (by simpa using hx)) (fun x hx=>.inl ?_) (by omega)
   ·have:=hC j hj
    rw[List.drop_length] at this
    rw[Bool.eq_iff_iff,List.contains_iff_mem,←this]
    simp
   ·rcases hx with hx | ⟨j,_,h,_⟩
    ·simpa using hx
    ·cases h
  ·intro C cl hcl hC
   rw[Zi,ZbY,Ze,if_pos (ZO hh),Ze,if_pos (Zas hh),Int.toNat_natCast,Zo (by omega)]
   have hd:points.getD h (dflt (.int .i64))=points[h]:=ZH hh
   rw[hd]
   have hput:Zp (cl.1,cl.2) points[h]=putS cl points[h]:=rfl
   rw[hput]
   have hdr:∀z,z∈points.drop h↔z=points[h]∨z∈points.drop (h+1):=fun z=>by rw[ZN hh,List.mem_cons]
   generalize points[h]=x at hdr
   by_cases hx:0≤x∧x < n∧C x.toNat=false
   ·obtain ⟨y,rfl⟩:=Int.eq_ofNat_of_zero_le hx.1
    rw[Int.toNat_natCast] at hx
    obtain ⟨_,p2⟩:=hcl.put (by omega) (show y < n by omega) hx.2.2
    refine ih _ _ p2 fun j hj=>?_
    rw[←hC j hj,hdr]
    simp only[Bool.or_eq_true,beq_iff_eq]
    constructor
    ·rintro ((h | h) | h)
     ·exact .inl h
     ·exact .inr (.inl (by omega))
     ·exact .inr (.inr h)
    ·rintro (h | h | h)
     ·exact .inl (.inl h)
     ·exact .inl (.inr (by omega))
     ·exact .inr h
   ·rw[hcl.put_no (by omega) hx]
    refine ih C cl hcl fun j hj=>?_
    rw[←hC j hj,hdr]
    constructor
    ·rintro (h | h)
     ·exact .inl h
     ·exact .inr (.inr h)
    ·rintro (h | h | h)
     ·exact .inl h
     ·left
      cases hCj:C j with
      | true=>rfl
      | false=>exact absurd ⟨by omega,by omega,by rw[←h,Int.toNat_natCast];exact hCj⟩ hx
     ·exact .inr h
 unfold Zsi
 rw[hnew]
 exact first 0 (Nat.zero_le _) (fun _=>false) ((n:Int),[]) (SetOK.new n) fun j _=>by simp
end Go.Ev
end

section
open Go Go.Ev
namespace Go.Ev
noncomputable section
noncomputable def ZuY:Run:=entG Zhc ZoT (fun a=>Zb0 a.1 a.2.1 a.2.2.1) (fun a=>ZP a.1 a.2.1 a.2.2.1)
theorem Zzh:EntOK Go.Proofs.Tryz.prog 47 ZuY:=ZI (tb:=Zs4) (c:=ZqO) ZHs (by kernel_rfl) (by kernel_rfl) (by kernel_rfl) (fun a=>by kernel_rfl) fun ⟨t,points,s,_⟩ hk=>Zl (c:=ZqO) (K:=fun v=>(ZoT v,tps (toForms Zhc (t,points,s,())))) (S:=ZgU t points s) (by kernel_rfl) (ZIC t points s) (ZH6 t points s) (ZLT t points s hk)
end
end Go.Ev
end

section
open Go Go.Ev
namespace Go.Ev
noncomputable section
def Zaz:Sig:=[(false,(.sl (.int .i64))),(false,(.int .i64))]
noncomputable def Zc4:Tbl:=[]
theorem Zmf:∀p∈Zc4,EntOK Go.Proofs.Tryz.prog p.1 p.2:=Zt
noncomputable def ZbF:Code:=Go.Proofs.Tryz.f121.body.getD .skip
def Zco:Tb:=[(3,⟨[0,1,7,8],[]⟩)]
inductive Za0 where | l3 (h:Int)
def Za6 (s:List Int) (v_:Int):Za0→JT Za0 (Int) |.l3 h=>.br (decide (h < (Int.ofNat (List.length s)))) (.br ((decide ((0:Int)≤h))&&(decide (h < (Int.ofNat (List.length s))))) (.br (v_==(List.getD s (Int.toNat h) (dflt (.int .i64)))) (.leaf h) (.jmp (.l3 (IntKind.i64.wrap (h+(1:Int)))))) (.no)) (.leaf (-1:Int))
def Zga (s:List Int) (v_:Int):JT Za0 (Int):=.jmp (.l3 (0:Int))
def ZbE:Int→AV:=fun (r:Int)=>.d (.int .i64) r
def Zao (s:List Int) (v_:Int):Za0→Nat×St |.l3 h=>(3,⟨mkTm 19 [(0,.d (.sl (.int .i64)) s),(1,.d (.int .i64) v_),(7,.d (.int .i64) (Int.ofNat (List.length s))),(8,.d (.int .i64) h)],[]⟩)
theorem Zmh (s:List Int) (v_:Int) (L:Lt):entryA Go.Proofs.Tryz.prog (clOf Zc4) Zco Go.Proofs.Tryz.f121 ZbF L (toForms Zaz (s,v_,()))=(Zga s v_).run (fun v=>some (ZbE v,tps (toForms Zaz (s,v_,())))) fun j=>L (Zao s v_ j).1 (Zao s v_ j).2:=by kernel_rfl
theorem Zmg (s:List Int) (v_:Int):∀(L:Lt) (j:Za0),procOf (procsF Go.Proofs.Tryz.prog (clOf Zc4) Zco Go.Proofs.Tryz.f121 ZbF (toForms Zaz (s,v_,()))) (Zao s v_ j).1 L (Zao s v_ j).2=(Za6 s v_ j).run (fun v=>some (ZbE v,tps (toForms Zaz (s,v_,())))) fun j=>L (Zao s v_ j).1 (Zao s v_ j).2 | L,.l3 h=>by kernel_rfl
end
end Go.Ev
end

section
open Go
namespace Go.Ev
def indexI (v:Int):List Int→Nat→Int
 | [],_=> -1
 | x :: r,k=>if v=x then (k:Int) else indexI v r (k+1)
theorem ZIe {v:Int} :∀ {l:List Int} {k:Nat},decide (indexI v l k≥0)=l.contains v
 | [],k=>rfl
 | x :: r,k=>by
  unfold indexI
  rw[List.contains_cons]
  by_cases h:v=x
  ·subst h;rw[if_pos rfl];simp
  ·rw[if_neg h,ZIe]
   have:(v==x)=false:=by simpa using h
   rw[this,Bool.false_or]
def Za4 (s:List Int) (v:Int):Int:=indexI v s 0
def ZaD (s:List Int) (v:Int):Bool:=decide (s.length < 4611686018427387904)
theorem Zoc (s:List Int) (v:Int) (hk:ZaD s v=true):Goes (Za6 s v) (Zga s v) (Za4 s v):=by
 have hn:s.length < 4611686018427387904:=of_decide_eq_true hk
 have loop:∀k,k≤s.length→Goes (Za6 s v) (.jmp (.l3 (k:Int))) (indexI v (s.drop k) k):=by
  refine down ?_ fun k hk ih=>?_
  ·rw[Zi,Za6,Ze,if_neg (by rw[Zv (Nat.lt_irrefl _)];decide),List.drop_length]
   exact .leaf
  ·have hd:s.getD k (dflt (.int .i64))=s[k]:=ZH hk
   rw[Zi,Za6,Ze,if_pos (ZO hk),Ze,if_pos (Zas hk),Ze,Int.toNat_natCast,hd,ZN hk,indexI,Zo (by omega)]
   by_cases h:v=s[k]
   ·rw[if_pos h,if_pos (by simpa using h)];exact .leaf
   ·rw[if_neg h,if_neg (by simpa using h)];exact ih
 exact loop 0 (Nat.zero_le _)
end Go.Ev
end

section
open Go Go.Ev
namespace Go.Ev
noncomputable section
noncomputable def Zgp:Run:=entG Zaz ZbE (fun a=>ZaD a.1 a.2.1) (fun a=>Za4 a.1 a.2.1)
theorem Zmk:EntOK Go.Proofs.Tryz.prog 121 Zgp:=ZI (tb:=Zco) (c:=ZbF) Zmf (by kernel_rfl) (by kernel_rfl) (by kernel_rfl) (fun a=>by kernel_rfl) fun ⟨s,v_,_⟩ hk=>Zl (c:=ZbF) (K:=fun v=>(ZbE v,tps (toForms Zaz (s,v_,())))) (S:=Zao s v_) (by kernel_rfl) (Zmh s v_) (Zmg s v_) (Zoc s v_ hk)
end
end Go.Ev
end

section
open Go Go.Ev
namespace Go.Ev
noncomputable section
def Zah:Sig:=[(false,(.sl (.int .i64))),(false,(.int .i64))]
noncomputable def Zb3:Tbl:=[(121,Zgp)]
theorem ZjX:∀p∈Zb3,EntOK Go.Proofs.Tryz.prog p.1 p.2:=Zg Zmk (Zt)
noncomputable def Zbf:Code:=Go.Proofs.Tryz.f102.body.getD .skip
def ZbZ:Tb:=[]
def Zew (s:List Int) (v_:Int):Empty→JT Empty (Bool):=fun j=>nomatch j
def ZdX (s:List Int) (v_:Int):JT Empty (Bool):=.br (ZaD s v_) (.leaf (decide ((Za4 s v_)≥(0:Int)))) (.no)
def ZaK (s:List Int) (v_:Int):Bool:=bif (ZaD s v_) then (decide ((Za4 s v_)≥(0:Int))) else false
def Zaa (s:List Int) (v_:Int):Bool:=bif (ZaD s v_) then true else false
theorem Zkj (s:List Int) (v_:Int) (hk:Zaa s v_=true):Goes (Zew s v_) (ZdX s v_) (ZaK s v_):=Goes.brk hk (fun hk=>Goes.leaf) (fun hk=>Goes.nok hk)
def Zbe:Bool→AV:=fun (r:Bool)=>.d .bool r
def Z9 (s:List Int) (v_:Int):Empty→Nat×St:=fun j=>nomatch j
theorem Zj3 (s:List Int) (v_:Int) (L:Lt):entryA Go.Proofs.Tryz.prog (clOf Zb3) ZbZ Go.Proofs.Tryz.f102 Zbf L (toForms Zah (s,v_,()))=(ZdX s v_).run (fun v=>some (Zbe v,tps (toForms Zah (s,v_,())))) fun j=>L (Z9 s v_ j).1 (Z9 s v_ j).2:=by kernel_rfl
theorem ZjW (s:List Int) (v_:Int):∀(L:Lt) (j:Empty),procOf (procsF Go.Proofs.Tryz.prog (clOf Zb3) ZbZ Go.Proofs.Tryz.f102 Zbf (toForms Zah (s,v_,()))) (Z9 s v_ j).1 L (Z9 s v_ j).2=(Zew s v_ j).run (fun v=>some (Zbe v,tps (toForms Zah (s,v_,())))) fun j=>L (Z9 s v_ j).1 (Z9 s v_ j).2:=fun L j=>nomatch j
noncomputable def Zev:Run:=entG Zah Zbe (fun a=>Zaa a.1 a.2.1) (fun a=>ZaK a.1 a.2.1)
theorem Zj7:EntOK Go.Proofs.Tryz.prog 102 Zev:=ZI (tb:=ZbZ) (c:=Zbf) ZjX (by kernel_rfl) (by kernel_rfl) (by kernel_rfl) (fun a=>by kernel_rfl) fun ⟨s,v_,_⟩ hk=>Zl (c:=Zbf) (K:=fun v=>(Zbe v,tps (toForms Zah (s,v_,())))) (S:=Z9 s v_) (by kernel_rfl) (Zj3 s v_) (ZjW s v_) (Zkj s v_ hk)
end
end Go.Ev
end

section
open Go Go.Ev
namespace Go.Ev
noncomputable section
def Zhk:Sig:=[(true,(.sl Za)),(false,(.sl (.int .i64))),(false,(.int .i64)),(false,(.int .i64))]
noncomputable def ZvA:Tbl:=[(47,ZuY),(102,Zev)]
theorem ZJ0:∀p∈ZvA,EntOK Go.Proofs.Tryz.prog p.1 p.2:=Zg Zzh (Zg Zj7 (Zt))
noncomputable def Zqt:Code:=Go.Proofs.Tryz.f73.body.getD .skip
def ZsH:Tb:=[]
def ZBB (t:List (El Za)) (points:List Int) (s:Int) (l:Int):Empty→JT Empty (Bool):=fun j=>nomatch j
def Zy9 (t:List (El Za)) (points:List Int) (s:Int) (l:Int):JT Empty (Bool):=.br (Zb0 t points s) (.br (Zaa (ZP t points s) l) (.leaf (ZaK (ZP t points s) l)) (.no)) (.no)
def ZdG (t:List (El Za)) (points:List Int) (s:Int) (l:Int):Bool:=bif (Zb0 t points s) then bif (Zaa (ZP t points s) l) then (ZaK (ZP t points s) l) else false else false
def ZgM (t:List (El Za)) (points:List Int) (s:Int) (l:Int):Bool:=bif (Zb0 t points s) then bif (Zaa (ZP t points s) l) then true else false else false
theorem ZLM (t:List (El Za)) (points:List Int) (s:Int) (l:Int) (hk:ZgM t points s l=true):Goes (ZBB t points s l) (Zy9 t points s l) (ZdG t points s l):=Goes.brk hk (fun hk=>Goes.brk hk (fun hk=>Goes.leaf) (fun hk=>Goes.nok hk)) (fun hk=>Goes.nok hk)
def Zq8:Bool→AV:=fun (r:Bool)=>.d .bool r
def ZgL (t:List (El Za)) (points:List Int) (s:Int) (l:Int):Empty→Nat×St:=fun j=>nomatch j
theorem ZHm (t:List (El Za)) (points:List Int) (s:Int) (l:Int) (L:Lt):entryA Go.Proofs.Tryz.prog (clOf ZvA) ZsH Go.Proofs.Tryz.f73 Zqt L (toForms Zhk (t,points,s,l,()))=(Zy9 t points s l).run (fun v=>some (Zq8 v,tps (toForms Zhk (t,points,s,l,())))) fun j=>L (ZgL t points s l j).1 (ZgL t points s l j).2:=by kernel_rfl
theorem ZH0 (t:List (El Za)) (points:List Int) (s:Int) (l:Int):∀(L:Lt) (j:Empty),procOf (procsF Go.Proofs.Tryz.prog (clOf ZvA) ZsH Go.Proofs.Tryz.f73 Zqt (toForms Zhk (t,points,s,l,()))) (ZgL t points s l j).1 L (ZgL t points s l j).2=(ZBB t points s l j).run (fun v=>some (Zq8 v,tps (toForms Zhk (t,points,s,l,())))) fun j=>L (ZgL t points s l j).1 (ZgL t points s l j).2:=fun L j=>nomatch j
noncomputable def Zz3:Run:=entG Zhk Zq8 (fun a=>ZgM a.1 a.2.1 a.2.2.1 a.2.2.2.1) (fun a=>ZdG a.1 a.2.1 a.2.2.1 a.2.2.2.1)
theorem ZJO:EntOK Go.Proofs.Tryz.prog 73 Zz3:=ZI (tb:=ZsH) (c:=Zqt) ZJ0 (by kernel_rfl) (by kernel_rfl) (by kernel_rfl) (fun a=>by kernel_rfl) fun ⟨t,points,s,l,_⟩ hk=>Zl (c:=Zqt) (K:=fun v=>(Zq8 v,tps (toForms Zhk (t,points,s,l,())))) (S:=ZgL t points s l) (by kernel_rfl) (ZHm t points s l) (ZH0 t points s l) (ZLM t points s l hk)
end
end Go.Ev
end

section
open Go Go.Ev
namespace Go.Ev
noncomputable section
def Zcp:Sig:=[(false,(.sl (.int .i64))),(false,(.sl (.int .i64)))]
noncomputable def ZlR:Tbl:=[]
theorem Zzl:∀p∈ZlR,EntOK Go.Proofs.Tryz.prog p.1 p.2:=Zt
noncomputable def ZhT:Code:=Go.Proofs.Tryz.f10.body.getD .skip
def Zka:Tb:=[(6,⟨[0,1,5],[]⟩)]
inductive Zfq where | l6 (i:Int)
def Zfo (a:List Int) (b:List Int):Zfq→JT Zfq (Bool) |.l6 i=>.br (decide (i < (Int.ofNat (List.length a)))) (.br ((decide ((0:Int)≤i))&&(decide (i < (Int.ofNat (List.length a))))) (.br ((decide ((0:Int)≤i))&&(decide (i < (Int.ofNat (List.length b))))) (.br ((List.getD a (Int.toNat i) (dflt (.int .i64))) !=(List.getD b (Int.toNat i) (dflt (.int .i64)))) (.leaf false) (.jmp (.l6 (IntKind.i64.wrap (i+(1:Int)))))) (.no)) (.no)) (.leaf true)
def Zkc (a:List Int) (b:List Int):JT Zfq (Bool):=.br ((Int.ofNat (List.length a)) !=(Int.ofNat (List.length b))) (.leaf false) (.jmp (.l6 (0:Int)))
def Zip:Bool→AV:=fun (r:Bool)=>.d .bool r
def Zcb (a:List Int) (b:List Int):Zfq→Nat×St |.l6 i=>(6,⟨mkTm 26 [(0,.d (.sl (.int .i64)) a),(1,.d (.sl (.int .i64)) b),(5,.d (.int .i64) i)],[]⟩)
theorem Zzs (a:List Int) (b:List Int) (L:Lt):entryA Go.Proofs.Tryz.prog (clOf ZlR) Zka Go.Proofs.Tryz.f10 ZhT L (toForms Zcp (a,b,()))=(Zkc a b).run (fun v=>some (Zip v,tps (toForms Zcp (a,b,())))) fun j=>L (Zcb a b j).1 (Zcb a b j).2:=by kernel_rfl
theorem Zzy (a:List Int) (b:List Int):∀(L:Lt) (j:Zfq),procOf (procsF Go.Proofs.Tryz.prog (clOf ZlR) Zka Go.Proofs.Tryz.f10 ZhT (toForms Zcp (a,b,()))) (Zcb a b j).1 L (Zcb a b j).2=(Zfo a b j).run (fun v=>some (Zip v,tps (toForms Zcp (a,b,())))) fun j=>L (Zcb a b j).1 (Zcb a b j).2 | L,.l6 i=>by kernel_rfl
end
end Go.Ev
end

section
open Go
namespace Go.Ev
theorem ZNP {a b:Int} :(a==b)=decide (a=b):=by rw[Bool.eq_iff_iff];simp
def Zan (a b:List Int):Bool:=decide (a=b)
def Zau (a b:List Int):Bool:=decide (a.length < 4611686018427387904)
theorem ZA7 (a b:List Int) (hk:Zau a b=true):Goes (Zfo a b) (Zkc a b) (Zan a b):=by
 have hn:a.length < 4611686018427387904:=of_decide_eq_true hk
 have loop:a.length=b.length→∀k,k≤a.length→Goes (Zfo a b) (.jmp (.l6 (k:Int))) (decide (a.drop k=b.drop k)):=by
  intro he
  refine down ?_ fun k hk ih=>?_
  ·rw[Zi]
   simp[Zfo,Ze,ZR,he]
  ·rw[Zi]
   have hkb:k < b.length:=he▸hk
   simp only[Zfo,Ze,ZO hk,ZO hkb,nng,Bool.and_self,if_true,Int.toNat_natCast,ZH hk,ZH hkb,Zo (k:=k) (by omega)]
   rw[ZN hk,ZN hkb]
   split
   ·rename_i h1
    have h2:(! decide (a[k]=b[k]))=true:=(congrArg Bool.not ZNP).symm.trans h1
    have h3:¬a[k]=b[k]:=by simpa using h2
    rw[decide_eq_false (fun e=>h3 (List.cons.inj e).1)]
    exact .leaf
   ·rename_i h1
    have h2:¬(! decide (a[k]=b[k]))=true:=fun h=>h1 ((congrArg Bool.not ZNP).trans h)
    have h3:a[k]=b[k]:=by simpa using h2
    rw[show decide (a[k] :: List.drop (k+1) a=b[k] :: List.drop (k+1) b)=decide (List.drop (k+1) a=List.drop (k+1) b) from decide_eq_decide.2 ⟨fun e=>(List.cons.inj e).2,fun e=>by rw[h3,e]⟩]
    exact ih
 unfold Zkc Zan
 rw[Ze]
 by_cases h:a.length=b.length
 ·have:=loop h 0 (Nat.zero_le _)
  simpa[h] using this
 ·have:a≠b:=fun e=>h (congrArg _ e)
  rw[if_pos (by simp;omega),decide_eq_false this]
  exact .leaf
end Go.Ev
end

section
open Go
namespace Go.Ev
theorem ZAh {n:Nat} {M:Nat→Bool} :(listOf n M).length≤n:=by rw[Zif];exact ZeU
theorem Zr9 {n:Nat} {M:Nat→Bool} {x:Int} :(listOf n M).contains x=(decide (0≤x∧x < (n:Int))&&M x.toNat):=by
 rw[Bool.eq_iff_iff,List.contains_iff_mem,Zcv]
 simp only[Bool.and_eq_true,decide_eq_true_eq]
 constructor
 ·rintro ⟨i,h1,h2,rfl⟩;exact ⟨by omega,by rw[Int.toNat_natCast];exact h2⟩
 ·rintro ⟨h1,h2⟩;exact ⟨x.toNat,by omega,h2,by omega⟩
theorem ZN4 {l:List Int} (h:l.length < 1099511627776):Zau l l=true∧Zan l l=true:=⟨decide_eq_true (by omega),decide_eq_true rfl⟩
theorem ZN9 {t:List (El Za)} {points:List Int} (h:flowOK t=true) (hp:points.length < 4611686018427387904) (s:Int):
  Zb0 t points s=true∧Zau (ZP t points s) (ZP t points s)=true∧Zan (ZP t points s) (ZP t points s)=true:=by
 have k1:Zb0 t points s=true:=by unfold Zb0;rw[h,decide_eq_true hp];rfl
 have hl:=ZbC h
 exact ⟨k1,ZN4 (by unfold ZP;have:= @ZAh t.length (endsB t points s);omega)⟩
theorem ZNY {t:List (El Za)} {points:List Int} (h:flowOK t=true) (hp:points.length < 4611686018427387904) (s l:Int):
  ZgM t points s l=true∧ZdG t points s l=(decide (0≤l∧l < (t.length:Int))&&endsB t points s l.toNat):=by
 obtain ⟨k1,_⟩:=ZN9 h hp s
 have hl:=ZbC h
 have ki:ZaD (ZP t points s) l=true:=decide_eq_true (by unfold ZP;have:= @ZAh t.length (endsB t points s);omega)
 have vr:ZdG t points s l=(decide (0≤l∧l < (t.length:Int))&&endsB t points s l.toNat):=by
  unfold ZdG Zaa ZaK
  rw[k1,ki]
  simp only[cond_true]
  unfold Za4
  rw[ZIe]
  unfold ZP
  exact Zr9
 refine ⟨?_,vr⟩
 unfold ZgM Zaa;rw[k1,ki];rfl
end Go.Ev
end

section
open Go Go.Ev
namespace Go.Ev
noncomputable section
def Zk8:Sig:=[(false,(.sl (.int .i64))),(false,(.int .i64))]
noncomputable def ZBl:Tbl:=[]
theorem ZM0:∀p∈ZBl,EntOK Go.Proofs.Tryz.prog p.1 p.2:=Zt
noncomputable def Zv3:Code:=Go.Proofs.Tryz.f33.body.getD .skip
def ZxA:Tb:=[(3,⟨[0,1,5],[]⟩)]
inductive Zsv where | l3 (i:Int)
def Zte (l:List Int) (n:Int):Zsv→JT Zsv (Bool) |.l3 i=>.br (decide (i < (Int.ofNat (List.length l)))) (.br ((decide ((0:Int)≤i))&&(decide (i < (Int.ofNat (List.length l))))) (.br ((List.getD l (Int.toNat i) (dflt (.int .i64)))==n) (.leaf true) (.jmp (.l3 (IntKind.i64.wrap (i+(1:Int)))))) (.no)) (.leaf false)
def Zx3 (l:List Int) (n:Int):JT Zsv (Bool):=.jmp (.l3 (0:Int))
def Zwb:Bool→AV:=fun (r:Bool)=>.d .bool r
def ZlD (l:List Int) (n:Int):Zsv→Nat×St |.l3 i=>(3,⟨mkTm 18 [(0,.d (.sl (.int .i64)) l),(1,.d (.int .i64) n),(5,.d (.int .i64) i)],[]⟩)
theorem ZMG (l:List Int) (n:Int) (L:Lt):entryA Go.Proofs.Tryz.prog (clOf ZBl) ZxA Go.Proofs.Tryz.f33 Zv3 L (toForms Zk8 (l,n,()))=(Zx3 l n).run (fun v=>some (Zwb v,tps (toForms Zk8 (l,n,())))) fun j=>L (ZlD l n j).1 (ZlD l n j).2:=by kernel_rfl
theorem ZM3 (l:List Int) (n:Int):∀(L:Lt) (j:Zsv),procOf (procsF Go.Proofs.Tryz.prog (clOf ZBl) ZxA Go.Proofs.Tryz.f33 Zv3 (toForms Zk8 (l,n,()))) (ZlD l n j).1 L (ZlD l n j).2=(Zte l n j).run (fun v=>some (Zwb v,tps (toForms Zk8 (l,n,())))) fun j=>L (ZlD l n j).1 (ZlD l n j).2 | L,.l3 i=>by kernel_rfl
end
end Go.Ev
end

section
open Go
namespace Go.Ev
def ZjN (l:List Int) (n:Int):Bool:=l.contains n
def ZlN (l:List Int) (n:Int):Bool:=decide (l.length < 4611686018427387904)
theorem ZOx (l:List Int) (n:Int) (hk:ZlN l n=true):Goes (Zte l n) (Zx3 l n) (ZjN l n):=by
 have hn:l.length < 4611686018427387904:=of_decide_eq_true hk
 have loop:∀k,k≤l.length→Goes (Zte l n) (.jmp (.l3 (k:Int))) ((l.drop k).contains n):=by
  refine down ?_ fun k hk ih=>?_
  ·rw[Zi]
   simp only[Zte,Ze,Zv (Nat.lt_irrefl _),ZR,List.drop_length]
   simp
  ·rw[Zi]
   simp only[Zte,Ze,ZO hk,nng,Bool.and_self,if_true,Int.toNat_natCast,ZH hk,Zo (k:=k) (by omega)]
   rw[ZN hk,List.contains_cons]
   cases h:(l[k]==n) with
   | true=>
    have:(n==l[k])=true:=by simp at h ⊢;exact h.symm
    rw[this];simp[ZR]
   | false=>
    have:(n==l[k])=false:=by simp at h ⊢;exact fun e=>h e.symm
    rw[this];simpa using ih
 unfold Zx3 ZjN
 simpa using loop 0 (Nat.zero_le _)
end Go.Ev
end

section
open Go Go.Ev
namespace Go.Ev
noncomputable section
noncomputable def ZAD:Run:=entG Zk8 Zwb (fun a=>ZlN a.1 a.2.1) (fun a=>ZjN a.1 a.2.1)
theorem ZD2:EntOK Go.Proofs.Tryz.prog 33 ZAD:=ZI (tb:=ZxA) (c:=Zv3) ZM0 (by kernel_rfl) (by kernel_rfl) (by kernel_rfl) (fun a=>by kernel_rfl) fun ⟨l,n,_⟩ hk=>Zl (c:=Zv3) (K:=fun v=>(Zwb v,tps (toForms Zk8 (l,n,())))) (S:=ZlD l n) (by kernel_rfl) (ZMG l n) (ZM3 l n) (ZOx l n hk)
end
end Go.Ev
end

section
open Go Go.Ev
namespace Go.Ev
noncomputable section
def Zf7:Sig:=[(true,Za)]
noncomputable def Zs2:Tbl:=[(69,Zcg),(93,ZpK)]
theorem ZGj:∀p∈Zs2,EntOK Go.Proofs.Tryz.prog p.1 p.2:=Zg Zcu (Zg Zuy (Zt))
noncomputable def Znd:Code:=Go.Proofs.Tryz.f116.body.getD .skip
def Zp8:Tb:=[]
def ZyG (i:El Za):Empty→JT Empty (Bool):=fun j=>nomatch j
def ZvX (i:El Za):JT Empty (Bool):=.br (ZB i) (.br ((ZC i)==(0:Int)) (.br (i.1==(12:Int)) (.leaf true) (.br (Zaj i) (.leaf (ZaB i)) (.no))) (.br (Zaj i) (.leaf (ZaB i)) (.no))) (.no)
def Zhl (i:El Za):Bool:=bif (ZB i) then bif ((ZC i)==(0:Int)) then bif (i.1==(12:Int)) then true else bif (Zaj i) then (ZaB i) else false else bif (Zaj i) then (ZaB i) else false else false
def Zhg (i:El Za):Bool:=bif (ZB i) then bif ((ZC i)==(0:Int)) then bif (i.1==(12:Int)) then true else bif (Zaj i) then true else false else bif (Zaj i) then true else false else false
theorem ZI6 (i:El Za) (hk:Zhg i=true):Goes (ZyG i) (ZvX i) (Zhl i):=Goes.brk hk (fun hk=>Goes.brk hk (fun hk=>Goes.brk hk (fun hk=>Goes.leaf) (fun hk=>Goes.brk hk (fun hk=>Goes.leaf) (fun hk=>Goes.nok hk))) (fun hk=>Goes.brk hk (fun hk=>Goes.leaf) (fun hk=>Goes.nok hk))) (fun hk=>Goes.nok hk)
def Zmn:Bool→AV:=fun (r:Bool)=>.d .bool r
def Ze5 (i:El Za):Empty→Nat×St:=fun j=>nomatch j
theorem ZFS (i:El Za) (L:Lt):entryA Go.Proofs.Tryz.prog (clOf Zs2) Zp8 Go.Proofs.Tryz.f116 Znd L (toForms Zf7 (i,()))=(ZvX i).run (fun v=>some (Zmn v,tps (toForms Zf7 (i,())))) fun j=>L (Ze5 i j).1 (Ze5 i j).2:=by kernel_rfl
theorem ZEr (i:El Za):∀(L:Lt) (j:Empty),procOf (procsF Go.Proofs.Tryz.prog (clOf Zs2) Zp8 Go.Proofs.Tryz.f116 Znd (toForms Zf7 (i,()))) (Ze5 i j).1 L (Ze5 i j).2=(ZyG i j).run (fun v=>some (Zmn v,tps (toForms Zf7 (i,())))) fun j=>L (Ze5 i j).1 (Ze5 i j).2:=fun L j=>nomatch j
noncomputable def ZyR:Run:=entG Zf7 Zmn (fun a=>Zhg a.1) (fun a=>Zhl a.1)
theorem ZEl:EntOK Go.Proofs.Tryz.prog 116 ZyR:=ZI (tb:=Zp8) (c:=Znd) ZGj (by kernel_rfl) (by kernel_rfl) (by kernel_rfl) (fun a=>by kernel_rfl) fun ⟨i,_⟩ hk=>Zl (c:=Znd) (K:=fun v=>(Zmn v,tps (toForms Zf7 (i,())))) (S:=Ze5 i) (by kernel_rfl) (ZFS i) (ZEr i) (ZI6 i hk)
end
end Go.Ev
end

section
open Go Go.Ev
namespace Go.Ev
noncomputable section
def Zhu:Sig:=[(true,(.sl Za)),(false,(.sl (.int .i64))),(false,(.int .i64))]
noncomputable def ZvB:Tbl:=[(94,Zvg),(33,ZAD),(116,ZyR)]
theorem ZIZ:∀p∈ZvB,EntOK Go.Proofs.Tryz.prog p.1 p.2:=Zg ZyU (Zg ZD2 (Zg ZEl (Zt)))
noncomputable def ZpW:Code:=Go.Proofs.Tryz.f90.body.getD .skip
def Zth:Tb:=[(4,⟨[1,3,7,8],[]⟩),(10,⟨[1,3,7,9],[]⟩),(15,⟨[1,3,7,9,10],[]⟩),(23,⟨[1,3,7,9,10,11,12],[]⟩)]
inductive ZlO where | l4 (i:Int) (is:List Bool) | l10 (is:List Bool) (moved:Bool) | l15 (is:List Bool) (k:Int) (moved:Bool) | l23 (is:List Bool) (k:Int) (more:List Bool) (moved:Bool) (j_:Int)
def ZaP (t:List (El Za)) (points:List Int) (s:Int):ZlO→JT ZlO (List Bool) |.l4 i is=>.br (decide (i < (Int.ofNat (List.length is)))) (.br ((decide ((0:Int)≤i))&&(decide (i < (Int.ofNat (List.length is))))) (.br (List.getD is (Int.toNat i) (dflt .bool)) (.br (ZlN points i) (.br ((decide ((0:Int)≤i))&&(decide (i < (Int.ofNat (List.length is))))) (.jmp (.l4 (IntKind.i64.wrap (i+(1:Int))) (List.set is (Int.toNat i) (! (ZjN points i))))) (.no)) (.no)) (.br ((decide ((0:Int)≤i))&&(decide (i < (Int.ofNat (List.length is))))) (.jmp (.l4 (IntKind.i64.wrap (i+(1:Int))) (List.set is (Int.toNat i) false))) (.no))) (.no)) (.jmp (.l10 is true)) |.l10 is moved=>.br moved (.jmp (.l15 is (0:Int) false)) (.leaf is) |.l15 is k moved=>.br (decide (k < (Int.ofNat (List.length is)))) (.br ((decide ((0:Int)≤k))&&(decide (k < (Int.ofNat (List.length is))))) (.br (! (List.getD is (Int.toNat k) (dflt .bool))) (.jmp (.l15 is (IntKind.i64.wrap (k+(1:Int))) moved)) (.br ((decide ((0:Int)≤k))&&(decide (k < (Int.ofNat (List.length t))))) (.br (Zhg (List.getD t (Int.toNat k) (dflt Za))) (.br (Zhl (List.getD t (Int.toNat k) (dflt Za))) (.jmp (.l15 is (IntKind.i64.wrap (k+(1:Int))) moved)) (.br (ZcL t k) (.jmp (.l23 is k (Zbb t k) moved (0:Int))) (.no))) (.no)) (.no))) (.no)) (.jmp (.l10 is moved)) |.l23 is k more moved j_=>.br (decide (j_ < (Int.ofNat (List.length is)))) (.br ((decide ((0:Int)≤j_))&&(decide (j_ < (Int.ofNat (List.length more))))) (.br (List.getD more (Int.toNat j_) (dflt .bool)) (.br ((decide ((0:Int)≤j_))&&(decide (j_ < (Int.ofNat (List.length is))))) (.br (! (List.getD is (Int.toNat j_) (dflt .bool))) (.br (ZlN points j_) (.br (! (ZjN points j_)) (.br ((decide ((0:Int)≤j_))&&(decide (j_ < (Int.ofNat (List.length is))))) (.jmp (.l23 (List.set is (Int.toNat j_) true) k more true (IntKind.i64.wrap (j_+(1:Int))))) (.no)) (.jmp (.l23 is k more moved (IntKind.i64.wrap (j_+(1:Int)))))) (.no)) (.jmp (.l23 is k more moved (IntKind.i64.wrap (j_+(1:Int)))))) (.no)) (.jmp (.l23 is k more moved (IntKind.i64.wrap (j_+(1:Int)))))) (.no)) (.jmp (.l15 is (IntKind.i64.wrap (k+(1:Int))) moved))
def Zs1 (t:List (El Za)) (points:List Int) (s:Int):JT ZlO (List Bool):=.br (ZcL t s) (.jmp (.l4 (0:Int) (Zbb t s))) (.no)
def ZqK:List Bool→AV:=fun (r:List Bool)=>.rw 4 .bool r
def ZgX (t:List (El Za)) (points:List Int) (s:Int):ZlO→Nat×St |.l4 i is=>(4,⟨mkTm 85 [(1,.d (.sl (.int .i64)) points),(3,.pt 4 0 0),(7,.own 8 0 none),(8,.d (.int .i64) i)],[(4,0,.box 33 [.d (.sl Za) t] none),(8,0,.row 4 .bool is false)]⟩) |.l10 is moved=>(10,⟨mkTm 85 [(1,.d (.sl (.int .i64)) points),(3,.pt 4 0 0),(7,.own 8 0 none),(9,.d .bool moved)],[(4,0,.box 33 [.d (.sl Za) t] none),(8,0,.row 4 .bool is false)]⟩) |.l15 is k moved=>(15,⟨mkTm 85 [(1,.d (.sl (.int .i64)) points),(3,.pt 4 0 0),(7,.own 8 0 none),(9,.d .bool moved),(10,.d (.int .i64) k)],[(4,0,.box 33 [.d (.sl Za) t] none),(8,0,.row 4 .bool is false)]⟩) |.l23 is k more moved j_=>(23,⟨mkTm 85 [(1,.d (.sl (.int .i64)) points),(3,.pt 4 0 0),(7,.own 8 0 none),(9,.d .bool moved),(10,.d (.int .i64) k),(11,.own 12 0 none),(12,.d (.int .i64) j_)],[(4,0,.box 33 [.d (.sl Za) t] none),(8,0,.row 4 .bool is false),(12,0,.row 4 .bool more false)]⟩)
theorem ZHq (t:List (El Za)) (points:List Int) (s:Int) (L:Lt):entryA Go.Proofs.Tryz.prog (clOf ZvB) Zth Go.Proofs.Tryz.f90 ZpW L (toForms Zhu (t,points,s,()))=(Zs1 t points s).run (fun v=>some (ZqK v,tps (toForms Zhu (t,points,s,())))) fun j=>L (ZgX t points s j).1 (ZgX t points s j).2:=by kernel_rfl
theorem ZHu (t:List (El Za)) (points:List Int) (s:Int):∀(L:Lt) (j:ZlO),procOf (procsF Go.Proofs.Tryz.prog (clOf ZvB) Zth Go.Proofs.Tryz.f90 ZpW (toForms Zhu (t,points,s,()))) (ZgX t points s j).1 L (ZgX t points s j).2=(ZaP t points s j).run (fun v=>some (ZqK v,tps (toForms Zhu (t,points,s,())))) fun j=>L (ZgX t points s j).1 (ZgX t points s j).2 | L,.l4 i is=>by kernel_rfl | L,.l10 is moved=>by kernel_rfl | L,.l15 is k moved=>by kernel_rfl | L,.l23 is k more moved j_=>by kernel_rfl
end
end Go.Ev
end

section
open Go
namespace Go.Ev
theorem ZPr {i:El Za} (h:smallText i.2.2.2.2.2.1=true):Ze9 i=true∧Zhg i=true:=by
 have h0:ZU i=true:=h
 have h1:ZB i=true:=h
 have a:Zay i=true:=by unfold Zay;simp only[h0,cond_true,Bool.cond_self]
 have b:Zaj i=true:=by unfold Zaj;simp only[h1,cond_true,Bool.cond_self]
 unfold Ze9 Zhg
 simp only[h0,h1,a,b,cond_true,Bool.cond_self,and_self]
theorem ZOS {i:El Za} (h:smallText i.2.2.2.2.2.1=true):Zhl i=ZgC i:=by
 have h0:ZU i=true:=h
 have h1:ZB i=true:=h
 have a:Zay i=true:=by unfold Zay;simp only[h0,cond_true,Bool.cond_self]
 have b:Zaj i=true:=by unfold Zaj;simp only[h1,cond_true,Bool.cond_self]
 have c:ZaB i=Zak i:=by
  unfold ZaB Zak ZC
  simp only[h0,h1]
 unfold Zhl ZgC ZC
 simp only[h0,h1,a,b,c]
end Go.Ev
end

section
open Go
namespace Go.Ev
noncomputable def Zap (t:List (El Za)) (points:List Int) (s:Int):List Bool:=rowOf t.length (endsB t points s)
def Zfp (t:List (El Za)) (points:List Int) (s:Int):Bool:=flowOK t&&decide (points.length < 4611686018427387904)
theorem ZKY (t:List (El Za)) (points:List Int) (s:Int) (hk:Zfp t points s=true):Goes (ZaP t points s) (Zs1 t points s) (Zap t points s):=by
 unfold Zfp at hk
 rw[Bool.and_eq_true] at hk
 obtain ⟨hf,hpl⟩:=hk
 have hlen:=ZbC hf
 have kIn:∀x,ZlN points x=true:=fun x=>hpl
 have vIn:∀x,ZjN points x=points.contains x:=fun x=>rfl
 generalize hn:t.length=n at hlen
 have kfe:∀k,k < n→Zhg (List.getD t k (dflt Za))=true∧Zhl (List.getD t k (dflt Za))=fenceAtT t k:=fun k hk=>by
  have hmem:t.getD k (dflt Za)∈t:=by rw[ZH (by omega)];exact List.getElem_mem (by omega)
  have hs:=Zpn hf hmem
  exact ⟨(ZPr hs).2,ZOS hs⟩
 let OK:(Nat→Bool)→(Nat→Bool)→Bool→Prop:=fun M0 M moved=>(∀j,firstB t points s j=true→M j=true)∧(∀j,M j=true→Come (stepB t points) (firstB t points s) j)∧(moved=false→M=M0)∧(moved=true→card n M0 < card n M)
 have hltM:∀ {M0 M moved},OK M0 M moved→∀j,M j=true→j < n:=fun h j hj=>by
  have:=ZFg (n:=t.length) (fun j=>ZHl) (fun k j=>ZHb) (h.2.1 j hj)
  omega
 have loop:∀m,∀M:Nat→Bool,n - card n M=m→(∀j,firstB t points s j=true→M j=true)→(∀j,M j=true→Come (stepB t points) (firstB t points s) j)→Goes (ZaP t points s) (.jmp (.l10 (rowOf n M) true)) (Zap t points s):=by
  intro m
  induction m using Nat.strongRecOn with
  | _ m ih=>
  intro M0 hm hA hC
  have inner:∀k,k < n→fenceAtT t k=false→∀Z:Prop,(∀M moved,OK M0 M moved→(moved=false→Z∧∀j,stepB t points k j=true→M0 j=true)→Goes (ZaP t points s) (.jmp (.l15 (rowOf n M) ((k+1:Nat):Int) moved)) (Zap t points s))→
    ∀j,j≤n→∀M moved,M k=true→OK M0 M moved→(moved=false→Z∧∀x,x < j→stepB t points k x=true→M0 x=true)→Goes (ZaP t points s) (.jmp (.l23 (rowOf n M) (k:Int) (rowOf n (nextB t (k:Int))) moved (j:Int))) (Zap t points s):=by
   intro k hkn hfk Z hz
   have hst:∀x,stepB t points k x=(nextB t (k:Int) x&& !points.contains (x:Int)):=fun x=>by unfold stepB;rw[hfk];rfl
   refine down ?_ fun j hj ih2=>?_
   ·intro M moved hMk hok hcl
    rw[Zi,ZaP,Ze,ZK,if_neg (by rw[Zv (Nat.lt_irrefl _)];decide),Zo (by omega)]
    exact hz M moved hok fun hm=>⟨(hcl hm).1,fun j hj=>(hcl hm).2 j (by have:=ZHb hj;omega) hj⟩
   ·intro M moved hMk hok hcl
    rw[Zi,ZaP,Ze,ZK,if_pos (ZO hj),Ze,ZK,if_pos (Zas hj),Ze,Int.toNat_natCast,Zby hj,Zo (by omega)]
    have skip:(stepB t points k j=true→moved=false→M0 j=true)→Goes (ZaP t points s) (.jmp (.l23 (rowOf n M) (k:Int) (rowOf n (nextB t (k:Int))) moved ((j+1:Nat):Int))) (Zap t points s):=fun hsk=>by
     refine ih2 M moved hMk hok fun hm=>⟨(hcl hm).1,fun x hx hxN=>?_⟩
     by_cases hxj:x=j
     ·subst hxj;exact hsk hxN hm
     ·exact (hcl hm).2 x (by omega) hxN
    by_cases hN:nextB t (k:Int) j=true
    ·rw[if_pos hN,Ze,if_pos (Zas hj),Ze,Zby hj]
     cases hMj:M j with
     | true=>
      rw[if_neg (by decide)]
      exact skip fun _ hm=>by rw[←hok.2.2.1 hm];exact hMj
     | false=>
      rw[if_pos (by decide),Ze,if_pos (kIn _),Ze,vIn]
      cases hpt:points.contains (j:Int) with
      | true=>
       rw[if_neg (by decide)]
       exact skip fun h _=>by rw[hst,hpt,Bool.not_true,Bool.and_false] at h;cases h
      | false=>
       rw[if_pos (by decide),Ze,if_pos (Zas hj),Zsd]
       have hca:=Zm4 hMj hj
       refine ih2 (fun x=>M x || (x==j)) true (by rw[hMk];rfl) ⟨fun x hx=>(show (M x || (x==j))=true by rw[hok.1 x hx];rfl),fun x hx=>?_,fun h=>(by cases h),fun _=>?_⟩ (fun h=>by cases h)
       ·simp only[Bool.or_eq_true,beq_iff_eq] at hx
        rcases hx with hx | hx
        ·exact hok.2.1 x hx
        ·subst hx;exact .step (hok.2.1 k hMk) (by rw[hst,hN,hpt];rfl)
       ·cases moved with
        | true=>have:=hok.2.2.2 rfl;omega
        | false=>rw[hok.2.2.1 rfl] at hca;rw[hok.2.2.1 rfl];omega
    ·rw[if_neg hN]
     exact skip fun h _=>by rw[hst] at h;simp only[Bool.and_eq_true] at h;exact absurd h.1 hN
  have pass:∀k,k≤n→∀M moved,OK M0 M moved→(moved=false→∀k' j,k' < k→M0 k'=true→stepB t points k' j=true→M0 j=true)→Goes (ZaP t points s) (.jmp (.l15 (rowOf n M) (k:Int) moved)) (Zap t points s):=by
   refine down ?_ fun k hkn ih2=>?_
   ·intro M moved hok hcl
    rw[Zi,ZaP,Ze,ZK,if_neg (by rw[Zv (Nat.lt_irrefl _)];decide)]
    cases moved with
    | true=>
     have h1:=hok.2.2.2 rfl
     have h2:= @ZeU n M
     exact ih (n - card n M) (by omega) M rfl hok.1 hok.2.1
    | false=>
     have e:=hok.2.2.1 rfl
     subst e
     rw[Zi,ZaP,Ze,if_neg (by decide)]
     have hv:rowOf n M=Zap t points s:=by
      unfold Zap endsB
      rw[hn]
      exact Z3 fun j _=>ZqU hok.1 (fun k j hk hj=>hcl rfl k j (hltM hok k hk) hk hj) hok.2.1 j
     rw[hv];exact .leaf
   ·intro M moved hok hcl
    rw[Zi,ZaP,Ze,ZK,if_pos (ZO hkn),Ze,if_pos (Zas hkn),Ze,Int.toNat_natCast,Zby hkn]
    cases hMk:M k with
    | false=>
     rw[if_pos (by decide),Zo (by omega)]
     refine ih2 M moved hok fun hm k' j hk' hk1 hj=>?_
     by_cases e:k'=k
     ·subst e;rw[←hok.2.2.1 hm,hMk] at hk1;cases hk1
     ·exact hcl hm k' j (by omega) hk1 hj
    | true=>
     have kn:ZcL t (k:Int)=true:=hf
     obtain ⟨kf1,vf1⟩:=kfe k hkn
     rw[if_neg (by decide),Ze,hn,if_pos (Zas hkn),Ze,if_pos kf1,Ze,vf1]
     cases hfk:fenceAtT t k with
     | true=>
      rw[if_pos rfl,Zo (by omega)]
      refine ih2 M moved hok fun hm k' j hk' hk1 hj=>?_
      by_cases e:k'=k
      ·subst e;unfold stepB at hj;rw[hfk] at hj;cases hj
      ·exact hcl hm k' j (by omega) hk1 hj
     | false=>
      rw[if_neg (by decide),Ze,if_pos kn]
      have hvn:Zbb t (k:Int)=rowOf n (nextB t (k:Int)):=by unfold Zbb;rw[hn]
      rw[hvn]
      refine inner k hkn hfk (∀k' j,k' < k→M0 k'=true→stepB t points k' j=true→M0 j=true) (fun M' moved' hok' hcl'=>ih2 M' moved' hok' fun hm k' j hk' hk1 hj=>?_) 0 (Nat.zero_le _) M moved hMk hok (fun hm=>⟨hcl hm,fun x hx=>by omega⟩)
      by_cases e:k'=k
      ·subst e;exact (hcl' hm).2 j hj
      ·exact (hcl' hm).1 k' j (by omega) hk1 hj
  rw[Zi,ZaP,Ze,if_pos rfl]
  exact pass 0 (Nat.zero_le _) M0 false ⟨hA,hC,fun _=>rfl,fun h=>by cases h⟩ fun _ k' j h=>by omega
 have kn:ZcL t s=true:=hf
 unfold Zs1
 rw[Ze,if_pos kn]
 have hvn:Zbb t s=rowOf n fun j=>if j < 0 then firstB t points s j else nextB t s j:=by
  unfold Zbb;rw[hn]
  exact Z3 fun j _=>by rw[if_neg (by omega)]
 rw[hvn]
 have first:∀k,k≤n→Goes (ZaP t points s) (.jmp (.l4 (k:Int) (rowOf n fun j=>if j < k then firstB t points s j else nextB t s j))) (Zap t points s):=by
  refine down ?_ fun k hkn ih=>?_
  ·rw[Zi,ZaP,Ze,ZK,if_neg (by rw[Zv (Nat.lt_irrefl _)];decide)]
   rw[show (rowOf n fun j=>if j < n then firstB t points s j else nextB t s j)=rowOf n (firstB t points s) from Z3 fun j hj=>by rw[if_pos hj]]
   exact loop _ (firstB t points s) rfl (fun j h=>h) (fun j h=>.start h)
  ·have nx:∀b,b=firstB t points s k→Goes (ZaP t points s) (.jmp (.l4 ((k+1:Nat):Int) ((rowOf n fun j=>if j < k then firstB t points s j else nextB t s j).set k b))) (Zap t points s):=fun b hb=>by
    rw[ZBd]
    rw[show (rowOf n fun j=>if j=k then b else if j < k then firstB t points s j else nextB t s j)=rowOf n fun j=>if j < k+1 then firstB t points s j else nextB t s j from Z3 fun j _=>by
     by_cases h1:j=k
     ·subst h1;rw[if_pos rfl,if_pos (by omega),hb]
     ·rw[if_neg h1]
      by_cases h2:j < k
      ·rw[if_pos h2,if_pos (by omega)]
      ·rw[if_neg h2,if_neg (by omega)]]
    exact ih
   rw[Zi,ZaP,Ze,ZK,if_pos (ZO hkn),Ze,if_pos (Zas hkn),Ze,Int.toNat_natCast,Zby hkn,if_neg (c:=k < k) (Nat.lt_irrefl k),Zo (by omega)]
   cases hN:nextB t s k with
   | true=>
    rw[if_pos rfl,Ze,if_pos (kIn _),Ze,if_pos (Zas hkn),vIn]
    exact nx _ (by unfold firstB;rw[hN,Bool.true_and])
   | false=>
    rw[if_neg (by decide),Ze,if_pos (Zas hkn)]
    exact nx false (by unfold firstB;rw[hN,Bool.false_and])
 exact first 0 (Nat.zero_le _)
end Go.Ev
end

section
namespace Go.Ev
open Go
end Go.Ev
end

section
namespace Go.Ev
open Go
end Go.Ev
end

section
open Go Go.Ev
namespace Go.Ev
noncomputable section
noncomputable def ZBy:Run:=entG Zhu ZqK (fun a=>Zfp a.1 a.2.1 a.2.2.1) (fun a=>Zap a.1 a.2.1 a.2.2.1)
theorem ZIv:EntOK Go.Proofs.Tryz.prog 90 ZBy:=ZI (tb:=Zth) (c:=ZpW) ZIZ (by kernel_rfl) (by kernel_rfl) (by kernel_rfl) (fun a=>by kernel_rfl) fun ⟨t,points,s,_⟩ hk=>Zl (c:=ZpW) (K:=fun v=>(ZqK v,tps (toForms Zhu (t,points,s,())))) (S:=ZgX t points s) (by kernel_rfl) (ZHq t points s) (ZHu t points s) (ZKY t points s hk)
end
end Go.Ev
end

section
open Go Go.Ev
namespace Go.Ev
noncomputable section
def Zhp:Sig:=[(true,(.sl Za)),(false,(.sl (.int .i64))),(false,(.int .i64)),(false,(.int .i64))]
noncomputable def Zu0:Tbl:=[(90,ZBy)]
theorem ZJH:∀p∈Zu0,EntOK Go.Proofs.Tryz.prog p.1 p.2:=Zg ZIv (Zt)
noncomputable def ZqS:Code:=Go.Proofs.Tryz.f56.body.getD .skip
def ZrO:Tb:=[]
def ZBJ (t:List (El Za)) (points:List Int) (s:Int) (l:Int):Empty→JT Empty (Bool):=fun j=>nomatch j
def Zyb (t:List (El Za)) (points:List Int) (s:Int) (l:Int):JT Empty (Bool):=.br (decide (l≥(0:Int))) (.br (decide (l < (Int.ofNat (List.length t)))) (.br (Zfp t points s) (.br ((decide ((0:Int)≤l))&&(decide (l < (Int.ofNat (List.length (Zap t points s)))))) (.leaf (List.getD (Zap t points s) (Int.toNat l) (dflt .bool))) (.no)) (.no)) (.leaf false)) (.leaf false)
def ZgO (t:List (El Za)) (points:List Int) (s:Int) (l:Int):Bool:=bif (decide (l≥(0:Int))) then bif (decide (l < (Int.ofNat (List.length t)))) then bif (Zfp t points s) then bif ((decide ((0:Int)≤l))&&(decide (l < (Int.ofNat (List.length (Zap t points s)))))) then (List.getD (Zap t points s) (Int.toNat l) (dflt .bool)) else false else false else false else false
def ZiZ (t:List (El Za)) (points:List Int) (s:Int) (l:Int):Bool:=bif (decide (l≥(0:Int))) then bif (decide (l < (Int.ofNat (List.length t)))) then bif (Zfp t points s) then bif ((decide ((0:Int)≤l))&&(decide (l < (Int.ofNat (List.length (Zap t points s)))))) then true else false else false else true else true
theorem ZLU (t:List (El Za)) (points:List Int) (s:Int) (l:Int) (hk:ZiZ t points s l=true):Goes (ZBJ t points s l) (Zyb t points s l) (ZgO t points s l):=Goes.brk hk (fun hk=>Goes.brk hk (fun hk=>Goes.brk hk (fun hk=>Goes.brk hk (fun hk=>Goes.leaf) (fun hk=>Goes.nok hk)) (fun hk=>Goes.nok hk)) (fun hk=>Goes.leaf)) (fun hk=>Goes.leaf)
def ZpT:Bool→AV:=fun (r:Bool)=>.d .bool r
def Zg4 (t:List (El Za)) (points:List Int) (s:Int) (l:Int):Empty→Nat×St:=fun j=>nomatch j
theorem ZH9 (t:List (El Za)) (points:List Int) (s:Int) (l:Int) (L:Lt):entryA Go.Proofs.Tryz.prog (clOf Zu0) ZrO Go.Proofs.Tryz.f56 ZqS L (toForms Zhp (t,points,s,l,()))=(Zyb t points s l).run (fun v=>some (ZpT v,tps (toForms Zhp (t,points,s,l,())))) fun j=>L (Zg4 t points s l j).1 (Zg4 t points s l j).2:=by kernel_rfl
theorem ZHG (t:List (El Za)) (points:List Int) (s:Int) (l:Int):∀(L:Lt) (j:Empty),procOf (procsF Go.Proofs.Tryz.prog (clOf Zu0) ZrO Go.Proofs.Tryz.f56 ZqS (toForms Zhp (t,points,s,l,()))) (Zg4 t points s l j).1 L (Zg4 t points s l j).2=(ZBJ t points s l j).run (fun v=>some (ZpT v,tps (toForms Zhp (t,points,s,l,())))) fun j=>L (Zg4 t points s l j).1 (Zg4 t points s l j).2:=fun L j=>nomatch j
noncomputable def ZAe:Run:=entG Zhp ZpT (fun a=>ZiZ a.1 a.2.1 a.2.2.1 a.2.2.2.1) (fun a=>ZgO a.1 a.2.1 a.2.2.1 a.2.2.2.1)
theorem ZHY:EntOK Go.Proofs.Tryz.prog 56 ZAe:=ZI (tb:=ZrO) (c:=ZqS) ZJH (by kernel_rfl) (by kernel_rfl) (by kernel_rfl) (fun a=>by kernel_rfl) fun ⟨t,points,s,l,_⟩ hk=>Zl (c:=ZqS) (K:=fun v=>(ZpT v,tps (toForms Zhp (t,points,s,l,())))) (S:=Zg4 t points s l) (by kernel_rfl) (ZH9 t points s l) (ZHG t points s l) (ZLU t points s l hk)
end
end Go.Ev
end

section
open Go
namespace Go.Ev
theorem ZFj {t:List (El Za)} {points:List Int} (h:flowOK t=true) (hp:points.length < 4611686018427387904) (s l:Int):
  ZgM t points s l=true∧ZiZ t points s l=true∧ZgO t points s l=ZdG t points s l∧ZdG t points s l=(decide (0≤l∧l < (t.length:Int))&&endsB t points s l.toNat):=by
 have hl:=ZbC h
 have k4:Zfp t points s=true:=by unfold Zfp;rw[h,decide_eq_true hp];rfl
 obtain ⟨kr,vr⟩:=ZNY h hp s l
 refine ⟨kr,?_,?_,vr⟩
 ·unfold ZiZ
  by_cases h0:l≥0
  ·rw[decide_eq_true h0,cond_true]
   by_cases h1:l < Int.ofNat t.length
   ·have h2:decide (l < Int.ofNat (Zap t points s).length)=true:=by
     unfold Zap
     rw[ZK];exact decide_eq_true h1
    simp only[decide_eq_true h1,k4,h2,Bool.and_self,Bool.true_and,cond_true]
   ·rw[decide_eq_false h1];rfl
  ·rw[decide_eq_false h0];rfl
 ·rw[vr]
  unfold ZgO
  by_cases h0:l≥0
  ·rw[decide_eq_true h0,cond_true]
   by_cases h1:l < Int.ofNat t.length
   ·have h2:decide (l < Int.ofNat (Zap t points s).length)=true:=by
     unfold Zap
     rw[ZK];exact decide_eq_true h1
    simp only[decide_eq_true h1,k4,h2,Bool.and_self,Bool.true_and,cond_true]
    rw[decide_eq_true (show 0≤l∧l < (t.length:Int) from ⟨h0,h1⟩),Bool.true_and]
    unfold Zap
    obtain ⟨j,rfl⟩:=Int.eq_ofNat_of_zero_le h0
    rw[Int.toNat_natCast,Zby (by have:(j:Int) < (t.length:Int):=h1;omega)]
   ·rw[decide_eq_false h1,decide_eq_false (show ¬(0≤l∧l < (t.length:Int)) from fun h=>h1 h.2)];rfl
  ·rw[decide_eq_false h0,decide_eq_false (show ¬(0≤l∧l < (t.length:Int)) from fun h=>h0 h.1)];rfl
end Go.Ev
end

section
open Go Go.Ev
namespace Go.Ev
noncomputable section
def Zfu:Sig:=[(true,Zc)]
noncomputable def Zsr:Tbl:=[(26,ZfW),(73,Zz3)]
theorem ZGY:∀p∈Zsr,EntOK Go.Proofs.Tryz.prog p.1 p.2:=Zg Zgo (Zg ZJO (Zt))
noncomputable def Zmt:Code:=Go.Proofs.Tryz.f39.body.getD .skip
def ZpL:Tb:=[(4,⟨[1,3,7,8,9],[(4,118)]⟩)]
inductive ZjQ where | l4 (h:Int) (out:List (El Zd))
def ZjT (p:El Zc):ZjQ→JT ZjQ (List (El Zd)) |.l4 h out=>.br (decide (h < (Int.ofNat (List.length (Zj p))))) (.br ((decide ((0:Int)≤h))&&(decide (h < (Int.ofNat (List.length (Zj p)))))) (.br ((decide ((0:Int)≤(List.getD (Zj p) (Int.toNat h) (dflt Zd)).1))&&(decide ((List.getD (Zj p) (Int.toNat h) (dflt Zd)).1 < (Int.ofNat (List.length p.2))))) (.br (ZgM (List.getD p.2 (Int.toNat (List.getD (Zj p) (Int.toNat h) (dflt Zd)).1) (dflt (.sl Za))) [] (List.getD (Zj p) (Int.toNat h) (dflt Zd)).2.1 (List.getD (Zj p) (Int.toNat h) (dflt Zd)).2.2) (.br (ZdG (List.getD p.2 (Int.toNat (List.getD (Zj p) (Int.toNat h) (dflt Zd)).1) (dflt (.sl Za))) [] (List.getD (Zj p) (Int.toNat h) (dflt Zd)).2.1 (List.getD (Zj p) (Int.toNat h) (dflt Zd)).2.2) (.br (Nat.ble (((List.length out)+1)*24) limit) (.jmp (.l4 (IntKind.i64.wrap (h+(1:Int))) (out++[(List.getD (Zj p) (Int.toNat h) (dflt Zd))]))) (.no)) (.jmp (.l4 (IntKind.i64.wrap (h+(1:Int))) out))) (.no)) (.no)) (.no)) (.leaf out)
def Zqo (p:El Zc):JT ZjQ (List (El Zd)):=.br (ZS p) (.jmp (.l4 (0:Int) [])) (.no)
def Znr:List (El Zd)→AV:=fun (r:List (El Zd))=>.rw 70 Zd r
def ZeT (p:El Zc):ZjQ→Nat×St |.l4 h out=>(4,⟨mkTm 30 [(1,.pt 2 0 0),(3,.own 4 0 none),(7,.own 8 0 none),(8,.d (.int .i64) (Int.ofNat (List.length (Zj p)))),(9,.d (.int .i64) h)],[(2,0,.box 27 [.d (.sl Zx) p.1,.d (.sl (.sl Za)) p.2] none),(4,0,.row 70 Zd out false),(8,0,.row 70 Zd (Zj p) false)]⟩)
theorem ZFc (p:El Zc) (L:Lt):entryA Go.Proofs.Tryz.prog (clOf Zsr) ZpL Go.Proofs.Tryz.f39 Zmt L (toForms Zfu (p,()))=(Zqo p).run (fun v=>some (Znr v,tps (toForms Zfu (p,())))) fun j=>L (ZeT p j).1 (ZeT p j).2:=by kernel_rfl
theorem ZGk (p:El Zc):∀(L:Lt) (j:ZjQ),procOf (procsF Go.Proofs.Tryz.prog (clOf Zsr) ZpL Go.Proofs.Tryz.f39 Zmt (toForms Zfu (p,()))) (ZeT p j).1 L (ZeT p j).2=(ZjT p j).run (fun v=>some (Znr v,tps (toForms Zfu (p,())))) fun j=>L (ZeT p j).1 (ZeT p j).2 | L,.l4 h out=>by kernel_rfl
end
end Go.Ev
end

section
open Go
namespace Go.Ev
noncomputable def openB (p:El Zc) (x:El Zd):Bool:=ZdG (List.getD p.2 (Int.toNat x.1) (dflt (.sl Za))) [] x.2.1 x.2.2
noncomputable def openK (p:El Zc) (x:El Zd):Bool:=(decide ((0:Int)≤x.1)&&decide (x.1 < Int.ofNat (List.length p.2)))&&ZgM (List.getD p.2 (Int.toNat x.1) (dflt (.sl Za))) [] x.2.1 x.2.2
noncomputable def Zw (p:El Zc):List (El Zd):=(Zj p).filter (openB p)
noncomputable def Zbq (p:El Zc):Bool:=ZS p&&(decide ((Zj p).length < 10000000000)&&(Zj p).all (openK p))
theorem ZIR (p:El Zc) (hk:Zbq p=true):Goes (ZjT p) (Zqo p) (Zw p):=by
 unfold Zbq at hk
 rw[Bool.and_eq_true,Bool.and_eq_true] at hk
 obtain ⟨k1,k2,k3⟩:=hk
 have hN:=of_decide_eq_true k2
 unfold Zqo Zw
 rw[Ze,if_pos k1]
 obtain ⟨l,hl⟩:∃l,Zj p=l:=⟨_,rfl⟩
 rw[hl] at hN k3
 rw[hl]
 have loop:∀k,k≤l.length→∀out:List (El Zd),out.length≤k→Goes (ZjT p) (.jmp (.l4 (k:Int) out)) (out++(l.drop k).filter (openB p)):=by
  refine down ?_ fun k hk ih=>?_
  ·intro out ho
   rw[Zi,ZjT,hl,Ze,if_neg (by rw[Zv (Nat.lt_irrefl _)];decide),List.drop_length]
   simp only[List.filter_nil,List.append_nil]
   exact .leaf
  ·intro out ho
   have b1:Nat.ble ((out.length+1)*24) limit=true:=Nat.ble_eq_true_of_le (by unfold limit;omega)
   have hx:=List.all_eq_true.1 k3 l[k] (List.getElem_mem hk)
   unfold openK at hx
   rw[Bool.and_eq_true] at hx
   rw[Zi,ZjT,hl,ZN hk,List.filter_cons]
   simp only[Ze,ZO hk,nng,Bool.and_self,if_true,Int.toNat_natCast,ZH hk,b1,Zo (k:=k) (by omega)]
   rw[if_pos hx.1,if_pos hx.2]
   by_cases c:openB p l[k]=true
   ·have c':=c
    unfold openB at c'
    rw[if_pos c',if_pos c]
    have:=ih (out++[l[k]]) (by simp;omega)
    rw[List.append_assoc] at this
    exact this
   ·have c':=c
    unfold openB at c'
    rw[if_neg c',if_neg c]
    exact ih out (by omega)
 have:=loop 0 (Nat.zero_le _) [] (Nat.zero_le _)
 rw[List.nil_append,List.drop_zero] at this
 exact this
end Go.Ev
end

section
open Go Go.Ev
namespace Go.Ev
noncomputable section
noncomputable def Zph:Run:=entG Zel Zk2 (fun a=>Za8 a.1) (fun a=>ZA a.1)
theorem Zuc:EntOK Go.Proofs.Tryz.prog 30 Zph:=ZI (tb:=ZnG) (c:=ZkE) ZCT (by kernel_rfl) (by kernel_rfl) (by kernel_rfl) (fun a=>by kernel_rfl) fun ⟨p,_⟩ hk=>Zl (c:=ZkE) (K:=fun v=>(Zk2 v,tps (toForms Zel (p,())))) (S:=ZdF p) (by kernel_rfl) (ZCr p) (ZDm p) (ZES p hk)
end
end Go.Ev
end

section
open Go
namespace Go.Ev
noncomputable def openR (p:El Zc) (x:El Zd):Bool:=ZgO (List.getD p.2 (Int.toNat x.1) (dflt (.sl Za))) [] x.2.1 x.2.2
noncomputable def openRK (p:El Zc) (x:El Zd):Bool:=(decide ((0:Int)≤x.1)&&decide (x.1 < Int.ofNat (List.length p.2)))&&ZiZ (List.getD p.2 (Int.toNat x.1) (dflt (.sl Za))) [] x.2.1 x.2.2
noncomputable def ZpN (p:El Zc):List (El Zd):=(ZA p).filter (openR p)
noncomputable def Zqu (p:El Zc):Bool:=Za8 p&&(decide ((ZA p).length < 10000000000)&&(ZA p).all (openRK p))
end Go.Ev
end

section
open Go
namespace Go.Ev
end Go.Ev
end

section
open Go
namespace Go.Ev
def fromX (t:List (El Za)) (i:Int) (j:Nat):Bool:=(comeL (fun k j=>nextB t (k:Int) j) (nextB t i) t.length).getD j false
theorem ZMe (t:List (El Za)) (i:Int) (j:Nat):fromB t i j=fromX t i j:=ZFh (fun j=>Zex) (fun k j=>Zex) j
def behX (p:El Zc) (l:List Acc) (c d:Nat):Bool:=
 decide (d < l.length)&&(thA l d==thA l c&&(d==c || ((inA l d==inA l c&&decide (paA l d > paA l c)) || (decide (0≤inA l d)&&fromX (thrOf p l c) (inA l c) (inA l d).toNat))))
theorem ZQg (p:El Zc) (l:List Acc) (c d:Nat):behB p l c d=behX p l c d:=by
 unfold behB behX
 rw[ZMe]
def chX (p:El Zc) (l:List Acc) (a i k:Nat):Bool:=decide (k < l.length)&&(!(thA l k==thA l a)&&(clB l i k || behX p l i k))
def isX (p:El Zc) (l:List Acc) (a k:Nat):Bool:=(comeL (chX p l a) (chS l a) l.length).getD k false
theorem ZQ1 (p:El Zc) (l:List Acc) (a k:Nat):isB p l a k=isX p l a k:=by
 have e:chB p l a=chX p l a:=by
  funext i k
  unfold chB chX
  rw[ZQg]
 unfold isB isX
 rw[e]
 refine ZFh (fun j h=>?_) (fun k j h=>?_) k
 ·unfold chS at h
  rw[Bool.and_eq_true,decide_eq_true_eq] at h
  exact h.1
 ·unfold chX at h
  rw[Bool.and_eq_true,decide_eq_true_eq] at h
  exact h.1
def backX (p:El Zc) (l:List Acc) (a b:Nat):Bool:=thA l b==thA l a&&(List.range l.length).any fun k=>isX p l a k&&clB l k b
theorem ZPh (p:El Zc) (l:List Acc) (a b:Nat):backB p l a b=backX p l a b:=by
 unfold backB backX
 simp only[ZQ1]
end Go.Ev
end

section
open Go
namespace Go.Ev
theorem ZMo (p:El Zc):(ZA p).length≤(ofC p).length*(ofC p).length:=by
 unfold ZA delsFrom
 have:=ZpO (ZMc p (ofC p)) (List.range' 0 ((ofC p).length - 0))
 rw[List.length_range',Nat.sub_zero] at this
 exact this
theorem ZE9 {p:El Zc} {x:El Zd} (h:x∈ZA p):∃s r,s < (ofC p).length∧r < (ofC p).length∧stB' (ofC p) s=true∧delB p (ofC p) s r=true∧x=delPair (ofC p) s r:=by
 unfold ZA delsFrom at h
 obtain ⟨s,hs,hx⟩:=List.mem_flatMap.1 h
 rw[Nat.sub_zero,←List.range_eq_range'] at hs
 unfold delS at hx
 split at hx
 ·rename_i hst
  obtain ⟨r,hr,rfl⟩:=List.mem_map.1 hx
  obtain ⟨hr1,hr2⟩:=List.mem_filter.1 hr
  rw[←List.range_eq_range'] at hr1
  exact ⟨s,r,List.mem_range.1 hs,List.mem_range.1 hr1,hst,hr2,rfl⟩
 ·cases hx
theorem ZAH {p:El Zc} (h:smallAll p=true) {x:El Zd} (hx:x∈ZA p):openK p x=true∧openRK p x=true∧openR p x=openB p x:=by
 obtain ⟨s,r,hs,hr,h1,h2,rfl⟩:=ZE9 hx
 obtain ⟨t0,t1,hf,i0,i1⟩:=Zgm h hs
 have hf':flowOK (List.getD p.2 (Int.toNat (delPair (ofC p) s r).1) (dflt (.sl Za)))=true:=hf
 obtain ⟨f1,f2,f3,_⟩:=ZFj hf' (points:=[]) (by decide) (delPair (ofC p) s r).2.1 (delPair (ofC p) s r).2.2
 have hin:(decide ((0:Int)≤(delPair (ofC p) s r).1)&&decide ((delPair (ofC p) s r).1 < Int.ofNat (List.length p.2)))=true:=by
  rw[Bool.and_eq_true,decide_eq_true_eq,decide_eq_true_eq];exact ⟨t0,t1⟩
 unfold openK openRK openR openB
 rw[hin,f1,f2]
 exact ⟨rfl,rfl,f3⟩
theorem ZM8 {p:El Zc} (h:smallAll p=true) (hN:(ofC p).length≤20000) (hT:p.2.length≤100):
  ZS p=true∧Za8 p=true∧ZA p=Zj p∧Zrc (Zj p) (Zj p)=true∧Zbq p=true∧Zqu p=true∧ZpN p=Zw p∧Zrc (Zw p) (Zw p)=true:=by
 have hNN:(ofC p).length*(ofC p).length≤20000*20000:=Nat.mul_le_mul hN hN
 have hTN:p.2.length*((ofC p).length*(ofC p).length)≤100*(20000*20000):=Nat.mul_le_mul hT hNN
 have k1:ZS p=true:=by
  unfold ZS
  rw[h,decide_eq_true (show (ofC p).length < 1000000000 by omega),decide_eq_true (show p.2.length < 1000000000 by omega),decide_eq_true]
  ·rfl
  ·unfold limit;omega
 have k2:Za8 p=true:=by unfold Za8;rw[h,decide_eq_true (show (ofC p).length < 1000000 by omega)];rfl
 have e:=ZOT k1
 have hl:=ZMo p
 have hl2:(ZA p).length≤400000000:=by omega
 have k3:Zbq p=true:=by
  unfold Zbq
  rw[k1,e,decide_eq_true (Nat.lt_of_le_of_lt hl2 (by decide)),Bool.true_and,Bool.true_and]
  exact List.all_eq_true.2 fun x hx=>(ZAH h hx).1
 have k4:Zqu p=true:=by
  unfold Zqu
  rw[k2,decide_eq_true (Nat.lt_of_le_of_lt hl2 (by decide)),Bool.true_and,Bool.true_and]
  exact List.all_eq_true.2 fun x hx=>(ZAH h hx).2.1
 have e2:ZpN p=Zw p:=by
  unfold ZpN Zw
  rw[e]
  exact List.filter_congr fun x hx=>(ZAH h hx).2.2
 refine ⟨k1,k2,e.symm,decide_eq_true (by rw[e];exact Nat.lt_of_le_of_lt hl2 (by decide)),k3,k4,e2,decide_eq_true ?_⟩
 have:(Zw p).length≤(Zj p).length:=by unfold Zw;exact List.length_filter_le _ _
 rw[e] at this
 exact Nat.lt_of_le_of_lt (Nat.le_trans this hl2) (by decide)
def delBX (p:El Zc) (l:List Acc) (s r:Nat):Bool:=((thA l r==thA l s)&&ldB' l r)&&(fromX (thrOf p l s) (inA l s) (inA l r).toNat&&backX p l r s)
def delsX (p:El Zc) (l:List Acc):List (El Zd):=(List.range' 0 l.length).flatMap fun s=>if stB' l s then ((List.range' 0 l.length).filter fun r=>delBX p l s r).map (delPair l s) else []
theorem ZPk (p:El Zc):ZA p=delsX p (ofC p):=by
 unfold ZA delsFrom delsX delS
 rw[Nat.sub_zero]
 have:∀l s r,delB p l s r=delBX p l s r:=fun l s r=>by unfold delB delBX;rw[ZMe,ZPh]
 simp only[this]
def endsX (t:List (El Za)) (points:List Int) (s:Int) (j:Nat):Bool:=(comeL (stepB t points) (firstB t points s) t.length).getD j false
theorem ZL6 (t:List (El Za)) (points:List Int) (s:Int) (j:Nat):endsB t points s j=endsX t points s j:=ZFh (fun j=>ZHl) (fun k j=>ZHb) j
end Go.Ev
end

section
namespace Go.Ev
open Go
theorem Ztk {zs:List Int} {j:Nat} (h:j < zs.length):zs.toArray[j]! =zs[j]:=by simp[h]
theorem ZK7 {zs:List Int} {x:Int} :x∈Go.Lib.compact zs↔x∈zs:=by
 unfold Go.Lib.compact Go.Lib.compactUpTo
 rw[List.mem_map]
 constructor
 ·rintro ⟨j,hj,rfl⟩
  obtain ⟨h1,_⟩:=List.mem_filter.1 hj
  have hj:=List.mem_range.1 h1
  rw[Ztk hj]
  exact List.getElem_mem hj
 ·intro hx
  obtain ⟨j,hj,he⟩:=List.mem_iff_getElem.1 hx
  induction j using Nat.strongRecOn with
  | _ j ih=>
  by_cases hk:Go.Lib.keeps zs.toArray j=true
  ·exact ⟨j,List.mem_filter.2 ⟨List.mem_range.2 hj,hk⟩,by rw[Ztk hj,he]⟩
  ·unfold Go.Lib.keeps at hk
   simp only[ne_eq,decide_eq_true_eq,not_or,Decidable.not_not] at hk
   obtain ⟨h0,h1⟩:=hk
   have hj':j - 1 < zs.length:=by omega
   rw[Ztk hj,Ztk hj'] at h1
   exact ih (j - 1) (by omega) hj' (h1▸he)
theorem ZCJ {zs:List Int} (h:zs.Pairwise (· ≤ ·)):(Go.Lib.compact zs).Pairwise (· < ·):=by
 unfold Go.Lib.compact Go.Lib.compactUpTo
 have hg:=List.pairwise_iff_getElem.1 h
 refine List.pairwise_map.2 ((List.Pairwise.filter _ List.pairwise_lt_range).imp_of_mem ?_)
 intro i j hi hj hij
 obtain ⟨h1,_⟩:=List.mem_filter.1 hi
 obtain ⟨h2,h3⟩:=List.mem_filter.1 hj
 have hi:=List.mem_range.1 h1
 have hj:=List.mem_range.1 h2
 have hj':j - 1 < zs.length:=by omega
 unfold Go.Lib.keeps at h3
 simp only[ne_eq,decide_eq_true_eq] at h3
 rw[Ztk hi,Ztk hj]
 rw[Ztk hj,Ztk hj'] at h3
 have a1:zs[i]≤zs[j - 1]:=by
  by_cases e:i=j - 1
  ·subst e;exact Int.le_refl _
  ·exact hg i (j - 1) hi hj' (by omega)
 have a2:zs[j - 1]≤zs[j]:=hg (j - 1) j hj' hj (by omega)
 rcases h3 with h3 | h3
 ·omega
 ·have:zs[j]≠zs[j - 1]:=h3
  omega
@[reducible] def risL (l:List Int):List Int:=Go.Lib.compact (sorted l)
theorem ZNT (l:List Int):(sorted l).Pairwise (· ≤ ·):=by
 have:=List.pairwise_mergeSort (le:=fun x y:Int=>decide (x≤y)) (fun a b c h1 h2=>by simp at*;omega) (fun a b=>by simp;omega) l
 exact this.imp fun h=>by simpa using h
theorem ZMm {l:List Int} {x:Int} :x∈risL l↔x∈l:=by rw[ZK7,List.mem_mergeSort]
theorem ZAQ {l:List Int} :(risL l).Pairwise (· < ·):=ZCJ (ZNT l)
theorem ZzX {l:List Int} :(risL l).length≤l.length:=by
 have:=Go.Lib.compact_length_le (sorted l)
 rwa[List.length_mergeSort] at this
def putL (n:Int):List Int→List Int
 | []=>[n]
 | x :: r=>if x < n then x :: putL n r else if x=n then x :: r else n :: x :: r
theorem ZFf {n x:Int} :∀ {l:List Int},x∈putL n l↔x=n∨x∈l
 | []=>by simp[putL]
 | y :: r=>by
  unfold putL
  split
  ·rw[List.mem_cons,ZFf,List.mem_cons]
   constructor
   ·rintro (h | h | h) <;> simp[h]
   ·rintro (h | h | h) <;> simp[h]
  ·split
   ·rename_i h
    subst h
    simp
   ·simp
theorem Zz5 {n:Int} :∀ {l:List Int},l.Pairwise (· < ·)→(putL n l).Pairwise (· < ·)
 | [],_=>by simp[putL]
 | y :: r,h=>by
  obtain ⟨h1,h2⟩:=List.pairwise_cons.1 h
  unfold putL
  split
  ·refine List.pairwise_cons.2 ⟨fun z hz=>?_,Zz5 h2⟩
   rcases ZFf.1 hz with rfl | hz
   ·assumption
   ·exact h1 z hz
  ·split
   ·exact h
   ·refine List.pairwise_cons.2 ⟨fun z hz=>?_,h⟩
    rcases List.mem_cons.1 hz with rfl | hz
    ·omega
    ·have:=h1 z hz;omega
def putsL (acc:List Int) (l:List Int):List Int:=l.foldl (fun a n=>putL n a) acc
theorem ZwC {x:Int} :∀ {l acc:List Int},x∈putsL acc l↔x∈acc∨x∈l
 | [],acc=>by simp[putsL]
 | n :: r,acc=>by
  show x∈putsL (putL n acc) r↔_
  rw[ZwC,ZFf,List.mem_cons]
  constructor
  ·rintro ((h | h) | h) <;> simp[h]
  ·rintro (h | h | h) <;> simp[h]
theorem Znv:∀ {l acc:List Int},acc.Pairwise (· < ·)→(putsL acc l).Pairwise (· < ·)
 | [],acc,h=>h
 | n :: r,acc,h=>Znv (l:=r) (Zz5 h)
end Go.Ev
end

section
open Go
namespace Go.Ev
section
variable {α:Type} (U:List Int→α→Bool)
def stepG (pts:List Int) (l:List α) (acc:Int×List α) (k:Nat):Int×List α:=if (l.filter (U (pts++[(k:Int)]))).length < acc.2.length then ((k:Int),l.filter (U (pts++[(k:Int)]))) else acc
def bestFrom (n:Nat) (pts:List Int) (l:List α) (k:Nat) (acc:Int×List α):Int×List α:=(List.range' k (n - k)).foldl (stepG U pts l) acc
def bestG (n:Nat) (pts:List Int) (l:List α):Int×List α:=bestFrom U n pts l 0 (0,l)
def greedyL (n:Nat):Nat→List Int→List α→List Int
 | 0,pts,_=>pts
 | f+1,pts,l=>if l.length=0 then pts else greedyL n f (pts++[(bestG U n pts l).1]) (bestG U n pts l).2
def pruneL (all:List α):List Int→List Int→List Int
 | done,[]=>done
 | done,x :: r=>if (all.filter (U (done++r))).length=0 then pruneL all done r else pruneL all (done++[x]) r
variable {U}
theorem ZyS {n:Nat} {pts:List Int} {l:List α} {acc:Int×List α} :bestFrom U n pts l n acc=acc:=by unfold bestFrom;rw[Nat.sub_self];rfl
theorem ZwO {n:Nat} {pts:List Int} {l:List α} {k:Nat} (hk:k < n) {acc:Int×List α} :bestFrom U n pts l k acc=bestFrom U n pts l (k+1) (stepG U pts l acc k):=by
 unfold bestFrom
 rw[show n - k=(n - (k+1))+1 by omega,List.range'_succ,List.foldl_cons]
theorem ZJw {n:Nat} {pts:List Int} {l:List α} :∀(m k:Nat),k+m=n→∀acc:Int×List α,
  ((bestFrom U n pts l k acc)=acc∨∃j:Nat,k≤j∧j < n∧(bestFrom U n pts l k acc).1=(j:Int)∧(bestFrom U n pts l k acc).2=l.filter (U (pts++[(j:Int)]))∧(bestFrom U n pts l k acc).2.length < acc.2.length)∧
  (bestFrom U n pts l k acc).2.length≤acc.2.length∧∀j:Nat,k≤j→j < n→(bestFrom U n pts l k acc).2.length≤(l.filter (U (pts++[(j:Int)]))).length:=by
 intro m
 induction m with
 | zero=>
  intro k hk acc
  have:k=n:=by omega
  subst this
  rw[ZyS]
  exact ⟨.inl rfl,Nat.le_refl _,fun j h1 h2=>by omega⟩
 | succ m ih=>
  intro k hk acc
  rw[ZwO (by omega)]
  obtain ⟨h1,h2,h3⟩:=ih (k+1) (by omega) (stepG U pts l acc k)
  unfold stepG at h1 h2 h3 ⊢
  by_cases hc:(l.filter (U (pts++[(k:Int)]))).length < acc.2.length
  ·rw[if_pos hc] at h1 h2 h3 ⊢
   refine ⟨.inr ?_,by simp only at h2;omega,fun j j1 j2=>?_⟩
   ·rcases h1 with h1 | ⟨j,j1,j2,j3,j4,j5⟩
    ·rw[h1];exact ⟨k,Nat.le_refl _,by omega,rfl,rfl,hc⟩
    ·exact ⟨j,by omega,j2,j3,j4,by simp only at j5;omega⟩
   ·by_cases e:j=k
    ·subst e;exact h2
    ·exact h3 j (by omega) j2
  ·rw[if_neg hc] at h1 h2 h3 ⊢
   refine ⟨?_,h2,fun j j1 j2=>?_⟩
   ·rcases h1 with h1 | ⟨j,j1,j2,j3⟩
    ·exact .inl h1
    ·exact .inr ⟨j,by omega,j2,j3⟩
   ·by_cases e:j=k
    ·subst e;omega
    ·exact h3 j (by omega) j2
def Cuts (U:List Int→α→Bool) (n:Nat) (l:List α):Prop:=∀x∈l,∃k:Nat,k < n∧∀pts:List Int,U (pts++[(k:Int)]) x=false
theorem ZN5 {p:α→Bool} {l:List α} {x:α} (hx:x∈l) (hp:p x=false):(l.filter p).length < l.length:=by
 induction l with
 | nil=>cases hx
 | cons y r ih=>
  rw[List.filter_cons]
  rcases List.mem_cons.1 hx with rfl | hx
  ·rw[hp,if_neg Bool.false_ne_true]
   have:=List.length_filter_le p r
   show (List.filter p r).length < r.length+1
   omega
  ·have:=ih hx
   split
   ·show (List.filter p r).length+1 < r.length+1
    omega
   ·show (List.filter p r).length < r.length+1
    omega
theorem ZNe {n:Nat} {pts:List Int} {l:List α} (hc:Cuts U n l) (hl:0 < l.length):
  ∃j:Nat,j < n∧(bestG U n pts l).1=(j:Int)∧(bestG U n pts l).2=l.filter (U (pts++[(j:Int)]))∧(bestG U n pts l).2.length < l.length:=by
 obtain ⟨h1,h2,h3⟩:=ZJw (U:=U) (n:=n) (pts:=pts) (l:=l) n 0 (by omega) (0,l)
 have hx:l[0]∈l:=List.getElem_mem hl
 obtain ⟨k,hk,hU⟩:=hc _ hx
 have h4:=h3 k (Nat.zero_le _) hk
 have h5:=ZN5 hx (hU pts)
 unfold bestG
 rcases h1 with h1 | ⟨j,_,j2,j3,j4,j5⟩
 ·rw[h1] at h4
  simp only at h4
  omega
 ·exact ⟨j,j2,j3,j4,j5⟩
theorem ZPc {n:Nat} {l m:List α} (h:Cuts U n l) (hs:∀x∈m,x∈l):Cuts U n m:=fun x hx=>h x (hs x hx)
def without (l:List Int) (n:Int):List Int:=l.filter fun x=>x !=n
def pruneStep (U:List Int→α→Bool) (all:List α) (l:List Int) (i:Nat):List Int:=if l.contains (i:Int)=true∧(all.filter (U (without l (i:Int)))).length=0 then without l (i:Int) else l
def pruneFrom (U:List Int→α→Bool) (all:List α) (n i:Nat) (l:List Int):List Int:=(List.range' i (n - i)).foldl (pruneStep U all) l
theorem Zwn {all:List α} {n:Nat} {l:List Int} :pruneFrom U all n n l=l:=by unfold pruneFrom;rw[Nat.sub_self];rfl
theorem Zut {all:List α} {n i:Nat} (hi:i < n) {l:List Int} :pruneFrom U all n i l=pruneFrom U all n (i+1) (pruneStep U all l i):=by
 unfold pruneFrom
 rw[show n - i=(n - (i+1))+1 by omega,List.range'_succ,List.foldl_cons]
theorem Zy5 {l:List Int} {n:Int} (h:n∉l):without l n=l:=List.filter_eq_self.2 fun x hx=>by simp;rintro rfl;exact h hx
theorem ZLf {done r:List Int} {n:Int} (h1:n∉done) (h2:n∉r):without (done++n :: r) n=done++r:=by
 unfold without
 rw[List.filter_append,List.filter_cons]
 simp only[bne_self_eq_false,Bool.false_eq_true,if_false]
 have e1:done.filter (fun x=>x !=n)=done:=Zy5 h1
 have e2:r.filter (fun x=>x !=n)=r:=Zy5 h2
 rw[e1,e2]
theorem ZPY {all:List α} {n:Nat} :∀(m i:Nat),i+m=n→∀done rest:List Int,(∀x∈done,x < (i:Int))→(∀x∈rest,(i:Int)≤x∧x < (n:Int))→rest.Pairwise (· < ·)→pruneFrom U all n i (done++rest)=pruneL U all done rest:=by
 intro m
 induction m with
 | zero=>
  intro i hi done rest h1 h2 h3
  have:i=n:=by omega
  subst this
  rw[Zwn]
  cases rest with
  | nil=>simp[pruneL]
  | cons x r=>have:=h2 x (by simp);omega
 | succ m ih=>
  intro i hi done rest h1 h2 h3
  rw[Zut (by omega)]
  have hdi:(i:Int)∉done:=fun h=>by have:=h1 _ h;omega
  cases rest with
  | nil=>
   have:pruneStep U all (done++[]) i=done++[]:=by
    unfold pruneStep
    rw[if_neg]
    rintro ⟨h,_⟩
    rw[List.append_nil,List.contains_iff_mem] at h
    exact hdi h
   rw[this]
   exact ih (i+1) (by omega) done [] (fun x hx=>by have:=h1 x hx;omega) (fun x hx=>by cases hx) .nil
  | cons x r=>
   obtain ⟨p1,p2⟩:=List.pairwise_cons.1 h3
   have hx:=h2 x (by simp)
   by_cases hxi:x=(i:Int)
   ·subst hxi
    have hri:(i:Int)∉r:=fun h=>by have:=p1 _ h;omega
    have hw:=ZLf hdi hri
    have hr':∀y∈r,((i+1:Nat):Int)≤y∧y < (n:Int):=fun y hy=>by have:=p1 y hy;have:=h2 y (by simp[hy]);omega
    unfold pruneStep
    rw[hw,pruneL]
    by_cases hc:(all.filter (U (done++r))).length=0
    ·rw[if_pos ⟨by rw[List.contains_iff_mem];simp,hc⟩,if_pos hc]
     exact ih (i+1) (by omega) done r (fun y hy=>by have:=h1 y hy;omega) hr' p2
    ·rw[if_neg fun h=>hc h.2,if_neg hc]
     have:=ih (i+1) (by omega) (done++[(i:Int)]) r (fun y hy=>by
      rcases List.mem_append.1 hy with hy | hy
      ·have:=h1 y hy;omega
      ·rw[List.mem_singleton] at hy;omega) hr' p2
     rw[List.append_assoc] at this
     exact this
   ·have hni:(i:Int)∉done++x :: r:=fun h=>by
     rcases List.mem_append.1 h with h | h
     ·exact hdi h
     ·rcases List.mem_cons.1 h with h | h
      ·exact hxi h.symm
      ·have:=p1 _ h;omega
    have:pruneStep U all (done++x :: r) i=done++x :: r:=by
     unfold pruneStep
     rw[if_neg]
     rintro ⟨h,_⟩
     rw[List.contains_iff_mem] at h
     exact hni h
    rw[this]
    refine ih (i+1) (by omega) done (x :: r) (fun y hy=>by have:=h1 y hy;omega) (fun y hy=>?_) h3
    have hy2:=h2 y hy
    refine ⟨?_,hy2.2⟩
    rcases List.mem_cons.1 hy with rfl | hy
    ·omega
    ·have:=p1 y hy;omega
theorem ZxD {all:List α} :∀(done rest:List Int),(pruneL U all done rest).length≤done.length+rest.length∧∀x∈pruneL U all done rest,x∈done∨x∈rest
 | done,[]=>by simp[pruneL]
 | done,x :: r=>by
  unfold pruneL
  split
  ·obtain ⟨h1,h2⟩:=ZxD (all:=all) done r
   exact ⟨by simp;omega,fun y hy=>(h2 y hy).imp id fun h=>by simp[h]⟩
  ·obtain ⟨h1,h2⟩:=ZxD (all:=all) (done++[x]) r
   refine ⟨by simp at h1 ⊢;omega,fun y hy=>?_⟩
   rcases h2 y hy with h | h
   ·rcases List.mem_append.1 h with h | h
    ·exact .inl h
    ·rw[List.mem_singleton] at h;simp[h]
   ·simp[h]
end
end Go.Ev
end

section
open Go
namespace Go.Ev
abbrev PairD:=El Zd
theorem ZKx {a b:Nat} (h:a < b):decide (Int.ofNat a < Int.ofNat b)=true:=decide_eq_true (Int.ofNat_lt.2 h)
theorem ZFD {a b:Nat} (h:¬a < b):decide (Int.ofNat a < Int.ofNat b)=false:=decide_eq_false fun h'=>h (Int.ofNat_lt.1 h')
theorem ZOK {y:Int} {n:Nat} (h0:0≤y) (h:y < (n:Int)):y.toNat < n:=by omega
noncomputable def uB (t:List (El Za)) (pts:List Int) (x:PairD):Bool:=decide ((0:Int)≤x.2.2∧(show Int from x.2.2) < (t.length:Int))&&endsB t pts x.2.1 (Int.toNat x.2.2)
def uX (t:List (El Za)) (pts:List Int) (x:PairD):Bool:=decide ((0:Int)≤x.2.2∧(show Int from x.2.2) < (t.length:Int))&&endsX t pts x.2.1 (Int.toNat x.2.2)
theorem ZQu (t:List (El Za)):uB t=uX t:=by
 funext pts x
 unfold uB uX
 rw[ZL6]
theorem ZQv {t:List (El Za)} {pts:List Int} {x:PairD} (h:(show Int from x.2.2)∈pts):uB t pts x=false:=by
 unfold uB
 by_cases hr:(0:Int)≤x.2.2∧(show Int from x.2.2) < (t.length:Int)
 ·rw[decide_eq_true hr,Bool.true_and,Bool.eq_false_iff]
  intro he
  unfold endsB at he
  have hc:∀j,pts.contains ((j:Nat):Int)=true→firstB t pts x.2.1 j=false∧∀k,stepB t pts k j=false:=fun j hj=>by
   unfold firstB stepB
   rw[hj]
   simp
  have hj:pts.contains (((Int.toNat x.2.2:Nat)):Int)=true:=by
   rw[List.contains_iff_mem,Int.toNat_of_nonneg hr.1]
   exact h
  cases ZdY.1 he with
  | start h=>rw[(hc _ hj).1] at h;cases h
  | step _ h=>rw[(hc _ hj).2] at h;cases h
 ·rw[decide_eq_false hr,Bool.false_and]
theorem ZHc (l:List Int):risL l=putsL [] l:=ZoI ZAQ (Znv .nil) fun x=>by rw[ZMm,ZwC];simp
def ofB (t:Int) (x:PairD):Bool:=(show Int from x.1)==t
def missL (U:List Int→PairD→Bool) (pts:List Int) (l:List PairD):List PairD:=l.filter (U pts)
def inR (n:Nat) (k:Int):Bool:=decide (0≤k)&&decide (k < (n:Int))
def pruneV (U:List Int→PairD→Bool) (n:Nat) (all:List PairD) (pts:List Int):List Int:=pruneL U all [] (putsL [] (pts.filter (inR n)))
def greedyV (U:List Int→PairD→Bool) (n:Nat) (l:List PairD):List Int:=putsL [] (greedyL U n l.length [] l)
def shorter (a b:List Int):List Int:=if b.length < a.length then b else a
def pointsV (U:List Int→PairD→Bool) (n:Nat) (all op:List PairD):List Int:=
 shorter (shorter (pruneV U n all (greedyV U n op)) (pruneV U n all (op.map fun x=>(show Int from x.2.1)+1))) (pruneV U n all (op.map fun x=>x.2.2))
def cutOK (p:El Zc):Bool:=smallAll p&&(decide ((ofC p).length≤20000)&&decide (p.2.length≤100))
def thrT (p:El Zc) (t:Int):List (El Za):=List.getD p.2 (Int.toNat t) (dflt (.sl Za))
def rightT (p:El Zc) (t:Int):Bool:=decide ((0:Int)≤t)&&(decide (t < (p.2.length:Int))&&decide (checkC p=0))
end Go.Ev
end

section
open Go
namespace Go.Ev
def Z6 (l:List (El Zd)) (t:Int):List (El Zd):=l.filter (ofB t)
def ZcB (l:List (El Zd)) (t:Int):Bool:=decide (l.length < 1000000000000)
theorem ZPt (l:List (El Zd)) (t:Int) (hk:ZcB l t=true):Goes (Zwu l t) (ZIz l t) (Z6 l t):=by
 have hN:=of_decide_eq_true hk
 have loop:∀k,k≤l.length→∀out:List (El Zd),out.length≤k→Goes (Zwu l t) (.jmp (.l4 (k:Int) out)) (out++(l.drop k).filter (ofB t)):=by
  refine down ?_ fun k hk ih=>?_
  ·intro out ho
   rw[Zi,Zwu,Ze,if_neg (by rw[Zv (Nat.lt_irrefl _)];decide),List.drop_length]
   simp only[List.filter_nil,List.append_nil]
   exact .leaf
  ·intro out ho
   have b1:Nat.ble ((out.length+1)*24) limit=true:=Nat.ble_eq_true_of_le (by unfold limit;omega)
   rw[Zi,Zwu,ZN hk,List.filter_cons]
   simp only[Ze,ZO hk,nng,Bool.and_self,if_true,Int.toNat_natCast,ZH hk,b1,Zo (k:=k) (by omega)]
   by_cases c:ofB t l[k]=true
   ·have c':=c
    unfold ofB at c'
    rw[if_pos c',if_pos c]
    have:=ih (out++[l[k]]) (by simp;omega)
    rw[List.append_assoc] at this
    exact this
   ·have c':=c
    unfold ofB at c'
    rw[if_neg c',if_neg c]
    exact ih out (by omega)
 have:=loop 0 (Nat.zero_le _) [] (Nat.zero_le _)
 rw[List.nil_append,List.drop_zero] at this
 exact this
end Go.Ev
end

section
open Go Go.Ev
namespace Go.Ev
noncomputable section
noncomputable def Zw0:Run:=entG ZoO ZzP (fun a=>ZcB a.1 a.2.1) (fun a=>Z6 a.1 a.2.1)
theorem Zwk:EntOK Go.Proofs.Tryz.prog 25 Zw0:=ZI (tb:=ZAz) (c:=ZzQ) ZOE (by kernel_rfl) (by kernel_rfl) (by kernel_rfl) (fun a=>by kernel_rfl) fun ⟨l,t,_⟩ hk=>Zl (c:=ZzQ) (K:=fun v=>(ZzP v,tps (toForms ZoO (l,t,())))) (S:=Zpo l t) (by kernel_rfl) (ZOf l t) (ZNI l t) (ZPt l t hk)
end
end Go.Ev
end

section
open Go Go.Ev
namespace Go.Ev
noncomputable section
def Zb9:Sig:=[(false,(.int .i64))]
noncomputable def Zj5:Tbl:=[]
theorem Zx5:∀p∈Zj5,EntOK Go.Proofs.Tryz.prog p.1 p.2:=Zt
noncomputable def Zgy:Code:=Go.Proofs.Tryz.f114.body.getD .skip
def ZiO:Tb:=[]
def Zrd (x:Int):Empty→JT Empty (Bool):=fun j=>nomatch j
def ZoD (x:Int):JT Empty (Bool):=.leaf (x !=x)
def ZbW (x:Int):Bool:=(x !=x)
theorem ZzF (x:Int):Goes (Zrd x) (ZoD x) (ZbW x):=Goes.leaf
def Zgw:Bool→AV:=fun (r:Bool)=>.d .bool r
def ZbX (x:Int):Empty→Nat×St:=fun j=>nomatch j
theorem ZxG (x:Int) (L:Lt):entryA Go.Proofs.Tryz.prog (clOf Zj5) ZiO Go.Proofs.Tryz.f114 Zgy L (toForms Zb9 (x,()))=(ZoD x).run (fun v=>some (Zgw v,tps (toForms Zb9 (x,())))) fun j=>L (ZbX x j).1 (ZbX x j).2:=by kernel_rfl
theorem Zxw (x:Int):∀(L:Lt) (j:Empty),procOf (procsF Go.Proofs.Tryz.prog (clOf Zj5) ZiO Go.Proofs.Tryz.f114 Zgy (toForms Zb9 (x,()))) (ZbX x j).1 L (ZbX x j).2=(Zrd x j).run (fun v=>some (Zgw v,tps (toForms Zb9 (x,())))) fun j=>L (ZbX x j).1 (ZbX x j).2:=fun L j=>nomatch j
noncomputable def Zrh:Run:=entT Zb9 Zgw (fun a=>ZbW a.1)
theorem ZxS:EntOK Go.Proofs.Tryz.prog 114 Zrh:=Zaw (tb:=ZiO) (c:=Zgy) Zx5 (by kernel_rfl) (by kernel_rfl) (by kernel_rfl) (fun a=>by kernel_rfl) fun ⟨x,_⟩=>Zl (c:=Zgy) (K:=fun v=>(Zgw v,tps (toForms Zb9 (x,())))) (S:=ZbX x) (by kernel_rfl) (ZxG x) (Zxw x) (ZzF x)
end
end Go.Ev
end

section
open Go Go.Ev
namespace Go.Ev
noncomputable section
def Zct:Sig:=[(false,(.int .i64)),(false,(.int .i64))]
noncomputable def Zlj:Tbl:=[(114,Zrh)]
theorem Zzx:∀p∈Zlj,EntOK Go.Proofs.Tryz.prog p.1 p.2:=Zg ZxS (Zt)
noncomputable def Zh6:Code:=Go.Proofs.Tryz.f81.body.getD .skip
def Zkb:Tb:=[]
def Zr3 (x:Int) (y:Int):Empty→JT Empty (Bool):=fun j=>nomatch j
def Zrm (x:Int) (y:Int):JT Empty (Bool):=.br (ZbW x) (.br (! (ZbW y)) (.leaf true) (.leaf (decide (x < y)))) (.leaf (decide (x < y)))
def ZeH (x:Int) (y:Int):Bool:=bif (ZbW x) then bif (! (ZbW y)) then true else (decide (x < y)) else (decide (x < y))
theorem ZAV (x:Int) (y:Int):Goes (Zr3 x y) (Zrm x y) (ZeH x y):=Goes.br (Goes.br (Goes.leaf) (Goes.leaf)) (Goes.leaf)
def Zir:Bool→AV:=fun (r:Bool)=>.d .bool r
def Zcd (x:Int) (y:Int):Empty→Nat×St:=fun j=>nomatch j
theorem ZzG (x:Int) (y:Int) (L:Lt):entryA Go.Proofs.Tryz.prog (clOf Zlj) Zkb Go.Proofs.Tryz.f81 Zh6 L (toForms Zct (x,y,()))=(Zrm x y).run (fun v=>some (Zir v,tps (toForms Zct (x,y,())))) fun j=>L (Zcd x y j).1 (Zcd x y j).2:=by kernel_rfl
theorem Zzo (x:Int) (y:Int):∀(L:Lt) (j:Empty),procOf (procsF Go.Proofs.Tryz.prog (clOf Zlj) Zkb Go.Proofs.Tryz.f81 Zh6 (toForms Zct (x,y,()))) (Zcd x y j).1 L (Zcd x y j).2=(Zr3 x y j).run (fun v=>some (Zir v,tps (toForms Zct (x,y,())))) fun j=>L (Zcd x y j).1 (Zcd x y j).2:=fun L j=>nomatch j
noncomputable def Ztj:Run:=entT Zct Zir (fun a=>ZeH a.1 a.2.1)
theorem Zzu:EntOK Go.Proofs.Tryz.prog 81 Ztj:=Zaw (tb:=Zkb) (c:=Zh6) Zzx (by kernel_rfl) (by kernel_rfl) (by kernel_rfl) (fun a=>by kernel_rfl) fun ⟨x,y,_⟩=>Zl (c:=Zh6) (K:=fun v=>(Zir v,tps (toForms Zct (x,y,())))) (S:=Zcd x y) (by kernel_rfl) (ZzG x y) (Zzo x y) (ZAV x y)
end
end Go.Ev
end

section
open Go Go.Ev
namespace Go.Ev
noncomputable section
def Zbp:Sig:=[(false,(.int .i64))]
noncomputable def Zg0:Tbl:=[]
theorem ZtY:∀p∈Zg0,EntOK Go.Proofs.Tryz.prog p.1 p.2:=Zt
noncomputable def ZdW:Code:=Go.Proofs.Tryz.f82.body.getD .skip
def Zgb:Tb:=[]
def ZlM (x:Int):Empty→JT Empty (Bool):=fun j=>nomatch j
def Zkd (x:Int):JT Empty (Bool):=.leaf (x !=x)
def Zbw (x:Int):Bool:=(x !=x)
theorem Zvv (x:Int):Goes (ZlM x) (Zkd x) (Zbw x):=Goes.leaf
def ZdR:Bool→AV:=fun (r:Bool)=>.d .bool r
def Za9 (x:Int):Empty→Nat×St:=fun j=>nomatch j
theorem ZtW (x:Int) (L:Lt):entryA Go.Proofs.Tryz.prog (clOf Zg0) Zgb Go.Proofs.Tryz.f82 ZdW L (toForms Zbp (x,()))=(Zkd x).run (fun v=>some (ZdR v,tps (toForms Zbp (x,())))) fun j=>L (Za9 x j).1 (Za9 x j).2:=by kernel_rfl
theorem Zt1 (x:Int):∀(L:Lt) (j:Empty),procOf (procsF Go.Proofs.Tryz.prog (clOf Zg0) Zgb Go.Proofs.Tryz.f82 ZdW (toForms Zbp (x,()))) (Za9 x j).1 L (Za9 x j).2=(ZlM x j).run (fun v=>some (ZdR v,tps (toForms Zbp (x,())))) fun j=>L (Za9 x j).1 (Za9 x j).2:=fun L j=>nomatch j
noncomputable def ZlJ:Run:=entT Zbp ZdR (fun a=>Zbw a.1)
theorem Zt0:EntOK Go.Proofs.Tryz.prog 82 ZlJ:=Zaw (tb:=Zgb) (c:=ZdW) ZtY (by kernel_rfl) (by kernel_rfl) (by kernel_rfl) (fun a=>by kernel_rfl) fun ⟨x,_⟩=>Zl (c:=ZdW) (K:=fun v=>(ZdR v,tps (toForms Zbp (x,())))) (S:=Za9 x) (by kernel_rfl) (ZtW x) (Zt1 x) (Zvv x)
end
end Go.Ev
end

section
open Go Go.Ev
namespace Go.Ev
noncomputable section
def Z2:Sig:=[(false,(.sl (.int .i64))),(false,(.int .i64))]
noncomputable def Zbs:Tbl:=[(81,Ztj),(82,ZlJ)]
theorem Zh8:∀p∈Zbs,EntOK Go.Proofs.Tryz.prog p.1 p.2:=Zg Zzu (Zg Zt0 (Zt))
noncomputable def ZaM:Code:=Go.Proofs.Tryz.f48.body.getD .skip
def Zbo:Tb:=[(4,⟨[0,1,6,7,8,42,48,50,51],[]⟩)]
inductive Zar where | l4 (i:Int) (j_:Int)
def Z8 (x:List Int) (target:Int):Zar→JT Zar (Int×Bool) |.l4 i j_=>.br (decide (i < j_)) (.br ((decide ((0:Int)≤(IntKind.i64.wrap (Int.fdiv (IntKind.u64.wrap (IntKind.i64.wrap (i+j_))) (2 ^ (min 1 (IntKind.u64).bits))))))&&(decide ((IntKind.i64.wrap (Int.fdiv (IntKind.u64.wrap (IntKind.i64.wrap (i+j_))) (2 ^ (min 1 (IntKind.u64).bits)))) < (Int.ofNat (List.length x))))) (.br (ZeH (List.getD x (Int.toNat (IntKind.i64.wrap (Int.fdiv (IntKind.u64.wrap (IntKind.i64.wrap (i+j_))) (2 ^ (min 1 (IntKind.u64).bits))))) (dflt (.int .i64))) target) (.jmp (.l4 (IntKind.i64.wrap ((IntKind.i64.wrap (Int.fdiv (IntKind.u64.wrap (IntKind.i64.wrap (i+j_))) (2 ^ (min 1 (IntKind.u64).bits))))+(1:Int))) j_)) (.jmp (.l4 i (IntKind.i64.wrap (Int.fdiv (IntKind.u64.wrap (IntKind.i64.wrap (i+j_))) (2 ^ (min 1 (IntKind.u64).bits))))))) (.no)) (.br (decide (i < (Int.ofNat (List.length x)))) (.br ((decide ((0:Int)≤i))&&(decide (i < (Int.ofNat (List.length x))))) (.br ((List.getD x (Int.toNat i) (dflt (.int .i64)))==target) (.leaf (i,true)) (.br ((decide ((0:Int)≤i))&&(decide (i < (Int.ofNat (List.length x))))) (.br (Zbw (List.getD x (Int.toNat i) (dflt (.int .i64)))) (.leaf (i,(Zbw target))) (.leaf (i,false))) (.no))) (.no)) (.leaf (i,false)))
def ZcG (x:List Int) (target:Int):JT Zar (Int×Bool):=.jmp (.l4 (0:Int) (Int.ofNat (List.length x)))
def ZaN:Int×Bool→AV:=fun (r:Int×Bool)=>.tu [.d (.int .i64) r.1,.d .bool r.2]
def ZV (x:List Int) (target:Int):Zar→Nat×St |.l4 i j_=>(4,⟨mkTm 54 [(0,.d (.sl (.int .i64)) x),(1,.d (.int .i64) target),(6,.d (.int .i64) (Int.ofNat (List.length x))),(7,.d (.int .i64) i),(8,.d (.int .i64) j_)],[]⟩)
theorem Zie (x:List Int) (target:Int) (L:Lt):entryA Go.Proofs.Tryz.prog (clOf Zbs) Zbo Go.Proofs.Tryz.f48 ZaM L (toForms Z2 (x,target,()))=(ZcG x target).run (fun v=>some (ZaN v,tps (toForms Z2 (x,target,())))) fun j=>L (ZV x target j).1 (ZV x target j).2:=by kernel_rfl
theorem Zh0 (x:List Int) (target:Int):∀(L:Lt) (j:Zar),procOf (procsF Go.Proofs.Tryz.prog (clOf Zbs) Zbo Go.Proofs.Tryz.f48 ZaM (toForms Z2 (x,target,()))) (ZV x target j).1 L (ZV x target j).2=(Z8 x target j).run (fun v=>some (ZaN v,tps (toForms Z2 (x,target,())))) fun j=>L (ZV x target j).1 (ZV x target j).2 | L,.l4 i j_=>by kernel_rfl
end
end Go.Ev
end

section
open Go
namespace Go.Ev
def ZM (x:List Int) (target:Int):Int×Bool:=(((x.countP fun y=>decide (y < target)):Nat),x.contains target)
def Z7 (x:List Int) (target:Int):Bool:=decide (x.Pairwise (· < ·))&&decide (x.length < 4611686018427387904)
theorem ZQP {a b:Nat} (h:a+b < 9223372036854775807):IntKind.i64.wrap (Int.fdiv (IntKind.u64.wrap (IntKind.i64.wrap ((a:Int)+(b:Int)))) (2 ^ (min 1 (IntKind.u64).bits)))=(((a+b) / 2:Nat):Int):=by
 have e1:IntKind.i64.wrap ((a:Int)+(b:Int))=((a+b:Nat):Int):=by rw[wrap_i64 (by omega) (by omega)];omega
 have e2:IntKind.u64.wrap ((a+b:Nat):Int)=((a+b:Nat):Int):=ZzU (by omega)
 have e3:(2:Int) ^ (min 1 (IntKind.u64).bits)=2:=by decide
 rw[e1,e2,e3,Int.fdiv_eq_ediv_of_nonneg _ (by decide),wrap_i64 (by omega) (by omega)]
 omega
theorem ZH7 {x:List Int} {t:Int} {lo:Nat} (hlo:lo≤x.length) (h1:∀j (h:j < x.length),j < lo→x[j] < t) (h2:∀j (h:j < x.length),lo≤j→t≤x[j]):(x.countP fun y=>decide (y < t))=lo:=by
 have e:x=x.take lo++x.drop lo:=(List.take_append_drop lo x).symm
 rw[e,List.countP_append]
 have a:(x.take lo).countP (fun y=>decide (y < t))=lo:=by
  have:(x.take lo).countP (fun y=>decide (y < t))=(x.take lo).length:=List.countP_eq_length.2 fun y hy=>by
   obtain ⟨j,hj,rfl⟩:=List.mem_iff_getElem.1 hy
   rw[List.getElem_take]
   rw[List.length_take] at hj
   exact decide_eq_true (h1 j (by omega) (by omega))
  rw[this,List.length_take];omega
 have b:(x.drop lo).countP (fun y=>decide (y < t))=0:=List.countP_eq_zero.2 fun y hy=>by
  obtain ⟨j,hj,rfl⟩:=List.mem_iff_getElem.1 hy
  rw[List.getElem_drop]
  rw[List.length_drop] at hj
  have:=h2 (lo+j) (by omega) (by omega)
  simpa using this
 rw[a,b,Nat.add_zero]
theorem Zix (x:List Int) (target:Int) (hk:Z7 x target=true):Goes (Z8 x target) (ZcG x target) (ZM x target):=by
 unfold Z7 at hk
 rw[Bool.and_eq_true,decide_eq_true_eq,decide_eq_true_eq] at hk
 obtain ⟨hp,hn⟩:=hk
 have hg:=List.pairwise_iff_getElem.1 hp
 have vless:∀a b:Int,ZeH a b=decide (a < b):=fun a b=>by
  unfold ZeH ZbW
  simp
 have vnan:∀a:Int,Zbw a=false:=fun a=>by unfold Zbw;simp
 have fin:∀lo:Nat,lo≤x.length→(∀j (h:j < x.length),j < lo→x[j] < target)→(∀j (h:j < x.length),lo≤j→target≤x[j])→Goes (Z8 x target) (.jmp (.l4 (lo:Int) (lo:Int))) (ZM x target):=by
  intro lo hlo h1 h2
  have hc:=ZH7 hlo h1 h2
  have hv:ZM x target=((lo:Int),x.contains target):=by unfold ZM;rw[hc]
  rw[hv,Zi,Z8,Ze,if_neg (by simp),Ze]
  have hcon:∀h:lo < x.length,x[lo]≠target→x.contains target=false:=fun h hne=>by
   rw[Bool.eq_false_iff]
   intro hm
   rw[List.contains_iff_mem] at hm
   obtain ⟨j,hj,he⟩:=List.mem_iff_getElem.1 hm
   rcases Nat.lt_trichotomy j lo with hjl | rfl | hjl
   ·have:=h1 j hj hjl;omega
   ·exact hne he
   ·have:=hg lo j h hj hjl
    have:=h2 lo h (Nat.le_refl _)
    omega
  by_cases hl:lo < x.length
  ·rw[if_pos (ZO hl)]
   simp only[Ze,nng,ZO hl,Bool.and_self,if_true,Int.toNat_natCast,ZH hl,vnan]
   by_cases he:x[lo]=target
   ·rw[if_pos (by simpa using he),show x.contains target=true from List.contains_iff_mem.2 (he▸List.getElem_mem hl)]
    exact .leaf
   ·rw[if_neg (by simpa using he),if_neg (by decide),hcon hl he]
    exact .leaf
  ·have:lo=x.length:=by omega
   subst this
   rw[if_neg (by rw[Zv (Nat.lt_irrefl _)];decide)]
   have:x.contains target=false:=by
    rw[Bool.eq_false_iff]
    intro hm
    rw[List.contains_iff_mem] at hm
    obtain ⟨j,hj,he⟩:=List.mem_iff_getElem.1 hm
    have:=h1 j hj hj
    omega
   rw[this]
   exact .leaf
 have loop:∀m lo hi:Nat,hi - lo≤m→lo≤hi→hi≤x.length→(∀j (h:j < x.length),j < lo→x[j] < target)→(∀j (h:j < x.length),hi≤j→target≤x[j])→Goes (Z8 x target) (.jmp (.l4 (lo:Int) (hi:Int))) (ZM x target):=by
  intro m
  induction m with
  | zero=>
   intro lo hi hm hlh hhi h1 h2
   have:lo=hi:=by omega
   subst this
   exact fin lo hhi h1 h2
  | succ m ih=>
   intro lo hi hm hlh hhi h1 h2
   by_cases he:lo=hi
   ·subst he
    exact fin lo hhi h1 h2
   have hlt:lo < hi:=by omega
   have hM:(lo+hi) / 2 < x.length:=by omega
   rw[Zi,Z8,ZQP (by omega),Ze,if_pos (decide_eq_true (by omega))]
   simp only[Ze,nng,ZO hM,Bool.and_self,if_true,Int.toNat_natCast,ZH hM,vless]
   by_cases c:x[(lo+hi) / 2] < target
   ·rw[if_pos (decide_eq_true c),Zo (by omega)]
    refine ih _ _ (by omega) (by omega) hhi (fun j h hj=>?_) h2
    by_cases e:j=(lo+hi) / 2
    ·subst e;exact c
    ·have:=hg j ((lo+hi) / 2) h hM (by omega)
     omega
   ·rw[if_neg (by simpa using c)]
    refine ih _ _ (by omega) (by omega) (by omega) h1 (fun j h hj=>?_)
    by_cases e:j=(lo+hi) / 2
    ·subst e;omega
    ·have:=hg ((lo+hi) / 2) j hM h (by omega)
     omega
 exact loop x.length 0 x.length (by omega) (by omega) (Nat.le_refl _) (fun j h hj=>absurd hj (Nat.not_lt_zero _)) (fun j h hj=>absurd h (by omega))
end Go.Ev
end

section
open Go Go.Ev
namespace Go.Ev
noncomputable section
noncomputable def Zc8:Run:=entG Z2 ZaN (fun a=>Z7 a.1 a.2.1) (fun a=>ZM a.1 a.2.1)
theorem ZhX:EntOK Go.Proofs.Tryz.prog 48 Zc8:=ZI (tb:=Zbo) (c:=ZaM) Zh8 (by kernel_rfl) (by kernel_rfl) (by kernel_rfl) (fun a=>by kernel_rfl) fun ⟨x,target,_⟩ hk=>Zl (c:=ZaM) (K:=fun v=>(ZaN v,tps (toForms Z2 (x,target,())))) (S:=ZV x target) (by kernel_rfl) (Zie x target) (Zh0 x target) (Zix x target hk)
end
end Go.Ev
end

section
open Go Go.Ev
namespace Go.Ev
noncomputable section
abbrev mProg:Program:=Go.Proofs.Tryz.prog
noncomputable def msB:Code:=Go.Proofs.Tryz.f24.body.getD .skip
noncomputable def mlR1 (K:Code):Code:=fstC (innC (innC K))
noncomputable def mlB (K:Code):Code:=innC (fstC (sndC (sndC (innC (innC K)))))
noncomputable def mlR2 (K:Code):Code:=sndC (sndC (sndC (innC (innC K))))
noncomputable def ms0:Code:=fstC msB
noncomputable def ms1:Code:=fstC (sndC msB)
noncomputable def ms2:Code:=fstC (sndC (sndC msB))
noncomputable def ms3:Code:=fstC (fstC (sndC (sndC (sndC msB))))
noncomputable def msK:Code:=sndC (fstC (sndC (sndC (sndC msB))))
noncomputable def msE:Code:=fstC (sndC (sndC (sndC (sndC msB))))
noncomputable def msT:Tbl:=[(47,ZuY),(48,Zc8)]
theorem ZQ6:∀p∈msT,EntOK Go.Proofs.Tryz.prog p.1 p.2:=Zg Zzh (Zg ZhX Zt)
theorem mcl:Spec mProg (clOf msT)∧DetC (clOf msT):=Zp1 ZQ6
theorem ZQU:msB=.seq ms0 (.seq ms1 (.seq (.region (ridC ms2) (ropsC ms2) false) (.seq (.seq ms3 msK) (.seq msE .ret)))):=by kernel_rfl
theorem ZQZ:msK=.block 0 (.loop (.seq (mlR1 msK) (.seq (.cond (.tmp 19) .skip (.exit 0)) (.seq (.block 1 (mlB msK)) (mlR2 msK))))):=by kernel_rfl
noncomputable def ms4:Code:=fstC (mlB msK)
noncomputable def ms5:Code:=fstC (sndC (mlB msK))
noncomputable def ms6:Code:=fstC (fstC (sndC (sndC (mlB msK))))
noncomputable def msX:Code:=thenC (sndC (fstC (sndC (sndC (mlB msK)))))
noncomputable def ms7:Code:=fstC msX
noncomputable def ms8:Code:=sndC msX
noncomputable def ms9:Code:=sndC (sndC (sndC (mlB msK)))
theorem ZQO:mlB msK=.seq ms4 (.seq (.region (ridC ms5) (ropsC ms5) false) (.seq (.seq ms6 (.cond (.tmp 30) (.seq ms7 (.region (ridC ms8) (ropsC ms8) false)) .skip)) ms9)):=by kernel_rfl
def mOb (t:List (El Za)):Id×Nat×Obj:=(4,0,.box 33 [.d (.sl Za) t] none)
def mOut (out:List (El Zd)):Id×Nat×Obj:=(8,0,.row 70 Zd out false)
def mX (x:El Zd):Id×Nat×Obj:=(11,0,.box 70 [.d (.int .i64) x.1,.d (.int .i64) x.2.1,.d (.int .i64) x.2.2] none)
section
variable (t:List (El Za)) (l:List (El Zd)) (pts:List Int) (out:List (El Zd)) (m:Nat) (k:Int) (x:El Zd) (e:List Int) (b:Bool)
def mS0:St:=⟨.ag [.d (.sl Za) t] :: .d (.sl Zd) l :: .d (.sl (.int .i64)) pts :: tops 51,[]⟩
def mS1:St:=⟨mkTm 54 [(1,.d (.sl Zd) l),(2,.d (.sl (.int .i64)) pts),(3,.pt 4 0 0)],[mOb t]⟩
def mS2:St:=⟨mkTm 54 [(1,.d (.sl Zd) l),(2,.d (.sl (.int .i64)) pts),(3,.pt 4 0 0),(7,.own 8 0 none)],[mOb t,mOut []]⟩
def mS3:St:=((mS2 t l pts).put (some 15) (.cst (.map (some m)))).put (some 8) (.cst (.map (some m)))
def mSA:St:=⟨mkTm 54 [(2,.d (.sl (.int .i64)) pts),(3,.pt 4 0 0),(7,.own 8 0 none),(8,.cst (.map (some m))),(16,.d (.sl Zd) l),(17,.d (.int .i64) (Int.ofNat (List.length l))),(18,.d (.int .i64) k)],[mOb t,mOut out]⟩
def mLA:Lab:=⟨[2,3,7,8,16,17,18],[(8,118)]⟩
def mSB:St:=⟨mkTm 54 [(2,.d (.sl (.int .i64)) pts),(3,.pt 4 0 0),(7,.own 8 0 none),(8,.cst (.map (some m))),(10,.pt 11 0 0),(16,.d (.sl Zd) l),(17,.d (.int .i64) (Int.ofNat (List.length l))),(18,.d (.int .i64) k)],[mOb t,mOut out,mX x]⟩
def mLB:Lab:=⟨[2,3,7,8,10,16,17,18],[(8,118)]⟩
def mSC:St:=⟨mkTm 54 [(2,.d (.sl (.int .i64)) pts),(3,.pt 4 0 0),(7,.own 8 0 none),(8,.cst (.map (some m))),(10,.pt 11 0 0),(11,.d (.sl (.int .i64)) e),(12,.d .bool b),(16,.d (.sl Zd) l),(17,.d (.int .i64) (Int.ofNat (List.length l))),(18,.d (.int .i64) k)],[mOb t,mOut out,mX x]⟩
def mLC:Lab:=⟨[2,3,7,8,10,11,12,16,17,18],[(8,118)]⟩
def mLC30:Lab:=⟨[2,3,7,8,10,11,16,17,18,30],[(8,118)]⟩
def mSD:St:=⟨mkTm 54 [(2,.d (.sl (.int .i64)) pts),(3,.pt 4 0 0),(7,.own 8 0 none),(8,.cst (.map (some m))),(10,.pt 11 0 0),(11,.d (.sl (.int .i64)) e),(16,.d (.sl Zd) l),(17,.d (.int .i64) (Int.ofNat (List.length l))),(18,.d (.int .i64) k)],[mOb t,mOut out,mX x]⟩
def mLD:Lab:=⟨[2,3,7,8,10,11,16,17,18],[(8,118)]⟩
def mSO:St:=⟨mkTm 54 [(2,.d (.sl (.int .i64)) pts),(3,.pt 4 0 0),(7,.own 8 0 none),(8,.cst (.map (some m))),(10,.pt 11 0 0),(11,.own 12 0 none),(16,.d (.sl Zd) l),(17,.d (.int .i64) (Int.ofNat (List.length l))),(18,.d (.int .i64) k)],[mOb t,mOut out,mX x,(12,0,.row 3 (.int .i64) e false)]⟩
@[reducible] def inM (i:Int) (n:Nat):Bool:=decide ((0:Int)≤i)&&decide (i < Int.ofNat n)
abbrev mEv (c:Code) (lab:Lab) (s s':St):Prop:=∀(L:Lt) (k:Kt) (x:Nat→Kt) (r:Kt),evC mProg (clOf msT) [] L c 0 (fun t=>k (norm mProg lab t)) x r s=k s'
abbrev mEvI (c:Code) (s s':St):Prop:=∀(L:Lt) (k:Kt) (x:Nat→Kt) (r:Kt),evC mProg (clOf msT) [] L c 0 (fun t=>k t) x r s=k s'
abbrev mEvG (c:Code) (lab:Lab) (s s':St) (b:Bool):Prop:=∀(L:Lt) (k:Kt) (x:Nat→Kt) (r:Kt),evC mProg (clOf msT) [] L c 0 (fun t=>k (norm mProg lab t)) x r s=bif b then k s' else none
theorem mEvG.ok {c:Code} {lab:Lab} {s s':St} {b:Bool} (h:mEvG c lab s s' b) (hb:b=true):mEv c lab s s':=fun L k x r=>by rw[h,hb];rfl
theorem m_0:mEv ms0 ⟨[1,2,3],[]⟩ (mS0 t l pts) (mS1 t l pts):=fun L k x r=>by kernel_rfl
theorem m_1:mEv ms1 ⟨[1,2,3,7],[(8,118)]⟩ (mS1 t l pts) (mS2 t l pts):=fun L k x r=>by kernel_rfl
theorem m_3:mEv ms3 mLA (mS3 t l pts m) (mSA t l pts [] m 0):=fun L k x r=>by kernel_rfl
theorem m_R1:mEvI (mlR1 msK) (mSA t l pts out m k) ((mSA t l pts out m k).put (some 19) (.d .bool (decide (k < Int.ofNat (List.length l))))):=fun L k x r=>by kernel_rfl
theorem m_4:mEvG ms4 mLB ((mSA t l pts out m k).put (some 19) (.d .bool b)) (mSB t l pts out m k (List.getD l (Int.toNat k) (dflt Zd))) (inM k (List.length l)):=fun L k x r=>by kernel_rfl
theorem m_6:mEv ms6 mLC30 (mSC t l pts out m k x e b) ((mSD t l pts out m k x e).put (some 30) (.d .bool (! b))):=fun L k x r=>by kernel_rfl
theorem m_7:mEvG ms7 mLD ((mSD t l pts out m k x e).put (some 30) (.d .bool b)) (mSO t l pts out m k x (ZP t pts x.2.1)) (Zb0 t pts x.2.1):=fun L k x r=>by kernel_rfl
theorem ZRz:norm mProg mLD ((mSD t l pts out m k x e).put (some 30) (.d .bool b))=mSD t l pts out m k x e:=by kernel_rfl
theorem m_9 (L:Lt) (kk:Kt) (xx:Nat→Kt) (r:Kt):evC mProg (clOf msT) [] L ms9 0 (fun t=>kk (norm mProg mLA t)) xx r (mSD t l pts out m k x e)=
  bif Z7 e x.2.2 then (bif (ZM e x.2.2).2 then (bif Nat.ble ((List.length out+1)*24) limit then kk (mSA t l pts (out++[x]) m k) else none) else kk (mSA t l pts out m k)) else none:=by kernel_rfl
theorem m_R2:mEv (mlR2 msK) mLA (mSA t l pts out m k) (mSA t l pts out m (IntKind.i64.wrap (k+1))):=fun L k x r=>by kernel_rfl
theorem m_E:mEvI msE ((mSA t l pts out m k).put (some 19) (.d .bool b)) ((((mSA t l pts out m k).put (some 19) (.d .bool b)).put (some 53) (.own 8 0 none)).put (some 6) (.own 8 0 none)):=fun L k x r=>by kernel_rfl
def mSB5 (e:List Int) (b:Bool):St:=((((mSB t l pts out m k x).put (some 23) (.cst (.map (some m)))).put (some 24) (.pt 11 0 1)).put (some 25) (.d (.int .i64) x.2.1)).put (some 26) (.tu [.d (.sl (.int .i64)) e,.d .bool b])
def mSB9 (e:List Int) (b:Bool):St:=(((((mSB5 t l pts out m k x e b).put (some 22) (.tu [.d (.sl (.int .i64)) e,.d .bool b])).put (some 27) (.d (.sl (.int .i64)) e)).put (some 28) (.d .bool b)).put (some 11) (.d (.sl (.int .i64)) e)).put (some 12) (.d .bool b)
theorem m_n9:norm mProg mLC (mSB9 t l pts out m k x e b)=mSC t l pts out m k x e b:=by kernel_rfl
def mSO4:St:=((((mSO t l pts out m k x e).put (some 36) (.cst (.map (some m)))).put (some 37) (.pt 11 0 1)).put (some 38) (.d (.int .i64) x.2.1)).put (some 39) (.own 12 0 none)
theorem m_n8 (o:Option Nat) (ho:o=none):norm mProg ⟨[2,3,7,8,10,11,16,17,18],[(8,118),(12+lockK,1)]⟩ (((mSO4 t l pts out m k x e).lock [12]).put o .top)=mSD t l pts out m k x e:=by
 subst ho
 kernel_rfl
end
section
variable [Orgs] {Mod F0:Nat→Prop} {w0:World} {a:Act} {w:World} {Q:Exit→Act→World→Prop}
variable {t:List (El Za)} {l:List (El Zd)} {pts:List Int} {out:List (El Zd)} {m:Nat} {k:Int} {x:El Zd} {ms:MapD}
theorem mw_2 (hr:Rel Mod F0 w0 (mS2 t l pts) a w) (hQ:∀m a' w',RelX (mapHid m []) Mod F0 w0 (mS3 t l pts m) a' w'→Q .normal a' w'):(Code.region (ridC ms2) (ropsC ms2) false).wp mProg Q a w:=by
 refine wp_region ?_
 rw[show List.range (ropsC ms2).size=[0,1] from by kernel_rfl]
 refine handOp (o:=opC ms2 0) (by kernel_rfl) (by kernel_rfl) ?_
 refine makeMapX (TM:=77) (by kernel_rfl) hr fun m a w hr=>?_
 rw[show (opC ms2 0).dst=some 15 from by kernel_rfl] at hr
 refine evOpX mcl.1 (o:=opC ms2 1) (st1:=mS3 t l pts m) (by kernel_rfl) (by kernel_rfl) (fun k=>by kernel_rfl) hr fun a w hr=>?_
 exact hQ m a w hr
theorem mw_5 (hr:RelX (mapHid m ms) Mod F0 w0 (mSB t l pts out m k x) a w) (hQ:∀a' w',RelX (mapHid m ms) Mod F0 w0 (mSC t l pts out m k x ((getM ms x.2.1).getD []) (getM ms x.2.1).isSome) a' w'→Q .normal a' w'):(Code.region (ridC ms5) (ropsC ms5) false).wp mProg Q a w:=by
 refine wp_region ?_
 rw[show List.range (ropsC ms5).size=[0,1,2,3,4,5,6,7,8] from by kernel_rfl]
 refine evOpX mcl.1 (o:=opC ms5 0) (st1:=(mSB t l pts out m k x).put (some 23) (.cst (.map (some m)))) (by kernel_rfl) (by kernel_rfl) (fun k=>by kernel_rfl) hr fun a w hr=>?_
 refine evOpX mcl.1 (o:=opC ms5 1) (st1:=((mSB t l pts out m k x).put (some 23) (.cst (.map (some m)))).put (some 24) (.pt 11 0 1)) (by kernel_rfl) (by kernel_rfl) (fun k=>by kernel_rfl) hr fun a w hr=>?_
 refine evOpX mcl.1 (o:=opC ms5 2) (st1:=(((mSB t l pts out m k x).put (some 23) (.cst (.map (some m)))).put (some 24) (.pt 11 0 1)).put (some 25) (.d (.int .i64) x.2.1)) (by kernel_rfl) (by kernel_rfl) (fun k=>by kernel_rfl) hr fun a w hr=>?_
 refine handOp (o:=opC ms5 3) (by kernel_rfl) (by kernel_rfl) ?_
 refine lookupX (TM:=77) (K:=3) (V:=23) (x:=.tmp 23) (k:=.tmp 25) (key:=x.2.1) (by kernel_rfl) (by kernel_rfl) (by kernel_rfl) (by kernel_rfl) (by kernel_rfl) (by kernel_rfl) hr fun a w hr=>?_
 rw[show (opC ms5 3).dst=some 26 from by kernel_rfl] at hr
 generalize (getM ms x.2.1).getD []=e at hr hQ
 generalize (getM ms x.2.1).isSome=b at hr hQ
 refine evOpX mcl.1 (o:=opC ms5 4) (st1:=(mSB5 t l pts out m k x e b).put (some 22) (.tu [.d (.sl (.int .i64)) e,.d .bool b])) (by kernel_rfl) (by kernel_rfl) (fun k=>by kernel_rfl) hr fun a w hr=>?_
 refine evOpX mcl.1 (o:=opC ms5 5) (st1:=((mSB5 t l pts out m k x e b).put (some 22) (.tu [.d (.sl (.int .i64)) e,.d .bool b])).put (some 27) (.d (.sl (.int .i64)) e)) (by kernel_rfl) (by kernel_rfl) (fun k=>by kernel_rfl) hr fun a w hr=>?_
 refine evOpX mcl.1 (o:=opC ms5 6) (st1:=(((mSB5 t l pts out m k x e b).put (some 22) (.tu [.d (.sl (.int .i64)) e,.d .bool b])).put (some 27) (.d (.sl (.int .i64)) e)).put (some 28) (.d .bool b)) (by kernel_rfl) (by kernel_rfl) (fun k=>by kernel_rfl) hr fun a w hr=>?_
 refine evOpX mcl.1 (o:=opC ms5 7) (st1:=((((mSB5 t l pts out m k x e b).put (some 22) (.tu [.d (.sl (.int .i64)) e,.d .bool b])).put (some 27) (.d (.sl (.int .i64)) e)).put (some 28) (.d .bool b)).put (some 11) (.d (.sl (.int .i64)) e)) (by kernel_rfl) (by kernel_rfl) (fun k=>by kernel_rfl) hr fun a w hr=>?_
 refine evOpX mcl.1 (o:=opC ms5 8) (st1:=mSB9 t l pts out m k x e b) (by kernel_rfl) (by kernel_rfl) (fun k=>by kernel_rfl) hr fun a w hr=>?_
 exact hQ a w (RelX.norm (P:=mProg) (m_n9 t l pts out m k x e b) hr)
theorem mw_8 {e:List Int} (hn:getM ms x.2.1=none) (hr:RelX (mapHid m ms) Mod F0 w0 (mSO t l pts out m k x e) a w) (hQ:∀a' w',RelX (mapHid m (ms++[((show Int from x.2.1),e)])) Mod F0 w0 (mSD t l pts out m k x e) a' w'→Q .normal a' w'):(Code.region (ridC ms8) (ropsC ms8) false).wp mProg Q a w:=by
 refine wp_region ?_
 rw[show List.range (ropsC ms8).size=[0,1,2,3,4] from by kernel_rfl]
 refine evOpX mcl.1 (o:=opC ms8 0) (st1:=(mSO t l pts out m k x e).put (some 36) (.cst (.map (some m)))) (by kernel_rfl) (by kernel_rfl) (fun k=>by kernel_rfl) hr fun a w hr=>?_
 refine evOpX mcl.1 (o:=opC ms8 1) (st1:=((mSO t l pts out m k x e).put (some 36) (.cst (.map (some m)))).put (some 37) (.pt 11 0 1)) (by kernel_rfl) (by kernel_rfl) (fun k=>by kernel_rfl) hr fun a w hr=>?_
 refine evOpX mcl.1 (o:=opC ms8 2) (st1:=(((mSO t l pts out m k x e).put (some 36) (.cst (.map (some m)))).put (some 37) (.pt 11 0 1)).put (some 38) (.d (.int .i64) x.2.1)) (by kernel_rfl) (by kernel_rfl) (fun k=>by kernel_rfl) hr fun a w hr=>?_
 refine evOpX mcl.1 (o:=opC ms8 3) (st1:=mSO4 t l pts out m k x e) (by kernel_rfl) (by kernel_rfl) (fun k=>by kernel_rfl) hr fun a w hr=>?_
 refine handOp (o:=opC ms8 4) (by kernel_rfl) (by kernel_rfl) ?_
 refine updateX (TM:=77) (K:=3) (V:=23) (E:=3) (x:=.tmp 36) (k:=.tmp 38) (v:=.tmp 39) (key:=x.2.1) (id:=12) (ver:=0) (r:=e) (lk:=false) (by kernel_rfl) (by kernel_rfl) (by kernel_rfl) (by kernel_rfl) (by kernel_rfl) (by kernel_rfl) (by kernel_rfl) hn hr fun a w hr=>?_
 exact hQ a w (RelX.norm (P:=mProg) (m_n8 t l pts out m k x e _ (by kernel_rfl)) hr)
def OkM (t:List (El Za)) (pts:List Int) (ms:MapD):Prop:=∀s r,getM ms s=some r→r=ZP t pts s
theorem ZQo {s:Int} (h:OkM t pts ms):OkM t pts (ms++[(s,ZP t pts s)]):=fun s' r hr=>by
 unfold getM at hr
 rw[List.find?_append] at hr
 cases hf:ms.find? (fun e=>e.1==s') with
 | some y=>
  rw[hf] at hr
  exact h s' r (by unfold getM;rw[hf];exact hr)
 | none=>
  rw[hf] at hr
  simp only[Option.none_or,List.find?_cons,List.find?_nil] at hr
  split at hr
  ·rename_i hs
   have hs:s=s':=by simpa using hs
   subst hs
   cases hr
   rfl
  ·cases hr
theorem ZPK (hf:flowOK t=true) (hp:pts.length < 4611686018427387904) (x:El Zd):Z7 (ZP t pts x.2.1) x.2.2=true∧(ZM (ZP t pts x.2.1) x.2.2).2=uB t pts x:=by
 have hl:=ZbC hf
 have h1:(ZP t pts x.2.1).length≤t.length:=ZAh
 refine ⟨?_,?_⟩
 ·unfold Z7
  rw[Bool.and_eq_true,decide_eq_true_eq,decide_eq_true_eq]
  exact ⟨Zqs,by omega⟩
 ·show (ZP t pts x.2.1).contains x.2.2=_
  unfold ZP uB
  exact Zr9
theorem ZQ3 {n j:Nat} (h:j < n):inM (j:Int) n=true:=by
 unfold inM
 rw[Bool.and_eq_true,decide_eq_true_eq,decide_eq_true_eq]
 exact ⟨Int.natCast_nonneg j,Int.ofNat_lt.2 h⟩
theorem mw_L (hf:flowOK t=true) (hp:pts.length < 4611686018427387904) {j:Nat} (hj:j < l.length) {b:Bool} (hlim:(out.length+1)*24≤limit) (ho:OkM t pts ms) (hr:RelX (mapHid m ms) Mod F0 w0 ((mSA t l pts out m (j:Int)).put (some 19) (.d .bool b)) a w):
  (mlB msK).wp mProg (fun e a' w'=>(e=.normal∨e=.exit 1)∧∃ms',OkM t pts ms'∧RelX (mapHid m ms') Mod F0 w0 (mSA t l pts (out++if uB t pts l[j]=true then [l[j]] else []) m (j:Int)) a' w') a w:=by
 rw[ZQO]
 refine wp_seq (pieceX mcl.1 mcl.2 (norm mProg mLB) (fun h=>Z1 h) ((m_4 t l pts out m (j:Int) b).ok (ZQ3 hj)) hr fun a w hr=>?_)
 rw[Int.toNat_natCast,ZH hj] at hr
 generalize l[j]=x at hr
 have kE:Zb0 t pts x.2.1=true:=by unfold Zb0;rw[hf,decide_eq_true hp];rfl
 obtain ⟨q1,q2⟩:=ZPK hf hp x
 have last:∀(ms':MapD),OkM t pts ms'→∀a w,RelX (mapHid m ms') Mod F0 w0 (mSD t l pts out m (j:Int) x (ZP t pts x.2.1)) a w→ms9.wp mProg (fun e a' w'=>(e=.normal∨e=.exit 1)∧∃ms',OkM t pts ms'∧RelX (mapHid m ms') Mod F0 w0 (mSA t l pts (out++if uB t pts x=true then [x] else []) m (j:Int)) a' w') a w:=by
  intro ms' ho' a w hr
  by_cases hu:uB t pts x=true
  ·refine pieceX mcl.1 mcl.2 (norm mProg mLA) (fun h=>Z1 h) (st1:=mSA t l pts (out++[x]) m (j:Int)) (fun L k xx r=>by rw[m_9,q1,q2,hu,Nat.ble_eq_true_of_le hlim];rfl) hr fun a w hr=>?_
   rw[if_pos hu]
   exact ⟨.inl rfl,ms',ho',hr⟩
  ·have hu':uB t pts x=false:=by simpa using hu
   refine pieceX mcl.1 mcl.2 (norm mProg mLA) (fun h=>Z1 h) (st1:=mSA t l pts out m (j:Int)) (fun L k xx r=>by rw[m_9,q1,q2,hu'];rfl) hr fun a w hr=>?_
   rw[if_neg hu,List.append_nil]
   exact ⟨.inl rfl,ms',ho',hr⟩
 refine wp_seq (mw_5 hr fun a w hr=>?_)
 refine wp_seq (wp_seq (pieceX mcl.1 mcl.2 (norm mProg mLC30) (fun h=>Z1 h) (m_6 t l pts out m (j:Int) x _ _) hr fun a w hr=>?_))
 have ht:=hr.evb (x:=.tmp 30) (b:=! (getM ms x.2.1).isSome) (by kernel_rfl)
 cases hg:getM ms x.2.1 with
 | none=>
  rw[hg] at ht hr
  refine wp_cond_true ht ?_
  refine wp_seq (pieceX mcl.1 mcl.2 (norm mProg mLD) (fun h=>Z1 h) ((m_7 t l pts out m (j:Int) x _ _).ok kE) hr fun a w hr=>?_)
  exact mw_8 hg hr fun a w hr=>last _ (ZQo ho) a w hr
 | some e=>
  rw[hg] at ht hr
  refine wp_cond_false ht (wp_skip ?_)
  have:=RelX.norm (P:=mProg) (ZRz t l pts out m (j:Int) x _ _) hr
  have he:=ho _ _ hg
  subst he
  exact last _ ho a w this
end
def ZnY:Sig:=[(true,(.sl Za)),(false,(.sl Zd)),(false,(.sl (.int .i64)))]
noncomputable def ZbG (t:List (El Za)) (l:List (El Zd)) (points:List Int):List (El Zd):=missL (uB t) points l
def ZaC (t:List (El Za)) (l:List (El Zd)) (points:List Int):Bool:=flowOK t&&(decide (points.length < 4611686018427387904)&&decide (l.length < 1000000000000))
def Zww:List (El Zd)→AV:=fun r=>.rw 70 Zd r
theorem ZOt {U:El Zd→Bool} {l:List (El Zd)} {j:Nat} (hj:j < l.length):(l.take (j+1)).filter U=(l.take j).filter U++if U l[j]=true then [l[j]] else []:=by
 rw[List.take_succ_eq_append_getElem hj,List.filter_append,List.filter_cons,List.filter_nil]
theorem Zwr (t:List (El Za)) (l:List (El Zd)) (pts:List Int) (hk:ZaC t l pts=true):CallOK mProg 24 (toForms ZnY (t,l,pts,())) (Zww (ZbG t l pts),tps (toForms ZnY (t,l,pts,()))):=by
 unfold ZaC at hk
 rw[Bool.and_eq_true,Bool.and_eq_true,decide_eq_true_eq,decide_eq_true_eq] at hk
 obtain ⟨hf,hp,hN⟩:=hk
 refine Znj (tb:=[]) (fn:=Go.Proofs.Tryz.f24) (c:=msB) (vs:=[.ag [.d (.sl Za) t],.d (.sl Zd) l,.d (.sl (.int .i64)) pts]) (st:=⟨[],[]⟩) (by kernel_rfl) (by kernel_rfl) (by kernel_rfl) ?_
 intro _ Mod F0 w0 a w hr
 have hr:Rel Mod F0 w0 (mS0 t l pts) a w:=hr
 rw[ZQU]
 refine wp_seq (piece mcl.1 mcl.2 (norm mProg ⟨[1,2,3],[]⟩) (fun h=>Z1 h) (m_0 t l pts) hr fun a w hr=>?_)
 refine wp_seq (piece mcl.1 mcl.2 (norm mProg ⟨[1,2,3,7],[(8,118)]⟩) (fun h=>Z1 h) (m_1 t l pts) hr fun a w hr=>?_)
 refine wp_seq (mw_2 hr fun m a w hr=>?_)
 refine wp_seq (wp_seq (pieceX mcl.1 mcl.2 (norm mProg mLA) (fun h=>Z1 h) (m_3 t l pts m) hr fun a w hr=>?_))
 rw[ZQZ]
 refine forLoop (fun j a w=>∃ms,OkM t pts ms∧RelX (mapHid m ms) Mod F0 w0 (mSA t l pts ((l.take j).filter (uB t pts)) m (j:Int)) a w)
  (fun j a w=>∃ms,OkM t pts ms∧RelX (mapHid m ms) Mod F0 w0 ((mSA t l pts ((l.take j).filter (uB t pts)) m (j:Int)).put (some 19) (.d .bool (decide ((j:Int) < Int.ofNat (List.length l))))) a w)
  (fun j a w=>∃ms,OkM t pts ms∧RelX (mapHid m ms) Mod F0 w0 (mSA t l pts ((l.take (j+1)).filter (uB t pts)) m (j:Int)) a w)
  l.length (toGo 18 l.length) ?_ ?_ ?_ ?_ ?_ ⟨[],fun s r h=>(by cases h),hr⟩ ?_
 ·intro j a w hj ⟨ms,ho,hr⟩
  exact pieceX mcl.1 mcl.2 (fun s=>s) (fun h=>h) (m_R1 _ _ _ _ _ _) hr fun a' w' hr'=>⟨rfl,ms,ho,hr'⟩
 ·intro j a w hj ⟨ms,ho,hr⟩
  rw[hr.evb (x:=.tmp 19) (b:=decide ((j:Int) < Int.ofNat (List.length l))) (by kernel_rfl)]
  exact congrArg Value.bool (by rw[Bool.eq_iff_iff,decide_eq_true_eq,decide_eq_true_eq];exact Int.ofNat_lt)
 ·intro j a w hj ⟨ms,ho,hr⟩
  rw[ZOt hj]
  refine mw_L hf hp hj ?_ ho hr
  have h1:=List.length_filter_le (uB t pts) (l.take j)
  rw[List.length_take] at h1
  unfold limit
  omega
 ·intro j a w hj ⟨ms,ho,hr⟩
  have e:=m_R2 t l pts ((l.take (j+1)).filter (uB t pts)) m (j:Int)
  rw[Zo (by omega)] at e
  exact pieceX mcl.1 mcl.2 (norm mProg mLA) (fun h=>Z1 h) e hr fun a' w' hr'=>⟨rfl,ms,ho,hr'⟩
 ·intro j a w hj ⟨ms,ho,hr⟩
  unfold toGo
  rw[hr.ev (x:=.tmp 18) (k:=.i64) (n:=(j:Int)) (by kernel_rfl)]
  rfl
 ·intro a w ⟨ms,ho,hr⟩
  rw[List.take_length] at hr
  have hr:=hr.out
  refine wp_seq (piece mcl.1 mcl.2 (fun s=>s) (fun h=>h) (m_E t l pts (l.filter (uB t pts)) m _ _) hr fun a w hr=>?_)
  exact wp_ret ⟨.inr rfl,_,hr,by kernel_rfl⟩
noncomputable def ZkB:Run:=entG ZnY Zww (fun a=>ZaC a.1 a.2.1 a.2.2.1) (fun a=>ZbG a.1 a.2.1 a.2.2.1)
theorem ZnX:EntOK mProg 24 ZkB:=ZB6 (Zi7 (fn:=Go.Proofs.Tryz.f24) (c:=msB) (by kernel_rfl) (by kernel_rfl) (by kernel_rfl)) fun a h=>Zwr a.1 a.2.1 a.2.2.1 h
end
end Go.Ev
end

section
open Go Go.Ev
namespace Go.Ev
noncomputable section
def ZfJ:Sig:=[(true,Zc),(false,(.int .i64)),(false,(.sl (.int .i64)))]
noncomputable def Zr6:Tbl:=[(23,ZlA),(26,ZfW),(25,Zw0),(24,ZkB)]
theorem ZF1:∀p∈Zr6,EntOK Go.Proofs.Tryz.prog p.1 p.2:=Zg Zm8 (Zg Zgo (Zg Zwk (Zg ZnX (Zt))))
noncomputable def ZmG:Code:=Go.Proofs.Tryz.f8.body.getD .skip
def Zpw:Tb:=[]
def ZyP (p:El Zc) (t:Int) (points:List Int):Empty→JT Empty (Bool):=fun j=>nomatch j
def ZvI (p:El Zc) (t:Int) (points:List Int):JT Empty (Bool):=.br (Zbc p t) (.br (Zba p t) (.br ((decide ((0:Int)≤t))&&(decide (t < (Int.ofNat (List.length p.2))))) (.br (ZS p) (.br (ZcB (Zj p) t) (.br (ZaC (List.getD p.2 (Int.toNat t) (dflt (.sl Za))) (Z6 (Zj p) t) points) (.leaf ((Int.ofNat (List.length (ZbG (List.getD p.2 (Int.toNat t) (dflt (.sl Za))) (Z6 (Zj p) t) points)))==(0:Int))) (.no)) (.no)) (.no)) (.no)) (.leaf false)) (.no)
def ZaR (p:El Zc) (t:Int) (points:List Int):Bool:=bif (Zbc p t) then bif (Zba p t) then bif ((decide ((0:Int)≤t))&&(decide (t < (Int.ofNat (List.length p.2))))) then bif (ZS p) then bif (ZcB (Zj p) t) then bif (ZaC (List.getD p.2 (Int.toNat t) (dflt (.sl Za))) (Z6 (Zj p) t) points) then ((Int.ofNat (List.length (ZbG (List.getD p.2 (Int.toNat t) (dflt (.sl Za))) (Z6 (Zj p) t) points)))==(0:Int)) else false else false else false else false else false else false
def ZaW (p:El Zc) (t:Int) (points:List Int):Bool:=bif (Zbc p t) then bif (Zba p t) then bif ((decide ((0:Int)≤t))&&(decide (t < (Int.ofNat (List.length p.2))))) then bif (ZS p) then bif (ZcB (Zj p) t) then bif (ZaC (List.getD p.2 (Int.toNat t) (dflt (.sl Za))) (Z6 (Zj p) t) points) then true else false else false else false else false else true else false
theorem ZHi (p:El Zc) (t:Int) (points:List Int) (hk:ZaW p t points=true):Goes (ZyP p t points) (ZvI p t points) (ZaR p t points):=Goes.brk hk (fun hk=>Goes.brk hk (fun hk=>Goes.brk hk (fun hk=>Goes.brk hk (fun hk=>Goes.brk hk (fun hk=>Goes.brk hk (fun hk=>Goes.leaf) (fun hk=>Goes.nok hk)) (fun hk=>Goes.nok hk)) (fun hk=>Goes.nok hk)) (fun hk=>Goes.nok hk)) (fun hk=>Goes.leaf)) (fun hk=>Goes.nok hk)
def Znk:Bool→AV:=fun (r:Bool)=>.d .bool r
def Zfk (p:El Zc) (t:Int) (points:List Int):Empty→Nat×St:=fun j=>nomatch j
theorem ZFr (p:El Zc) (t:Int) (points:List Int) (L:Lt):entryA Go.Proofs.Tryz.prog (clOf Zr6) Zpw Go.Proofs.Tryz.f8 ZmG L (toForms ZfJ (p,t,points,()))=(ZvI p t points).run (fun v=>some (Znk v,tps (toForms ZfJ (p,t,points,())))) fun j=>L (Zfk p t points j).1 (Zfk p t points j).2:=by kernel_rfl
theorem ZFW (p:El Zc) (t:Int) (points:List Int):∀(L:Lt) (j:Empty),procOf (procsF Go.Proofs.Tryz.prog (clOf Zr6) Zpw Go.Proofs.Tryz.f8 ZmG (toForms ZfJ (p,t,points,()))) (Zfk p t points j).1 L (Zfk p t points j).2=(ZyP p t points j).run (fun v=>some (Znk v,tps (toForms ZfJ (p,t,points,())))) fun j=>L (Zfk p t points j).1 (Zfk p t points j).2:=fun L j=>nomatch j
noncomputable def ZrH:Run:=entG ZfJ Znk (fun a=>ZaW a.1 a.2.1 a.2.2.1) (fun a=>ZaR a.1 a.2.1 a.2.2.1)
theorem ZwZ:EntOK Go.Proofs.Tryz.prog 8 ZrH:=ZI (tb:=Zpw) (c:=ZmG) ZF1 (by kernel_rfl) (by kernel_rfl) (by kernel_rfl) (fun a=>by kernel_rfl) fun ⟨p,t,points,_⟩ hk=>Zl (c:=ZmG) (K:=fun v=>(Znk v,tps (toForms ZfJ (p,t,points,())))) (S:=Zfk p t points) (by kernel_rfl) (ZFr p t points) (ZFW p t points) (ZHi p t points hk)
end
end Go.Ev
end

section
open Go Go.Ev
namespace Go.Ev
noncomputable section
def ZhH:Sig:=[(true,Zc),(false,(.int .i64))]
noncomputable def Zvz:Tbl:=[(15,ZsS)]
theorem ZJn:∀p∈Zvz,EntOK Go.Proofs.Tryz.prog p.1 p.2:=Zg Zxp (Zt)
noncomputable def Zpi:Code:=Go.Proofs.Tryz.f27.body.getD .skip
def ZrP:Tb:=[]
def ZAb (p:El Zc) (t:Int):Empty→JT Empty (Bool):=fun j=>nomatch j
def Zy3 (p:El Zc) (t:Int):JT Empty (Bool):=.br (Zb4 p) (.br ((Zcz p) !=(0:Int)) (.leaf true) (.br (decide (t < (0:Int))) (.leaf true) (.leaf (decide (t≥(Int.ofNat (List.length p.2))))))) (.no)
def Zez (p:El Zc) (t:Int):Bool:=bif (Zb4 p) then bif ((Zcz p) !=(0:Int)) then true else bif (decide (t < (0:Int))) then true else (decide (t≥(Int.ofNat (List.length p.2)))) else false
def Ze6 (p:El Zc) (t:Int):Bool:=bif (Zb4 p) then bif ((Zcz p) !=(0:Int)) then true else bif (decide (t < (0:Int))) then true else true else false
theorem ZLp (p:El Zc) (t:Int) (hk:Ze6 p t=true):Goes (ZAb p t) (Zy3 p t) (Zez p t):=Goes.brk hk (fun hk=>Goes.brk hk (fun hk=>Goes.leaf) (fun hk=>Goes.brk hk (fun hk=>Goes.leaf) (fun hk=>Goes.leaf))) (fun hk=>Goes.nok hk)
def Zpu:Bool→AV:=fun (r:Bool)=>.d .bool r
def ZgS (p:El Zc) (t:Int):Empty→Nat×St:=fun j=>nomatch j
theorem ZHC (p:El Zc) (t:Int) (L:Lt):entryA Go.Proofs.Tryz.prog (clOf Zvz) ZrP Go.Proofs.Tryz.f27 Zpi L (toForms ZhH (p,t,()))=(Zy3 p t).run (fun v=>some (Zpu v,tps (toForms ZhH (p,t,())))) fun j=>L (ZgS p t j).1 (ZgS p t j).2:=by kernel_rfl
theorem ZJ5 (p:El Zc) (t:Int):∀(L:Lt) (j:Empty),procOf (procsF Go.Proofs.Tryz.prog (clOf Zvz) ZrP Go.Proofs.Tryz.f27 Zpi (toForms ZhH (p,t,()))) (ZgS p t j).1 L (ZgS p t j).2=(ZAb p t j).run (fun v=>some (Zpu v,tps (toForms ZhH (p,t,())))) fun j=>L (ZgS p t j).1 (ZgS p t j).2:=fun L j=>nomatch j
noncomputable def ZuW:Run:=entG ZhH Zpu (fun a=>Ze6 a.1 a.2.1) (fun a=>Zez a.1 a.2.1)
theorem Zza:EntOK Go.Proofs.Tryz.prog 27 ZuW:=ZI (tb:=ZrP) (c:=Zpi) ZJn (by kernel_rfl) (by kernel_rfl) (by kernel_rfl) (fun a=>by kernel_rfl) fun ⟨p,t,_⟩ hk=>Zl (c:=Zpi) (K:=fun v=>(Zpu v,tps (toForms ZhH (p,t,())))) (S:=ZgS p t) (by kernel_rfl) (ZHC p t) (ZJ5 p t) (ZLp p t hk)
end
end Go.Ev
end

section
open Go Go.Ev
namespace Go.Ev
noncomputable section
def Zk6:Sig:=[(false,(.sl Zd)),(false,(.int .i64))]
noncomputable def ZAG:Tbl:=[]
theorem ZNf:∀p∈ZAG,EntOK Go.Proofs.Tryz.prog p.1 p.2:=Zt
noncomputable def ZvP:Code:=Go.Proofs.Tryz.f29.body.getD .skip
def ZxV:Tb:=[(4,⟨[0,1,5,6],[(6,118)]⟩)]
inductive ZsQ where | l4 (i:Int) (out:List (El Zd))
def ZrC (l:List (El Zd)) (t:Int):ZsQ→JT ZsQ (List (El Zd)) |.l4 i out=>.br (decide (i < (Int.ofNat (List.length l)))) (.br ((decide ((0:Int)≤i))&&(decide (i < (Int.ofNat (List.length l))))) (.br ((List.getD l (Int.toNat i) (dflt Zd)).1==t) (.br ((decide ((0:Int)≤i))&&(decide (i < (Int.ofNat (List.length l))))) (.br (Nat.ble (((List.length out)+1)*24) limit) (.jmp (.l4 (IntKind.i64.wrap (i+(1:Int))) (out++[(List.getD l (Int.toNat i) (dflt Zd))]))) (.no)) (.no)) (.jmp (.l4 (IntKind.i64.wrap (i+(1:Int))) out))) (.no)) (.leaf out)
def ZD6 (l:List (El Zd)) (t:Int):JT ZsQ (List (El Zd)):=.jmp (.l4 (0:Int) [])
def Zw4:List (El Zd)→AV:=fun (r:List (El Zd))=>.rw 70 Zd r
def ZlB (l:List (El Zd)) (t:Int):ZsQ→Nat×St |.l4 i out=>(4,⟨mkTm 28 [(0,.d (.sl Zd) l),(1,.d (.int .i64) t),(5,.own 6 0 none),(6,.d (.int .i64) i)],[(6,0,.row 70 Zd out false)]⟩)
theorem ZNb (l:List (El Zd)) (t:Int) (L:Lt):entryA Go.Proofs.Tryz.prog (clOf ZAG) ZxV Go.Proofs.Tryz.f29 ZvP L (toForms Zk6 (l,t,()))=(ZD6 l t).run (fun v=>some (Zw4 v,tps (toForms Zk6 (l,t,())))) fun j=>L (ZlB l t j).1 (ZlB l t j).2:=by kernel_rfl
theorem ZML (l:List (El Zd)) (t:Int):∀(L:Lt) (j:ZsQ),procOf (procsF Go.Proofs.Tryz.prog (clOf ZAG) ZxV Go.Proofs.Tryz.f29 ZvP (toForms Zk6 (l,t,()))) (ZlB l t j).1 L (ZlB l t j).2=(ZrC l t j).run (fun v=>some (Zw4 v,tps (toForms Zk6 (l,t,())))) fun j=>L (ZlB l t j).1 (ZlB l t j).2 | L,.l4 i out=>by kernel_rfl
end
end Go.Ev
end

section
open Go
namespace Go.Ev
def Zdc (l:List (El Zd)) (t:Int):List (El Zd):=l.filter (ofB t)
def Zjz (l:List (El Zd)) (t:Int):Bool:=decide (l.length < 1000000000000)
theorem ZON (l:List (El Zd)) (t:Int) (hk:Zjz l t=true):Goes (ZrC l t) (ZD6 l t) (Zdc l t):=by
 have hN:=of_decide_eq_true hk
 have loop:∀k,k≤l.length→∀out:List (El Zd),out.length≤k→Goes (ZrC l t) (.jmp (.l4 (k:Int) out)) (out++(l.drop k).filter (ofB t)):=by
  refine down ?_ fun k hk ih=>?_
  ·intro out ho
   rw[Zi,ZrC,Ze,if_neg (by rw[Zv (Nat.lt_irrefl _)];decide),List.drop_length]
   simp only[List.filter_nil,List.append_nil]
   exact .leaf
  ·intro out ho
   have b1:Nat.ble ((out.length+1)*24) limit=true:=Nat.ble_eq_true_of_le (by unfold limit;omega)
   rw[Zi,ZrC,ZN hk,List.filter_cons]
   simp only[Ze,ZO hk,nng,Bool.and_self,if_true,Int.toNat_natCast,ZH hk,b1,Zo (k:=k) (by omega)]
   by_cases c:ofB t l[k]=true
   ·have c':=c
    unfold ofB at c'
    rw[if_pos c',if_pos c]
    have:=ih (out++[l[k]]) (by simp;omega)
    rw[List.append_assoc] at this
    exact this
   ·have c':=c
    unfold ofB at c'
    rw[if_neg c',if_neg c]
    exact ih out (by omega)
 have:=loop 0 (Nat.zero_le _) [] (Nat.zero_le _)
 rw[List.nil_append,List.drop_zero] at this
 exact this
end Go.Ev
end

section
open Go Go.Ev
namespace Go.Ev
noncomputable section
noncomputable def ZAZ:Run:=entG Zk6 Zw4 (fun a=>Zjz a.1 a.2.1) (fun a=>Zdc a.1 a.2.1)
theorem ZDC:EntOK Go.Proofs.Tryz.prog 29 ZAZ:=ZI (tb:=ZxV) (c:=ZvP) ZNf (by kernel_rfl) (by kernel_rfl) (by kernel_rfl) (fun a=>by kernel_rfl) fun ⟨l,t,_⟩ hk=>Zl (c:=ZvP) (K:=fun v=>(Zw4 v,tps (toForms Zk6 (l,t,())))) (S:=ZlB l t) (by kernel_rfl) (ZNb l t) (ZML l t) (ZON l t hk)
end
end Go.Ev
end

section
open Go Go.Ev
namespace Go.Ev
noncomputable section
def ZfY:Sig:=[(true,(.sl Za)),(false,(.sl Zd)),(false,(.sl (.int .i64)))]
noncomputable def Zs8:Tbl:=[(56,ZAe)]
theorem ZFs:∀p∈Zs8,EntOK Go.Proofs.Tryz.prog p.1 p.2:=Zg ZHY (Zt)
noncomputable def Znl:Code:=Go.Proofs.Tryz.f28.body.getD .skip
def ZqG:Tb:=[(4,⟨[1,2,3,7,8],[(8,118)]⟩)]
inductive ZjG where | l4 (i:Int) (out:List (El Zd))
def ZjL (t:List (El Za)) (l:List (El Zd)) (points:List Int):ZjG→JT ZjG (List (El Zd)) |.l4 i out=>.br (decide (i < (Int.ofNat (List.length l)))) (.br ((decide ((0:Int)≤i))&&(decide (i < (Int.ofNat (List.length l))))) (.br ((decide ((0:Int)≤i))&&(decide (i < (Int.ofNat (List.length l))))) (.br (ZiZ t points (List.getD l (Int.toNat i) (dflt Zd)).2.1 (List.getD l (Int.toNat i) (dflt Zd)).2.2) (.br (ZgO t points (List.getD l (Int.toNat i) (dflt Zd)).2.1 (List.getD l (Int.toNat i) (dflt Zd)).2.2) (.br ((decide ((0:Int)≤i))&&(decide (i < (Int.ofNat (List.length l))))) (.br (Nat.ble (((List.length out)+1)*24) limit) (.jmp (.l4 (IntKind.i64.wrap (i+(1:Int))) (out++[(List.getD l (Int.toNat i) (dflt Zd))]))) (.no)) (.no)) (.jmp (.l4 (IntKind.i64.wrap (i+(1:Int))) out))) (.no)) (.no)) (.no)) (.leaf out)
def Zxi (t:List (El Za)) (l:List (El Zd)) (points:List Int):JT ZjG (List (El Zd)):=.jmp (.l4 (0:Int) [])
def ZmT:List (El Zd)→AV:=fun (r:List (El Zd))=>.rw 70 Zd r
def Zfr (t:List (El Za)) (l:List (El Zd)) (points:List Int):ZjG→Nat×St |.l4 i out=>(4,⟨mkTm 36 [(1,.d (.sl Zd) l),(2,.d (.sl (.int .i64)) points),(3,.pt 4 0 0),(7,.own 8 0 none),(8,.d (.int .i64) i)],[(4,0,.box 33 [.d (.sl Za) t] none),(8,0,.row 70 Zd out false)]⟩)
theorem ZGw (t:List (El Za)) (l:List (El Zd)) (points:List Int) (L:Lt):entryA Go.Proofs.Tryz.prog (clOf Zs8) ZqG Go.Proofs.Tryz.f28 Znl L (toForms ZfY (t,l,points,()))=(Zxi t l points).run (fun v=>some (ZmT v,tps (toForms ZfY (t,l,points,())))) fun j=>L (Zfr t l points j).1 (Zfr t l points j).2:=by kernel_rfl
theorem ZG3 (t:List (El Za)) (l:List (El Zd)) (points:List Int):∀(L:Lt) (j:ZjG),procOf (procsF Go.Proofs.Tryz.prog (clOf Zs8) ZqG Go.Proofs.Tryz.f28 Znl (toForms ZfY (t,l,points,()))) (Zfr t l points j).1 L (Zfr t l points j).2=(ZjL t l points j).run (fun v=>some (ZmT v,tps (toForms ZfY (t,l,points,())))) fun j=>L (Zfr t l points j).1 (Zfr t l points j).2 | L,.l4 i out=>by kernel_rfl
end
end Go.Ev
end

section
open Go
namespace Go.Ev
noncomputable def Ze7 (t:List (El Za)) (l:List (El Zd)) (points:List Int):List (El Zd):=missL (uB t) points l
def Zbr (t:List (El Za)) (l:List (El Zd)) (points:List Int):Bool:=flowOK t&&(decide (points.length < 4611686018427387904)&&decide (l.length < 1000000000000))
theorem ZH8 (t:List (El Za)) (l:List (El Zd)) (points:List Int) (hk:Zbr t l points=true):Goes (ZjL t l points) (Zxi t l points) (Ze7 t l points):=by
 unfold Zbr at hk
 rw[Bool.and_eq_true,Bool.and_eq_true,decide_eq_true_eq,decide_eq_true_eq] at hk
 obtain ⟨hf,hp,hN⟩:=hk
 have loop:∀k,k≤l.length→∀out:List (El Zd),out.length≤k→Goes (ZjL t l points) (.jmp (.l4 (k:Int) out)) (out++(l.drop k).filter (uB t points)):=by
  refine down ?_ fun k hk ih=>?_
  ·intro out ho
   rw[Zi,ZjL,Ze,if_neg (by rw[Zv (Nat.lt_irrefl _)];decide),List.drop_length]
   simp only[List.filter_nil,List.append_nil]
   exact .leaf
  ·intro out ho
   have b1:Nat.ble ((out.length+1)*24) limit=true:=Nat.ble_eq_true_of_le (by unfold limit;omega)
   obtain ⟨_,f1,f2,f3⟩:=ZFj hf hp l[k].2.1 l[k].2.2
   have fv:ZgO t points l[k].2.1 l[k].2.2=uB t points l[k]:=by rw[f2,f3];rfl
   rw[Zi,ZjL,ZN hk,List.filter_cons]
   simp only[Ze,ZO hk,nng,Bool.and_self,if_true,Int.toNat_natCast,ZH hk,b1,Zo (k:=k) (by omega)]
   rw[if_pos f1,fv]
   by_cases c:uB t points l[k]=true
   ·rw[if_pos c,if_pos c]
    have:=ih (out++[l[k]]) (by simp;omega)
    rw[List.append_assoc] at this
    exact this
   ·rw[if_neg c,if_neg c]
    exact ih out (by omega)
 have:=loop 0 (Nat.zero_le _) [] (Nat.zero_le _)
 rw[List.nil_append,List.drop_zero] at this
 exact this
end Go.Ev
end

section
open Go Go.Ev
namespace Go.Ev
noncomputable section
noncomputable def Zse:Run:=entG ZfY ZmT (fun a=>Zbr a.1 a.2.1 a.2.2.1) (fun a=>Ze7 a.1 a.2.1 a.2.2.1)
theorem Zws:EntOK Go.Proofs.Tryz.prog 28 Zse:=ZI (tb:=ZqG) (c:=Znl) ZFs (by kernel_rfl) (by kernel_rfl) (by kernel_rfl) (fun a=>by kernel_rfl) fun ⟨t,l,points,_⟩ hk=>Zl (c:=Znl) (K:=fun v=>(ZmT v,tps (toForms ZfY (t,l,points,())))) (S:=Zfr t l points) (by kernel_rfl) (ZGw t l points) (ZG3 t l points) (ZH8 t l points hk)
end
end Go.Ev
end

section
open Go Go.Ev
namespace Go.Ev
noncomputable section
def Zeh:Sig:=[(true,Zc),(false,(.int .i64)),(false,(.sl (.int .i64)))]
noncomputable def Zqa:Tbl:=[(27,ZuW),(30,Zph),(29,ZAZ),(28,Zse)]
theorem ZCH:∀p∈Zqa,EntOK Go.Proofs.Tryz.prog p.1 p.2:=Zg Zza (Zg Zuc (Zg ZDC (Zg Zws (Zt))))
noncomputable def Zk3:Code:=Go.Proofs.Tryz.f9.body.getD .skip
def ZnR:Tb:=[]
def ZwV (p:El Zc) (t:Int) (points:List Int):Empty→JT Empty (Bool):=fun j=>nomatch j
def Zt9 (p:El Zc) (t:Int) (points:List Int):JT Empty (Bool):=.br (Ze6 p t) (.br (! (Zez p t)) (.br ((decide ((0:Int)≤t))&&(decide (t < (Int.ofNat (List.length p.2))))) (.br (Za8 p) (.br (Zjz (ZA p) t) (.br (Zbr (List.getD p.2 (Int.toNat t) (dflt (.sl Za))) (Zdc (ZA p) t) points) (.leaf ((Int.ofNat (List.length (Ze7 (List.getD p.2 (Int.toNat t) (dflt (.sl Za))) (Zdc (ZA p) t) points)))==(0:Int))) (.no)) (.no)) (.no)) (.no)) (.leaf false)) (.no)
def Zia (p:El Zc) (t:Int) (points:List Int):Bool:=bif (Ze6 p t) then bif (! (Zez p t)) then bif ((decide ((0:Int)≤t))&&(decide (t < (Int.ofNat (List.length p.2))))) then bif (Za8 p) then bif (Zjz (ZA p) t) then bif (Zbr (List.getD p.2 (Int.toNat t) (dflt (.sl Za))) (Zdc (ZA p) t) points) then ((Int.ofNat (List.length (Ze7 (List.getD p.2 (Int.toNat t) (dflt (.sl Za))) (Zdc (ZA p) t) points)))==(0:Int)) else false else false else false else false else false else false
def ZhZ (p:El Zc) (t:Int) (points:List Int):Bool:=bif (Ze6 p t) then bif (! (Zez p t)) then bif ((decide ((0:Int)≤t))&&(decide (t < (Int.ofNat (List.length p.2))))) then bif (Za8 p) then bif (Zjz (ZA p) t) then bif (Zbr (List.getD p.2 (Int.toNat t) (dflt (.sl Za))) (Zdc (ZA p) t) points) then true else false else false else false else false else true else false
theorem ZGC (p:El Zc) (t:Int) (points:List Int) (hk:ZhZ p t points=true):Goes (ZwV p t points) (Zt9 p t points) (Zia p t points):=Goes.brk hk (fun hk=>Goes.brk hk (fun hk=>Goes.brk hk (fun hk=>Goes.brk hk (fun hk=>Goes.brk hk (fun hk=>Goes.brk hk (fun hk=>Goes.leaf) (fun hk=>Goes.nok hk)) (fun hk=>Goes.nok hk)) (fun hk=>Goes.nok hk)) (fun hk=>Goes.nok hk)) (fun hk=>Goes.leaf)) (fun hk=>Goes.nok hk)
def Zkz:Bool→AV:=fun (r:Bool)=>.d .bool r
def ZdC (p:El Zc) (t:Int) (points:List Int):Empty→Nat×St:=fun j=>nomatch j
theorem ZCu (p:El Zc) (t:Int) (points:List Int) (L:Lt):entryA Go.Proofs.Tryz.prog (clOf Zqa) ZnR Go.Proofs.Tryz.f9 Zk3 L (toForms Zeh (p,t,points,()))=(Zt9 p t points).run (fun v=>some (Zkz v,tps (toForms Zeh (p,t,points,())))) fun j=>L (ZdC p t points j).1 (ZdC p t points j).2:=by kernel_rfl
theorem ZC2 (p:El Zc) (t:Int) (points:List Int):∀(L:Lt) (j:Empty),procOf (procsF Go.Proofs.Tryz.prog (clOf Zqa) ZnR Go.Proofs.Tryz.f9 Zk3 (toForms Zeh (p,t,points,()))) (ZdC p t points j).1 L (ZdC p t points j).2=(ZwV p t points j).run (fun v=>some (Zkz v,tps (toForms Zeh (p,t,points,())))) fun j=>L (ZdC p t points j).1 (ZdC p t points j).2:=fun L j=>nomatch j
noncomputable def Zwv:Run:=entG Zeh Zkz (fun a=>ZhZ a.1 a.2.1 a.2.2.1) (fun a=>Zia a.1 a.2.1 a.2.2.1)
theorem ZCE:EntOK Go.Proofs.Tryz.prog 9 Zwv:=ZI (tb:=ZnR) (c:=Zk3) ZCH (by kernel_rfl) (by kernel_rfl) (by kernel_rfl) (fun a=>by kernel_rfl) fun ⟨p,t,points,_⟩ hk=>Zl (c:=Zk3) (K:=fun v=>(Zkz v,tps (toForms Zeh (p,t,points,())))) (S:=ZdC p t points) (by kernel_rfl) (ZCu p t points) (ZC2 p t points) (ZGC p t points hk)
end
end Go.Ev
end

section
open Go Go.Ev
namespace Go.Ev
def renComp:Go.Shelf.Ren:=⟨fun n=>if n=20 then 75 else n,
 fun n=>if n=22 then 23 else n,
 fun n=>n⟩
theorem Zyy:Go.Proofs.Lays2.n20 Go.Proofs.Tryz.prog renComp where
 mixed:=by kernel_rfl
 f20:=by kernel_rfl
 t0:=by kernel_rfl
 a0:=fun w=>by kernel_rfl
 z0:=fun w=>by kernel_rfl
 v0:=fun w=>by kernel_rfl
 t3:=by kernel_rfl
 a3:=fun w=>by kernel_rfl
 z3:=fun w=>by kernel_rfl
 v3:=fun w=>by kernel_rfl
 t4:=by kernel_rfl
 a4:=fun w=>by kernel_rfl
 z4:=fun w=>by kernel_rfl
 v4:=fun w=>by kernel_rfl
 t22:=by kernel_rfl
 a22:=fun w=>by kernel_rfl
 z22:=fun w=>by kernel_rfl
 v22:=fun w=>by kernel_rfl
 i3:=by kernel_rfl
theorem compOK:CompactOK Go.Proofs.Tryz.prog 75:=⟨fun blk off cap zs w h1 h2 h3=>Go.Proofs.Any.slices_Compact_int Zyy blk off cap zs w h1 h2 h3,fun a cap w=>Go.Proofs.Any.slices_Compact_int_empty Zyy a cap w⟩
noncomputable section
noncomputable def ZD9:Run:=rowRun (entO [.row 3 (.int .i64)] (fun (r:List Int)=>(.rw 3 (.int .i64) r,[.top])) (fun _=>true) (fun a=>Go.Lib.compact a.1))
theorem ZKO:EntOK Go.Proofs.Tryz.prog 75 ZD9:=ZAw (Zw1 (Zqy (Zi7 (fn:=Go.Proofs.Tryz.f75) (c:=Go.Proofs.Tryz.f75.body.getD .skip) (by kernel_rfl) (by kernel_rfl) (by kernel_rfl))) fun a _=>ZHk compOK a.1)
noncomputable def Zxb:PSig:=[.row 3 (.int .i64)]
def ZhI (l:List Int):List Int:=putsL [] l
noncomputable def Zs7:List Int→Ans:=fun r=>(.rw 3 (.int .i64) r,[.top])
noncomputable def riB:Code:=Go.Proofs.Tryz.f40.body.getD .skip
noncomputable def ri1:Code:=fstC riB
noncomputable def ri2:Code:=fstC (sndC riB)
noncomputable def ri3:Code:=sndC (sndC riB)
noncomputable def riT:Tbl:=[(75,ZD9)]
theorem ZQV:∀p∈riT,EntOK Go.Proofs.Tryz.prog p.1 p.2:=Zg ZKO Zt
theorem ZRa:riB=.seq ri1 (.seq (.region (ridC ri2) (ropsC ri2) false) ri3):=by kernel_rfl
noncomputable def riS (l:List Int):St:=⟨mkTm 7 [(0,.own 1 0 none)],[(1,0,.row 3 (.int .i64) l false)]⟩
theorem ri_1 (l:List Int) (L:Lt) (k:Kt) (x:Nat→Kt) (r:Kt):evC Go.Proofs.Tryz.prog (clOf riT) [] L ri1 0 (fun t=>k (norm Go.Proofs.Tryz.prog ⟨[0],[]⟩ t)) x r (riS l)=k (riS l):=by kernel_rfl
theorem ri_3 (l:List Int) (L:Lt):evC Go.Proofs.Tryz.prog (clOf riT) [] L ri3 0 (finA Go.Proofs.Tryz.prog [] Go.Proofs.Tryz.f40 [.rw 3 (.int .i64) l]) (fun _ _=>none) (finA Go.Proofs.Tryz.prog [] Go.Proofs.Tryz.f40 [.rw 3 (.int .i64) l]) (riS (sorted l))=some (.rw 3 (.int .i64) (risL l),[.top]):=by kernel_rfl
theorem ZOj (l:List Int):risL l=putsL [] l:=ZoI ZAQ (Znv .nil) fun x=>by rw[ZMm,ZwC];simp
def Zdq (l:List Int):Bool:=decide (l.length < 4611686018427387904)
theorem ZxK (l:List Int) (hk:Zdq l=true):CallOK Go.Proofs.Tryz.prog 40 (toPs Zxb (l,())) (Zs7 (ZhI l)):=by
 obtain ⟨hcl,hdet⟩:=Zp1 ZQV
 refine Znj (tb:=[]) (fn:=Go.Proofs.Tryz.f40) (c:=riB) (vs:=[.own 1 0 none]) (st:=⟨[],[(1,0,.row 3 (.int .i64) l false)]⟩) (by kernel_rfl) (by kernel_rfl) (by kernel_rfl) ?_
 intro _ Mod F0 w0 a w hr
 have hr:Rel Mod F0 w0 (riS l) a w:=hr
 rw[ZRa]
 refine wp_seq (piece hcl hdet (norm Go.Proofs.Tryz.prog ⟨[0],[]⟩) (fun h=>Z1 h) (ri_1 l) hr fun a w hr=>?_)
 refine wp_seq (wp_region ?_)
 rw[show List.range (ropsC ri2).size=[0,1] from by kernel_rfl]
 refine evOp hcl (o:=opC ri2 0) (st1:=(riS l).put (some 3) (.own 1 0 none)) (by kernel_rfl) (by kernel_rfl) (fun k=>by kernel_rfl) hr fun a w hr=>?_
 refine handOp (o:=opC ri2 1) (by kernel_rfl) (by kernel_rfl) ?_
 refine sortStep (ts:=3) (id:=1) (ver:=0) (E:=3) (l:=l) (c:=(match (opC ri2 1).op with |.call c=>c | _=>default)) (fn:=Go.Proofs.Tryz.f74) (body:=Go.Proofs.Tryz.f74.body.getD .skip) (by kernel_rfl) (by kernel_rfl) (by kernel_rfl) (by kernel_rfl) (by kernel_rfl) (by kernel_rfl) (by kernel_rfl) (by kernel_rfl) sortOK (of_decide_eq_true hk) hr fun a w hr=>?_
 have hr:Rel Mod F0 w0 (riS (sorted l)) a w:=Z1 (P:=Go.Proofs.Tryz.prog) (lab:=⟨[0],[]⟩) hr
 unfold Zs7 ZhI
 rw[←ZOj]
 exact endStep hcl hdet (ri_3 l) hr
noncomputable def Znp:Run:=rowRun (entO Zxb Zs7 (fun a=>Zdq a.1) (fun a=>ZhI a.1))
theorem Zpd:EntOK Go.Proofs.Tryz.prog 40 Znp:=ZAw (Zw1 (Zqy (Zi7 (fn:=Go.Proofs.Tryz.f40) (c:=riB) (by kernel_rfl) (by kernel_rfl) (by kernel_rfl))) fun a h=>ZxK a.1 h)
end
end Go.Ev
end

section
open Go Go.Ev
namespace Go.Ev
def renClo:Go.Shelf.Ren:=⟨fun n=>if n=15 then 61 else n,
 fun n=>if n=22 then 23 else n,
 fun n=>n⟩
theorem ZvD:Go.Proofs.Lays2.n15 Go.Proofs.Tryz.prog renClo where
 mixed:=by kernel_rfl
 f15:=by kernel_rfl
 t3:=by kernel_rfl
 a3:=fun w=>by kernel_rfl
 z3:=fun w=>by kernel_rfl
 v3:=fun w=>by kernel_rfl
 t4:=by kernel_rfl
 a4:=fun w=>by kernel_rfl
 z4:=fun w=>by kernel_rfl
 v4:=fun w=>by kernel_rfl
 t22:=by kernel_rfl
 a22:=fun w=>by kernel_rfl
 z22:=fun w=>by kernel_rfl
 v22:=fun w=>by kernel_rfl
 i3:=by kernel_rfl
theorem cloOK:CloneOK Go.Proofs.Tryz.prog 61 3:=⟨fun b off n c zs w h1 h2 h3=>Go.Proofs.Any.slices_Clone_int ZvD b off n c zs w h1 h2 h3,fun n c w=>Go.Proofs.Any.slices_Clone_int_nil ZvD n c w,fun a c w=>Go.Proofs.Any.slices_Clone_int_zero ZvD a c w⟩
noncomputable section
def Zmj:Sig:=[(false,.sl (.int .i64))]
def ZL (l:List Int):List Int:=l
def Za5 (l:List Int):Bool:=decide (l.length*8≤140737488355328)
def Zn1:List Int→AV:=fun r=>.rw 3 (.int .i64) r
def ZcS:Run:=entG Zmj Zn1 (fun a=>Za5 a.1) (fun a=>ZL a.1)
theorem Zf9:EntOK Go.Proofs.Tryz.prog 61 ZcS:=ZB6 (Zi7 (fn:=Go.Proofs.Tryz.f61) (c:=Go.Proofs.Tryz.f61.body.getD .skip) (by kernel_rfl) (by kernel_rfl) (by kernel_rfl)) fun a h=>ZNj cloOK a.1 (of_decide_eq_true h)
end
end Go.Ev
end

section
open Go Go.Ev
namespace Go.Ev
def renDel:Go.Shelf.Ren:=⟨fun n=>if n=23 then 60 else n,
 fun n=>if n=22 then 23 else n,
 fun n=>n⟩
theorem ZKS:Go.Proofs.Lays2.n23 Go.Proofs.Tryz.prog renDel where
 mixed:=by kernel_rfl
 f23:=by kernel_rfl
 t0:=by kernel_rfl
 a0:=fun w=>by kernel_rfl
 z0:=fun w=>by kernel_rfl
 v0:=fun w=>by kernel_rfl
 t3:=by kernel_rfl
 a3:=fun w=>by kernel_rfl
 z3:=fun w=>by kernel_rfl
 v3:=fun w=>by kernel_rfl
 t4:=by kernel_rfl
 a4:=fun w=>by kernel_rfl
 z4:=fun w=>by kernel_rfl
 v4:=fun w=>by kernel_rfl
 t22:=by kernel_rfl
 a22:=fun w=>by kernel_rfl
 z22:=fun w=>by kernel_rfl
 v22:=fun w=>by kernel_rfl
 i3:=by kernel_rfl
theorem delOK:DeleteOK Go.Proofs.Tryz.prog 60:=fun blk off cap i j zs w h1 h2 h3 h4 h5=>Go.Proofs.Any.slices_Delete_int ZKS blk off cap i j zs w h1 h2 h3 h4 h5
noncomputable section
def Zlk:PSig:=[.row 3 (.int .i64),.dat false (.int .i64),.dat false (.int .i64)]
def ZaA (l:List Int) (i j:Int):List Int:=l.take i.toNat++l.drop j.toNat
def Zcn (l:List Int) (i j:Int):Bool:=decide (0≤i∧i≤j∧j≤(l.length:Int)∧0 < l.length)
def Zme:List Int→Ans:=fun r=>(.rw 3 (.int .i64) r,[.top,.top,.top])
def Zf8:Run:=rowRun (entO Zlk Zme (fun a=>Zcn a.1 a.2.1 a.2.2.1) (fun a=>ZaA a.1 a.2.1 a.2.2.1))
theorem Zl8:EntOK Go.Proofs.Tryz.prog 60 Zf8:=ZAw (Zw1 (Zqy (Zi7 (fn:=Go.Proofs.Tryz.f60) (c:=Go.Proofs.Tryz.f60.body.getD .skip) (by kernel_rfl) (by kernel_rfl) (by kernel_rfl))) fun a h=>by
 obtain ⟨h1,h2,h3,h4⟩:=of_decide_eq_true h
 exact ZKD delOK a.1 h1 h2 h3 (List.length_pos_iff.1 h4))
end
end Go.Ev
end

section
open Go Go.Ev
namespace Go.Ev
noncomputable section
def Zhb:Sig:=[(true,(.sl Za)),(false,(.sl Zd)),(false,(.sl (.int .i64)))]
noncomputable def ZuM:Tbl:=[(40,Znp),(61,ZcS),(60,Zf8),(24,ZkB)]
theorem ZKd:∀p∈ZuM,EntOK Go.Proofs.Tryz.prog p.1 p.2:=Zg Zpd (Zg Zf9 (Zg Zl8 (Zg ZnX (Zt))))
noncomputable def ZpD:Code:=Go.Proofs.Tryz.f31.body.getD .skip
def ZsU:Tb:=[(4,⟨[1,3,7,12,13,14],[(8,46)]⟩),(13,⟨[1,3,7,10],[]⟩)]
inductive ZlF where | l4 (h:Int) (out:List Int) | l13 (out:List Int) (i:Int)
def Zey (t:List (El Za)) (all:List (El Zd)) (points:List Int):ZlF→JT ZlF (List Int) |.l4 h out=>.br (decide (h < (Int.ofNat (List.length points)))) (.br ((decide ((0:Int)≤h))&&(decide (h < (Int.ofNat (List.length points))))) (.br (decide ((List.getD points (Int.toNat h) (dflt (.int .i64)))≥(0:Int))) (.br (decide ((List.getD points (Int.toNat h) (dflt (.int .i64))) < (Int.ofNat (List.length t)))) (.br (Nat.ble (((List.length out)+1)*8) limit) (.jmp (.l4 (IntKind.i64.wrap (h+(1:Int))) (out++[(List.getD points (Int.toNat h) (dflt (.int .i64)))]))) (.no)) (.jmp (.l4 (IntKind.i64.wrap (h+(1:Int))) out))) (.jmp (.l4 (IntKind.i64.wrap (h+(1:Int))) out))) (.no)) (.br (Zdq out) (.jmp (.l13 (ZhI out) (0:Int))) (.no)) |.l13 out i=>.br (decide (i < (Int.ofNat (List.length out)))) (.br (Za5 out) (.br (Zcn (ZL out) i (IntKind.i64.wrap (i+(1:Int)))) (.br (ZaC t all (ZaA (ZL out) i (IntKind.i64.wrap (i+(1:Int))))) (.br ((Int.ofNat (List.length (ZbG t all (ZaA (ZL out) i (IntKind.i64.wrap (i+(1:Int)))))))==(0:Int)) (.jmp (.l13 (ZaA (ZL out) i (IntKind.i64.wrap (i+(1:Int)))) i)) (.jmp (.l13 out (IntKind.i64.wrap (i+(1:Int)))))) (.no)) (.no)) (.no)) (.leaf out)
def Zyv (t:List (El Za)) (all:List (El Zd)) (points:List Int):JT ZlF (List Int):=.jmp (.l4 (0:Int) [])
def Zqe:List Int→AV:=fun (r:List Int)=>.rw 3 (.int .i64) r
def ZgB (t:List (El Za)) (all:List (El Zd)) (points:List Int):ZlF→Nat×St |.l4 h out=>(4,⟨mkTm 54 [(1,.d (.sl Zd) all),(3,.pt 4 0 0),(7,.own 8 0 none),(12,.d (.sl (.int .i64)) points),(13,.d (.int .i64) (Int.ofNat (List.length points))),(14,.d (.int .i64) h)],[(4,0,.box 33 [.d (.sl Za) t] none),(8,0,.row 3 (.int .i64) out false)]⟩) |.l13 out i=>(13,⟨mkTm 54 [(1,.d (.sl Zd) all),(3,.pt 4 0 0),(7,.own 8 0 none),(10,.d (.int .i64) i)],[(4,0,.box 33 [.d (.sl Za) t] none),(8,0,.row 3 (.int .i64) out false)]⟩)
theorem ZIu (t:List (El Za)) (all:List (El Zd)) (points:List Int) (L:Lt):entryA Go.Proofs.Tryz.prog (clOf ZuM) ZsU Go.Proofs.Tryz.f31 ZpD L (toForms Zhb (t,all,points,()))=(Zyv t all points).run (fun v=>some (Zqe v,tps (toForms Zhb (t,all,points,())))) fun j=>L (ZgB t all points j).1 (ZgB t all points j).2:=by kernel_rfl
theorem ZJG (t:List (El Za)) (all:List (El Zd)) (points:List Int):∀(L:Lt) (j:ZlF),procOf (procsF Go.Proofs.Tryz.prog (clOf ZuM) ZsU Go.Proofs.Tryz.f31 ZpD (toForms Zhb (t,all,points,()))) (ZgB t all points j).1 L (ZgB t all points j).2=(Zey t all points j).run (fun v=>some (Zqe v,tps (toForms Zhb (t,all,points,())))) fun j=>L (ZgB t all points j).1 (ZgB t all points j).2 | L,.l4 h out=>by kernel_rfl | L,.l13 out i=>by kernel_rfl
end
end Go.Ev
end

section
open Go
namespace Go.Ev
noncomputable def ZaO (t:List (El Za)) (all:List (El Zd)) (points:List Int):List Int:=pruneV (uB t) t.length all points
def Zbu (t:List (El Za)) (all:List (El Zd)) (points:List Int):Bool:=flowOK t&&(decide (points.length < 1000000000000)&&decide (all.length < 1000000000000))
theorem ZMr {l:List Int} :(putsL [] l).length≤l.length:=by rw[←ZHc];exact ZzX
theorem ZLe (t:List (El Za)) (all:List (El Zd)) (points:List Int) (hk:Zbu t all points=true):Goes (Zey t all points) (Zyv t all points) (ZaO t all points):=by
 unfold Zbu at hk
 rw[Bool.and_eq_true,Bool.and_eq_true,decide_eq_true_eq,decide_eq_true_eq] at hk
 obtain ⟨hf,hp,hN⟩:=hk
 have second:∀rest done:List Int,(done++rest).length < 1000000000000→Goes (Zey t all points) (.jmp (.l13 (done++rest) (done.length:Int))) (pruneL (uB t) all done rest):=by
  intro rest
  induction rest with
  | nil=>
   intro done hl
   rw[Zi,Zey,List.append_nil,Ze,if_neg (by rw[Zv (Nat.lt_irrefl _)];decide)]
   exact .leaf
  | cons x r ih=>
   intro done hl
   have hlt:done.length < (done++x :: r).length:=by simp
   rw[Zi,Zey,Zo (by omega)]
   have hcl:Za5 (done++x :: r)=true:=decide_eq_true (by omega)
   have hvc:ZL (done++x :: r)=done++x :: r:=rfl
   rw[hvc]
   have hkd:Zcn (done++x :: r) (done.length:Int) ((done.length+1:Nat):Int)=true:=decide_eq_true ⟨by omega,by omega,by omega,by omega⟩
   have hvd:ZaA (done++x :: r) (done.length:Int) ((done.length+1:Nat):Int)=done++r:=by
    unfold ZaA
    rw[Int.toNat_natCast,Int.toNat_natCast,List.take_left' rfl,List.drop_append]
    simp
   rw[hvd]
   have hlr:(done++r).length < 1000000000000:=by simp at hl ⊢;omega
   have hkm:ZaC t all (done++r)=true:=by
    unfold ZaC
    rw[hf,decide_eq_true (show (done++r).length < 4611686018427387904 by omega),decide_eq_true hN];rfl
   have hvm:ZbG t all (done++r)=all.filter (uB t (done++r)):=rfl
   rw[Ze,if_pos (ZO hlt),Ze,if_pos hcl,Ze,if_pos hkd,Ze,if_pos hkm,hvm,Ze,pruneL]
   by_cases hz:(all.filter (uB t (done++r))).length=0
   ·rw[if_pos (by rw[hz];rfl),if_pos hz]
    exact ih done hlr
   ·rw[if_neg (by simp only[beq_iff_eq,Int.ofNat_eq_natCast];omega),if_neg hz]
    have:=ih (done++[x]) (by rw[List.append_assoc];exact hl)
    rw[List.append_assoc,List.length_append] at this
    exact this
 have first:∀k,k≤points.length→∀out:List Int,out.length≤k→Goes (Zey t all points) (.jmp (.l4 (k:Int) out)) (pruneL (uB t) all [] (putsL [] (out++(points.drop k).filter (inR t.length)))):=by
  refine down ?_ fun k hk ih=>?_
  ·intro out ho
   rw[Zi,Zey,Ze,if_neg (by rw[Zv (Nat.lt_irrefl _)];decide),List.drop_length,Ze,if_pos (show Zdq out=true from decide_eq_true (by omega))]
   simp only[List.filter_nil,List.append_nil]
   have h1:(putsL [] out).length≤out.length:=ZMr
   exact second (putsL [] out) [] (by simp;omega)
  ·intro out ho
   have b1:Nat.ble ((out.length+1)*8) limit=true:=Nat.ble_eq_true_of_le (by unfold limit;omega)
   rw[Zi,Zey,ZN hk,List.filter_cons]
   simp only[Ze,ZO hk,nng,Bool.and_self,if_true,Int.toNat_natCast,ZH hk,b1,Zo (k:=k) (by omega)]
   have e2:decide (points[k] < Int.ofNat t.length)=decide (points[k] < (t.length:Int)):=rfl
   have e1:inR t.length points[k]=(decide (points[k]≥0)&&decide (points[k] < (t.length:Int))):=rfl
   rw[e1,e2]
   cases c1:decide (points[k]≥0) with
   | true=>
    cases c2:decide (points[k] < (t.length:Int)) with
    | true=>
     have:=ih (out++[points[k]]) (by simp;omega)
     rw[List.append_assoc] at this
     exact this
    | false=>exact ih out (by omega)
   | false=>exact ih out (by omega)
 have:=first 0 (Nat.zero_le _) [] (Nat.zero_le _)
 rw[List.nil_append,List.drop_zero] at this
 exact this
end Go.Ev
end

section
open Go Go.Ev
namespace Go.Ev
noncomputable section
noncomputable def Zu3:Run:=entG Zhb Zqe (fun a=>Zbu a.1 a.2.1 a.2.2.1) (fun a=>ZaO a.1 a.2.1 a.2.2.1)
theorem ZyI:EntOK Go.Proofs.Tryz.prog 31 Zu3:=ZI (tb:=ZsU) (c:=ZpD) ZKd (by kernel_rfl) (by kernel_rfl) (by kernel_rfl) (fun a=>by kernel_rfl) fun ⟨t,all,points,_⟩ hk=>Zl (c:=ZpD) (K:=fun v=>(Zqe v,tps (toForms Zhb (t,all,points,())))) (S:=ZgB t all points) (by kernel_rfl) (ZIu t all points) (ZJG t all points) (ZLe t all points hk)
end
end Go.Ev
end

section
open Go Go.Ev
namespace Go.Ev
noncomputable section
def Zhd:Sig:=[(true,Zc),(false,(.int .i64)),(false,(.sl (.int .i64)))]
noncomputable def ZuU:Tbl:=[(23,ZlA),(26,ZfW),(25,Zw0),(31,Zu3)]
theorem ZHE:∀p∈ZuU,EntOK Go.Proofs.Tryz.prog p.1 p.2:=Zg Zm8 (Zg Zgo (Zg Zwk (Zg ZyI (Zt))))
noncomputable def ZoQ:Code:=Go.Proofs.Tryz.f11.body.getD .skip
def Zsc:Tb:=[(hintK,⟨[],[(1,46)]⟩)]
def ZB5 (p:El Zc) (t:Int) (points:List Int):Empty→JT Empty (List Int):=fun j=>nomatch j
def Zya (p:El Zc) (t:Int) (points:List Int):JT Empty (List Int):=.br (Zbc p t) (.br (! (Zba p t)) (.leaf []) (.br ((decide ((0:Int)≤t))&&(decide (t < (Int.ofNat (List.length p.2))))) (.br (ZS p) (.br (ZcB (Zj p) t) (.br (Zbu (List.getD p.2 (Int.toNat t) (dflt (.sl Za))) (Z6 (Zj p) t) points) (.leaf (ZaO (List.getD p.2 (Int.toNat t) (dflt (.sl Za))) (Z6 (Zj p) t) points)) (.no)) (.no)) (.no)) (.no))) (.no)
def Zb1 (p:El Zc) (t:Int) (points:List Int):List Int:=bif (Zbc p t) then bif (! (Zba p t)) then [] else bif ((decide ((0:Int)≤t))&&(decide (t < (Int.ofNat (List.length p.2))))) then bif (ZS p) then bif (ZcB (Zj p) t) then bif (Zbu (List.getD p.2 (Int.toNat t) (dflt (.sl Za))) (Z6 (Zj p) t) points) then (ZaO (List.getD p.2 (Int.toNat t) (dflt (.sl Za))) (Z6 (Zj p) t) points) else [] else [] else [] else [] else []
def Zlp (p:El Zc) (t:Int) (points:List Int):Bool:=bif (Zbc p t) then bif (! (Zba p t)) then true else bif ((decide ((0:Int)≤t))&&(decide (t < (Int.ofNat (List.length p.2))))) then bif (ZS p) then bif (ZcB (Zj p) t) then bif (Zbu (List.getD p.2 (Int.toNat t) (dflt (.sl Za))) (Z6 (Zj p) t) points) then true else false else false else false else false else false
theorem ZLK (p:El Zc) (t:Int) (points:List Int) (hk:Zlp p t points=true):Goes (ZB5 p t points) (Zya p t points) (Zb1 p t points):=Goes.brk hk (fun hk=>Goes.brk hk (fun hk=>Goes.leaf) (fun hk=>Goes.brk hk (fun hk=>Goes.brk hk (fun hk=>Goes.brk hk (fun hk=>Goes.brk hk (fun hk=>Goes.leaf) (fun hk=>Goes.nok hk)) (fun hk=>Goes.nok hk)) (fun hk=>Goes.nok hk)) (fun hk=>Goes.nok hk))) (fun hk=>Goes.nok hk)
def ZqA:List Int→AV:=fun (r:List Int)=>.rw 3 (.int .i64) r
def ZgR (p:El Zc) (t:Int) (points:List Int):Empty→Nat×St:=fun j=>nomatch j
theorem ZId (p:El Zc) (t:Int) (points:List Int) (L:Lt):entryA Go.Proofs.Tryz.prog (clOf ZuU) Zsc Go.Proofs.Tryz.f11 ZoQ L (toForms Zhd (p,t,points,()))=(Zya p t points).run (fun v=>some (ZqA v,tps (toForms Zhd (p,t,points,())))) fun j=>L (ZgR p t points j).1 (ZgR p t points j).2:=by kernel_rfl
theorem ZHO (p:El Zc) (t:Int) (points:List Int):∀(L:Lt) (j:Empty),procOf (procsF Go.Proofs.Tryz.prog (clOf ZuU) Zsc Go.Proofs.Tryz.f11 ZoQ (toForms Zhd (p,t,points,()))) (ZgR p t points j).1 L (ZgR p t points j).2=(ZB5 p t points j).run (fun v=>some (ZqA v,tps (toForms Zhd (p,t,points,())))) fun j=>L (ZgR p t points j).1 (ZgR p t points j).2:=fun L j=>nomatch j
noncomputable def ZBn:Run:=entG Zhd ZqA (fun a=>Zlp a.1 a.2.1 a.2.2.1) (fun a=>Zb1 a.1 a.2.1 a.2.2.1)
theorem ZHK:EntOK Go.Proofs.Tryz.prog 11 ZBn:=ZI (tb:=Zsc) (c:=ZoQ) ZHE (by kernel_rfl) (by kernel_rfl) (by kernel_rfl) (fun a=>by kernel_rfl) fun ⟨p,t,points,_⟩ hk=>Zl (c:=ZoQ) (K:=fun v=>(ZqA v,tps (toForms Zhd (p,t,points,())))) (S:=ZgR p t points) (by kernel_rfl) (ZId p t points) (ZHO p t points) (ZLK p t points hk)
end
end Go.Ev
end

section
open Go Go.Ev
namespace Go.Ev
noncomputable section
def ZiV:Sig:=[(false,(.sl (.int .i64))),(false,(.int .i64))]
noncomputable def Zxt:Tbl:=[]
theorem ZKC:∀p∈Zxt,EntOK Go.Proofs.Tryz.prog p.1 p.2:=Zt
noncomputable def ZtN:Code:=Go.Proofs.Tryz.f32.body.getD .skip
def Zvr:Tb:=[(3,⟨[0,1,5],[]⟩),(7,⟨[0,1,5,31],[]⟩),(hintK,⟨[1],[]⟩)]
inductive Zot where | l3 (k:Int) | l7 (h:Bool) (k:Int)
def ZiJ (l:List Int) (n:Int):Zot→JT Zot (List Int) |.l3 k=>.br (decide (k < (Int.ofNat (List.length l)))) (.br ((decide ((0:Int)≤k))&&(decide (k < (Int.ofNat (List.length l))))) (.br (decide ((List.getD l (Int.toNat k) (dflt (.int .i64))) < n)) (.jmp (.l3 (IntKind.i64.wrap (k+(1:Int))))) (.br (decide (k < (Int.ofNat (List.length l)))) (.br ((decide ((0:Int)≤k))&&(decide (k < (Int.ofNat (List.length l))))) (.jmp (.l7 ((List.getD l (Int.toNat k) (dflt (.int .i64)))==n) k)) (.no)) (.jmp (.l7 false k)))) (.no)) (.br (decide (k < (Int.ofNat (List.length l)))) (.br ((decide ((0:Int)≤k))&&(decide (k < (Int.ofNat (List.length l))))) (.jmp (.l7 ((List.getD l (Int.toNat k) (dflt (.int .i64)))==n) k)) (.no)) (.jmp (.l7 false k))) |.l7 h k=>.br h (.leaf l) (.br ((((decide ((0:Int)≤k))&&(decide (k≤(Int.ofNat (List.length l)))))&&true)&&(decide ((0:Int)≤k))) (.br (Nat.ble ((List.length (List.take (Int.toNat k) l))*8) limit) (.br (Nat.ble (((List.length (List.take (Int.toNat k) l))+1)*8) limit) (.br ((((decide ((0:Int)≤(Int.ofNat (List.length l))))&&(decide ((Int.ofNat (List.length l))≤(Int.ofNat (List.length l)))))&&(decide ((0:Int)≤k)))&&(decide (k≤(Int.ofNat (List.length l))))) (.br (Nat.ble (((List.length ((List.take (Int.toNat k) l)++[n]))+(List.length (List.drop (Int.toNat k) (List.take (List.length l) l))))*8) limit) (.leaf (((List.take (Int.toNat k) l)++[n])++(List.drop (Int.toNat k) (List.take (List.length l) l)))) (.no)) (.no)) (.no)) (.no)) (.no))
def Zz0 (l:List Int) (n:Int):JT Zot (List Int):=.jmp (.l3 (0:Int))
def ZtF:List Int→AV:=fun (r:List Int)=>.d (.sl (.int .i64)) r
def ZiE (l:List Int) (n:Int):Zot→Nat×St |.l3 k=>(3,⟨mkTm 44 [(0,.d (.sl (.int .i64)) l),(1,.d (.int .i64) n),(5,.d (.int .i64) k)],[]⟩) |.l7 h k=>(7,⟨mkTm 44 [(0,.d (.sl (.int .i64)) l),(1,.d (.int .i64) n),(5,.d (.int .i64) k),(31,.d .bool h)],[]⟩)
theorem ZLg (l:List Int) (n:Int) (L:Lt):entryA Go.Proofs.Tryz.prog (clOf Zxt) Zvr Go.Proofs.Tryz.f32 ZtN L (toForms ZiV (l,n,()))=(Zz0 l n).run (fun v=>some (ZtF v,tps (toForms ZiV (l,n,())))) fun j=>L (ZiE l n j).1 (ZiE l n j).2:=by kernel_rfl
theorem ZL0 (l:List Int) (n:Int):∀(L:Lt) (j:Zot),procOf (procsF Go.Proofs.Tryz.prog (clOf Zxt) Zvr Go.Proofs.Tryz.f32 ZtN (toForms ZiV (l,n,()))) (ZiE l n j).1 L (ZiE l n j).2=(ZiJ l n j).run (fun v=>some (ZtF v,tps (toForms ZiV (l,n,())))) fun j=>L (ZiE l n j).1 (ZiE l n j).2 | L,.l3 k=>by kernel_rfl | L,.l7 h k=>by kernel_rfl
end
end Go.Ev
end

section
open Go
namespace Go.Ev
def Ztz (l:List Int) (n:Int):List Int:=putL n l
def Ztp (l:List Int) (n:Int):Bool:=decide (l.length < 1000000000000)
theorem ZLI {n:Int} :∀ {l:List Int} {k:Nat},k≤l.length→(∀j (h:j < l.length),j < k→l[j] < n)→(∀h:k < l.length,¬l[k] < n)→
  putL n l=if h:k < l.length then (if l[k]=n then l else l.take k++n :: l.drop k) else l++[n]
 | [],k,hk,_,_=>by
  have:k=0:=by simpa using hk
  subst this
  rfl
 | x :: r,0,hk,h1,h2=>by
  have h2:¬x < n:=h2 (by simp)
  unfold putL
  rw[if_neg h2,dif_pos (by simp)]
  rfl
 | x :: r,k+1,hk,h1,h2=>by
  have hx:x < n:=h1 0 (by simp) (by omega)
  have ih:=ZLI (n:=n) (l:=r) (k:=k) (by simpa using hk) (fun j h hj=>by
   have:=h1 (j+1) (by simpa using h) (by omega)
   simpa using this) (fun h=>by
   have:=h2 (by simpa using h)
   simpa using this)
  unfold putL
  rw[if_pos hx,ih]
  by_cases hkl:k < r.length
  ·have hkl':k+1 < (x :: r).length:=by simpa using hkl
   rw[dif_pos hkl,dif_pos hkl']
   have:(x :: r)[k+1]=r[k]:=rfl
   rw[this]
   split <;> rfl
  ·rw[dif_neg hkl,dif_neg (by simpa using hkl)]
   rfl
theorem ZNo (l:List Int) (n:Int) (hk:Ztp l n=true):Goes (ZiJ l n) (Zz0 l n) (Ztz l n):=by
 have hN:=of_decide_eq_true hk
 have fin:∀(k:Nat) (e:Bool),k≤l.length→(e=false→l.take k++n :: l.drop k=putL n l)→(e=true→l=putL n l)→Goes (ZiJ l n) (.jmp (.l7 e (k:Int))) (putL n l):=by
  intro k e hkl h1 h2
  rw[Zi,ZiJ,Ze]
  cases e with
  | true=>rw[if_pos rfl,←h2 rfl];exact .leaf
  | false=>
   have e1:decide ((k:Int)≤Int.ofNat l.length)=true:=decide_eq_true (by simp;omega)
   have e2:decide ((0:Int)≤Int.ofNat l.length)=true:=decide_eq_true (by simp)
   have b1:Nat.ble ((l.take k).length*8) limit=true:=Nat.ble_eq_true_of_le (by rw[List.length_take];unfold limit;omega)
   have b2:Nat.ble (((l.take k).length+1)*8) limit=true:=Nat.ble_eq_true_of_le (by rw[List.length_take];unfold limit;omega)
   have b3:Nat.ble (((l.take k++[n]).length+(l.drop k).length)*8) limit=true:=Nat.ble_eq_true_of_le (by rw[List.length_append,List.length_take,List.length_drop,List.length_singleton];unfold limit;omega)
   rw[if_neg (by decide)]
   simp only[Ze,nng,e1,e2,Int.le_refl,decide_true,Bool.and_self,if_true,Int.toNat_natCast,List.take_length,b1,b2,b3]
   rw[←h1 rfl,List.append_assoc]
   exact .leaf
 have loop:∀k,k≤l.length→(∀j (h:j < l.length),j < k→l[j] < n)→Goes (ZiJ l n) (.jmp (.l3 (k:Int))) (putL n l):=by
  refine down ?_ fun k hk ih=>?_
  ·intro h1
   rw[Zi,ZiJ,Ze,if_neg (by rw[Zv (Nat.lt_irrefl _)];decide),Ze,if_neg (by rw[Zv (Nat.lt_irrefl _)];decide)]
   refine fin _ false (Nat.le_refl _) (fun _=>?_) (fun h=>by cases h)
   rw[ZLI (Nat.le_refl _) h1 (fun h=>absurd h (Nat.lt_irrefl _)),dif_neg (Nat.lt_irrefl _),List.take_length,List.drop_length]
  ·intro h1
   rw[Zi,ZiJ]
   simp only[Ze,ZO hk,nng,Bool.and_self,if_true,Int.toNat_natCast,ZH hk,Zo (k:=k) (by omega)]
   by_cases c:l[k] < n
   ·rw[if_pos (decide_eq_true c)]
    refine ih fun j h hj=>?_
    by_cases e:j=k
    ·subst e;exact c
    ·exact h1 j h (by omega)
   ·rw[if_neg (by simpa using c)]
    have hp:=ZLI (Nat.le_of_lt hk) h1 (fun _=>c)
    rw[dif_pos hk] at hp
    refine fin k _ (Nat.le_of_lt hk) (fun h=>?_) (fun h=>?_)
    ·rw[hp,if_neg (by simpa using h)]
    ·rw[hp,if_pos (by simpa using h)]
 exact loop 0 (Nat.zero_le _) fun j h hj=>absurd hj (Nat.not_lt_zero _)
end Go.Ev
end

section
open Go Go.Ev
namespace Go.Ev
noncomputable section
noncomputable def ZD5:Run:=entG ZiV ZtF (fun a=>Ztp a.1 a.2.1) (fun a=>Ztz a.1 a.2.1)
theorem ZKK:EntOK Go.Proofs.Tryz.prog 32 ZD5:=ZI (tb:=Zvr) (c:=ZtN) ZKC (by kernel_rfl) (by kernel_rfl) (by kernel_rfl) (fun a=>by kernel_rfl) fun ⟨l,n,_⟩ hk=>Zl (c:=ZtN) (K:=fun v=>(ZtF v,tps (toForms ZiV (l,n,())))) (S:=ZiE l n) (by kernel_rfl) (ZLg l n) (ZL0 l n) (ZNo l n hk)
end
end Go.Ev
end

section
open Go Go.Ev
namespace Go.Ev
noncomputable section
def Zdf:Sig:=[(false,(.sl (.int .i64))),(false,(.int .i64))]
noncomputable def ZnV:Tbl:=[]
theorem ZAB:∀p∈ZnV,EntOK Go.Proofs.Tryz.prog p.1 p.2:=Zt
noncomputable def Zi8:Code:=Go.Proofs.Tryz.f34.body.getD .skip
def ZlL:Tb:=[(4,⟨[0,1,5,6],[(6,46)]⟩)]
inductive Zgn where | l4 (i:Int) (out:List Int)
def Zgj (l:List Int) (n:Int):Zgn→JT Zgn (List Int) |.l4 i out=>.br (decide (i < (Int.ofNat (List.length l)))) (.br ((decide ((0:Int)≤i))&&(decide (i < (Int.ofNat (List.length l))))) (.br ((List.getD l (Int.toNat i) (dflt (.int .i64))) !=n) (.br ((decide ((0:Int)≤i))&&(decide (i < (Int.ofNat (List.length l))))) (.br (Nat.ble (((List.length out)+1)*8) limit) (.jmp (.l4 (IntKind.i64.wrap (i+(1:Int))) (out++[(List.getD l (Int.toNat i) (dflt (.int .i64)))]))) (.no)) (.no)) (.jmp (.l4 (IntKind.i64.wrap (i+(1:Int))) out))) (.no)) (.leaf out)
def ZrD (l:List Int) (n:Int):JT Zgn (List Int):=.jmp (.l4 (0:Int) [])
def Zjq:List Int→AV:=fun (r:List Int)=>.rw 3 (.int .i64) r
def ZcO (l:List Int) (n:Int):Zgn→Nat×St |.l4 i out=>(4,⟨mkTm 27 [(0,.d (.sl (.int .i64)) l),(1,.d (.int .i64) n),(5,.own 6 0 none),(6,.d (.int .i64) i)],[(6,0,.row 3 (.int .i64) out false)]⟩)
theorem ZAv (l:List Int) (n:Int) (L:Lt):entryA Go.Proofs.Tryz.prog (clOf ZnV) ZlL Go.Proofs.Tryz.f34 Zi8 L (toForms Zdf (l,n,()))=(ZrD l n).run (fun v=>some (Zjq v,tps (toForms Zdf (l,n,())))) fun j=>L (ZcO l n j).1 (ZcO l n j).2:=by kernel_rfl
theorem ZAk (l:List Int) (n:Int):∀(L:Lt) (j:Zgn),procOf (procsF Go.Proofs.Tryz.prog (clOf ZnV) ZlL Go.Proofs.Tryz.f34 Zi8 (toForms Zdf (l,n,()))) (ZcO l n j).1 L (ZcO l n j).2=(Zgj l n j).run (fun v=>some (Zjq v,tps (toForms Zdf (l,n,())))) fun j=>L (ZcO l n j).1 (ZcO l n j).2 | L,.l4 i out=>by kernel_rfl
end
end Go.Ev
end

section
open Go
namespace Go.Ev
def Zeo (l:List Int) (n:Int):List Int:=without l n
def Zgu (l:List Int) (n:Int):Bool:=decide (l.length < 1000000000000)
theorem ZCN (l:List Int) (n:Int) (hk:Zgu l n=true):Goes (Zgj l n) (ZrD l n) (Zeo l n):=by
 have hN:=of_decide_eq_true hk
 have loop:∀k,k≤l.length→∀out:List Int,out.length≤k→Goes (Zgj l n) (.jmp (.l4 (k:Int) out)) (out++(l.drop k).filter fun x=>x !=n):=by
  refine down ?_ fun k hk ih=>?_
  ·intro out ho
   rw[Zi,Zgj,Ze,if_neg (by rw[Zv (Nat.lt_irrefl _)];decide),List.drop_length]
   simp only[List.filter_nil,List.append_nil]
   exact .leaf
  ·intro out ho
   have b1:Nat.ble ((out.length+1)*8) limit=true:=Nat.ble_eq_true_of_le (by unfold limit;omega)
   rw[Zi,Zgj,ZN hk,List.filter_cons]
   simp only[Ze,ZO hk,nng,Bool.and_self,if_true,Int.toNat_natCast,ZH hk,b1,Zo (k:=k) (by omega)]
   by_cases c:(l[k] !=n)=true
   ·rw[if_pos c,if_pos c]
    have:=ih (out++[l[k]]) (by simp;omega)
    rw[List.append_assoc] at this
    exact this
   ·rw[if_neg c,if_neg c]
    exact ih out (by omega)
 have:=loop 0 (Nat.zero_le _) [] (Nat.zero_le _)
 rw[List.nil_append,List.drop_zero] at this
 exact this
end Go.Ev
end

section
open Go Go.Ev
namespace Go.Ev
noncomputable section
noncomputable def Zt7:Run:=entG Zdf Zjq (fun a=>Zgu a.1 a.2.1) (fun a=>Zeo a.1 a.2.1)
theorem ZAr:EntOK Go.Proofs.Tryz.prog 34 Zt7:=ZI (tb:=ZlL) (c:=Zi8) ZAB (by kernel_rfl) (by kernel_rfl) (by kernel_rfl) (fun a=>by kernel_rfl) fun ⟨l,n,_⟩ hk=>Zl (c:=Zi8) (K:=fun v=>(Zjq v,tps (toForms Zdf (l,n,())))) (S:=ZcO l n) (by kernel_rfl) (ZAv l n) (ZAk l n) (ZCN l n hk)
end
end Go.Ev
end

section
open Go Go.Ev
namespace Go.Ev
noncomputable section
def ZfE:Sig:=[(true,Zc),(false,(.int .i64)),(false,(.sl (.int .i64)))]
noncomputable def ZrX:Tbl:=[(27,ZuW),(32,ZD5),(30,Zph),(29,ZAZ),(33,ZAD),(34,Zt7),(28,Zse)]
theorem ZEQ:∀p∈ZrX,EntOK Go.Proofs.Tryz.prog p.1 p.2:=Zg Zza (Zg ZKK (Zg Zuc (Zg ZDC (Zg ZD2 (Zg ZAr (Zg Zws (Zt)))))))
noncomputable def ZmW:Code:=Go.Proofs.Tryz.f12.body.getD .skip
def ZoX:Tb:=[(7,⟨[1,2,3,7,8],[(8,47)]⟩),(15,⟨[1,3,7,9,10],[(10000000000000000000000000000000000000000000000000000000000008,1)]⟩),(hintK,⟨[],[(1,47)]⟩)]
inductive Zjx where | l7 (l:List Int) (i:Int) | l15 (l:List Int) (i:Int)
def Zdo (p:El Zc) (t:Int) (points:List Int):Zjx→JT Zjx (List Int) |.l7 l i=>.br (decide (i < (Int.ofNat (List.length points)))) (.br ((decide ((0:Int)≤i))&&(decide (i < (Int.ofNat (List.length points))))) (.br (decide ((List.getD points (Int.toNat i) (dflt (.int .i64)))≥(0:Int))) (.br ((decide ((0:Int)≤i))&&(decide (i < (Int.ofNat (List.length points))))) (.br ((decide ((0:Int)≤t))&&(decide (t < (Int.ofNat (List.length p.2))))) (.br (decide ((List.getD points (Int.toNat i) (dflt (.int .i64))) < (Int.ofNat (List.length (List.getD p.2 (Int.toNat t) (dflt (.sl Za))))))) (.br ((decide ((0:Int)≤i))&&(decide (i < (Int.ofNat (List.length points))))) (.br (Ztp l (List.getD points (Int.toNat i) (dflt (.int .i64)))) (.jmp (.l7 (Ztz l (List.getD points (Int.toNat i) (dflt (.int .i64)))) (IntKind.i64.wrap (i+(1:Int))))) (.no)) (.no)) (.jmp (.l7 l (IntKind.i64.wrap (i+(1:Int)))))) (.no)) (.no)) (.jmp (.l7 l (IntKind.i64.wrap (i+(1:Int)))))) (.no)) (.br (Za8 p) (.br (Zjz (ZA p) t) (.jmp (.l15 l (0:Int))) (.no)) (.no)) |.l15 l i=>.br ((decide ((0:Int)≤t))&&(decide (t < (Int.ofNat (List.length p.2))))) (.br (decide (i < (Int.ofNat (List.length (List.getD p.2 (Int.toNat t) (dflt (.sl Za))))))) (.br (ZlN l i) (.br (ZjN l i) (.br ((decide ((0:Int)≤t))&&(decide (t < (Int.ofNat (List.length p.2))))) (.br (Zgu l i) (.br (Zbr (List.getD p.2 (Int.toNat t) (dflt (.sl Za))) (Zdc (ZA p) t) (Zeo l i)) (.br ((Int.ofNat (List.length (Ze7 (List.getD p.2 (Int.toNat t) (dflt (.sl Za))) (Zdc (ZA p) t) (Zeo l i))))==(0:Int)) (.br (Zgu l i) (.jmp (.l15 (Zeo l i) (IntKind.i64.wrap (i+(1:Int))))) (.no)) (.jmp (.l15 l (IntKind.i64.wrap (i+(1:Int)))))) (.no)) (.no)) (.no)) (.jmp (.l15 l (IntKind.i64.wrap (i+(1:Int)))))) (.no)) (.leaf l)) (.no)
def ZoR (p:El Zc) (t:Int) (points:List Int):JT Zjx (List Int):=.br (Ze6 p t) (.br (Zez p t) (.leaf []) (.jmp (.l7 [] (0:Int)))) (.no)
def ZmN:List Int→AV:=fun (r:List Int)=>.d (.sl (.int .i64)) r
def ZeR (p:El Zc) (t:Int) (points:List Int):Zjx→Nat×St |.l7 l i=>(7,⟨mkTm 81 [(1,.d (.int .i64) t),(2,.d (.sl (.int .i64)) points),(3,.pt 4 0 0),(7,.d (.sl (.int .i64)) l),(8,.d (.int .i64) i)],[(4,0,.box 27 [.d (.sl Zx) p.1,.d (.sl (.sl Za)) p.2] none)]⟩) |.l15 l i=>(15,⟨mkTm 81 [(1,.d (.int .i64) t),(3,.pt 4 0 0),(7,.d (.sl (.int .i64)) l),(9,.own 10 0 none),(10,.d (.int .i64) i)],[(4,0,.box 27 [.d (.sl Zx) p.1,.d (.sl (.sl Za)) p.2] none),(10,0,.row 70 Zd (Zdc (ZA p) t) false)]⟩)
theorem ZE5 (p:El Zc) (t:Int) (points:List Int) (L:Lt):entryA Go.Proofs.Tryz.prog (clOf ZrX) ZoX Go.Proofs.Tryz.f12 ZmW L (toForms ZfE (p,t,points,()))=(ZoR p t points).run (fun v=>some (ZmN v,tps (toForms ZfE (p,t,points,())))) fun j=>L (ZeR p t points j).1 (ZeR p t points j).2:=by kernel_rfl
theorem ZEp (p:El Zc) (t:Int) (points:List Int):∀(L:Lt) (j:Zjx),procOf (procsF Go.Proofs.Tryz.prog (clOf ZrX) ZoX Go.Proofs.Tryz.f12 ZmW (toForms ZfE (p,t,points,()))) (ZeR p t points j).1 L (ZeR p t points j).2=(Zdo p t points j).run (fun v=>some (ZmN v,tps (toForms ZfE (p,t,points,())))) fun j=>L (ZeR p t points j).1 (ZeR p t points j).2 | L,.l7 l i=>by kernel_rfl | L,.l15 l i=>by kernel_rfl
end
end Go.Ev
end

section
open Go
namespace Go.Ev
noncomputable def allT (p:El Zc) (t:Int):List PairD:=(Zj p).filter (ofB t)
noncomputable def opT (p:El Zc) (t:Int):List PairD:=(Zw p).filter (ofB t)
structure PairIn (p:El Zc) (x:PairD):Prop where
 th0:0≤(show Int from x.1)
 th1:(show Int from x.1) < (p.2.length:Int)
 flow:flowOK (thrT p x.1)=true
 st0:0≤(show Int from x.2.1)
 st1:(show Int from x.2.1) < ((thrT p x.1).length:Int)
 ld0:0≤(show Int from x.2.2)
 ld1:(show Int from x.2.2) < ((thrT p x.1).length:Int)
structure CutF (p:El Zc):Prop where
 small:smallAll p=true
 kp:ZS p=true
 ko:Zbq p=true
 eq:ZA p=Zj p
 opq:ZpN p=Zw p
 kd:Za8 p=true
 kro:Zqu p=true
 lp:(Zj p).length≤400000000
 lo:(Zw p).length≤400000000
 pin:∀x∈Zj p,PairIn p x
 osub:∀x∈Zw p,x∈Zj p∧openB p x=true
 oin:∀x∈Zj p,openB p x=true→x∈Zw p
 right:∀t,Zbc p t=true∧Zba p t=rightT p t
 flow:∀t,rightT p t=true→flowOK (thrT p t)=true∧(decide ((0:Int)≤t)&&decide (t < Int.ofNat p.2.length))=true∧checkC p=0
 thr:p.2.length≤100
theorem ZOC {p:El Zc} (h:smallProg p=true) (t:Int):Zbc p t=true∧Zba p t=rightT p t:=by
 have hk:Za7 p=true:=h
 have hv:ZbH p=checkC p:=rfl
 unfold Zbc Zba rightT
 rw[hk,hv]
 by_cases h0:(0:Int)≤t
 ·rw[decide_eq_true (show t≥0 from h0)]
  by_cases h1:t < (p.2.length:Int)
  ·rw[decide_eq_true (show t < Int.ofNat p.2.length from h1),decide_eq_true h1]
   refine ⟨rfl,?_⟩
   show (checkC p==0)=(true&&(true&&decide (checkC p=0)))
   rw[Bool.true_and,Bool.true_and,Bool.eq_iff_iff,beq_iff_eq,decide_eq_true_eq]
  ·rw[decide_eq_false (show ¬t < Int.ofNat p.2.length from h1),decide_eq_false h1]
   exact ⟨rfl,rfl⟩
 ·rw[decide_eq_false (show ¬t≥0 from h0)]
  exact ⟨rfl,rfl⟩
theorem Zrp {p:El Zc} (h:cutOK p=true):CutF p:=by
 unfold cutOK at h
 rw[Bool.and_eq_true,Bool.and_eq_true,decide_eq_true_eq,decide_eq_true_eq] at h
 obtain ⟨hs,hN,hT⟩:=h
 obtain ⟨a1,a2,a3,_,a5,a6,a7,_⟩:=ZM8 hs hN hT
 have hA:=smallA hs
 have hl:=ZMo p
 have hNN:(ofC p).length*(ofC p).length≤20000*20000:=Nat.mul_le_mul hN hN
 have hlp:(Zj p).length≤400000000:=by rw[←a3];omega
 have hlo:(Zw p).length≤(Zj p).length:=by unfold Zw;exact List.length_filter_le _ _
 refine ⟨hs,a1,a5,a3,a7,a2,a6,hlp,by omega,fun x hx=>?_,fun x hx=>?_,fun x hx ho=>?_,fun t=>ZOC hA.prog t,fun t ht=>?_,hT⟩
 ·rw[←a3] at hx
  obtain ⟨s,r,s1,r1,_,hd,rfl⟩:=ZE9 hx
  obtain ⟨t0,t1,f1,i0,i1⟩:=Zgm hs s1
  obtain ⟨_,_,f2,j0,j1⟩:=Zgm hs r1
  unfold delB at hd
  simp only[Bool.and_eq_true,beq_iff_eq] at hd
  have hth:=hd.1.1
  have e:thrOf p (ofC p) r=thrOf p (ofC p) s:=by unfold thrOf;rw[hth]
  rw[e] at j1
  exact ⟨t0,t1,f1,i0,i1,j0,j1⟩
 ·unfold Zw at hx
  exact List.mem_filter.1 hx
 ·unfold Zw
  exact List.mem_filter.2 ⟨hx,ho⟩
 ·unfold rightT at ht
  rw[Bool.and_eq_true,Bool.and_eq_true,decide_eq_true_eq,decide_eq_true_eq,decide_eq_true_eq] at ht
  obtain ⟨h0,h1,h2⟩:=ht
  refine ⟨?_,?_,h2⟩
  ·obtain ⟨n,rfl⟩:=Int.eq_ofNat_of_zero_le h0
   have hn:n < p.2.length:=by omega
   unfold thrT
   rw[Int.toNat_natCast,ZH hn]
   exact Ztw (hA.thr _ (List.getElem_mem hn))
  ·rw[decide_eq_true h0,decide_eq_true (show t < Int.ofNat p.2.length from h1)];rfl
theorem ZP5 {p:El Zc} (hF:CutF p) {t:Int} {x:PairD} (hx:x∈opT p t):PairIn p x∧(show Int from x.1)=t:=by
 obtain ⟨h1,h2⟩:=List.mem_filter.1 hx
 exact ⟨hF.pin x (hF.osub x h1).1,by unfold ofB at h2;simpa using h2⟩
theorem ZAy {p:El Zc} {x:PairD} (h:PairIn p x):0≤(show Int from x.2.1)∧(show Int from x.2.1) < 1099511627776:=by
 have h1:=h.st1
 have h2:=ZbC h.flow
 refine ⟨h.st0,?_⟩
 generalize (show Int from x.2.1)=y at*
 omega
theorem ZQn {p:El Zc} (hF:CutF p) (t:Int):(opT p t).length≤400000000:=Nat.le_trans (List.length_filter_le _ _) hF.lo
theorem ZF0 {p:El Zc} (hF:CutF p) (t:Int):(allT p t).length≤400000000:=Nat.le_trans (List.length_filter_le _ _) hF.lp
end Go.Ev
end

section
open Go
namespace Go.Ev
noncomputable def ZhG (p:El Zc) (t:Int) (points:List Int):List Int:=if rightT p t=true then pruneV (uB (thrT p t)) (thrT p t).length (allT p t) points else []
def Zhh (p:El Zc) (t:Int) (points:List Int):Bool:=cutOK p&&decide (points.length < 1000000000)
theorem ZOX {p:El Zc} (h:smallProg p=true) (t:Int):Ze6 p t=true∧Zez p t=! rightT p t:=by
 have hk:Zb4 p=true:=h
 have hv:Zcz p=checkC p:=rfl
 unfold Ze6 Zez rightT
 rw[hk,hv]
 by_cases hc:checkC p=0
 ·have e1:(checkC p !=0)=false:=by rw[hc];rfl
  rw[e1,decide_eq_true hc]
  by_cases h0:t < 0
  ·rw[decide_eq_true h0,decide_eq_false (show ¬(0:Int)≤t by omega)]
   exact ⟨rfl,rfl⟩
  ·rw[decide_eq_false h0,decide_eq_true (show (0:Int)≤t by omega)]
   by_cases h1:t < (p.2.length:Int)
   ·rw[decide_eq_true h1,decide_eq_false (show ¬t≥Int.ofNat p.2.length from by show ¬t≥(p.2.length:Int);omega)]
    exact ⟨rfl,rfl⟩
   ·rw[decide_eq_false h1,decide_eq_true (show t≥Int.ofNat p.2.length from by show t≥(p.2.length:Int);omega)]
    exact ⟨rfl,rfl⟩
 ·have e1:(checkC p !=0)=true:=by simpa using hc
  rw[e1,decide_eq_false hc,Bool.and_false,Bool.and_false]
  exact ⟨rfl,rfl⟩
theorem ZNW (l:List Int) (n:Int):putL n (putsL [] l)=putsL [] (l++[n]):=by
 unfold putsL
 rw[List.foldl_append]
 rfl
theorem ZJf (p:El Zc) (t:Int) (points:List Int) (hk:Zhh p t points=true):Goes (Zdo p t points) (ZoR p t points) (ZhG p t points):=by
 unfold Zhh at hk
 rw[Bool.and_eq_true,decide_eq_true_eq] at hk
 obtain ⟨hk,hN⟩:=hk
 have hF:=Zrp hk
 have hA:=smallA hF.small
 obtain ⟨n1,n2⟩:=ZOX hA.prog t
 unfold ZoR ZhG
 rw[Ze,if_pos n1,n2,Ze]
 by_cases hr:¬rightT p t=true
 ·rw[if_pos (by simpa using hr),if_neg hr]
  exact .leaf
 have hr:=Decidable.not_not.1 hr
 obtain ⟨hfl,hin,_⟩:=hF.flow t hr
 rw[if_neg (by rw[hr];decide),if_pos hr]
 have hx:List.getD p.2 (Int.toNat t) (dflt (.sl Za))=thrT p t:=rfl
 have hlen:=ZbC hfl
 have hal:=ZF0 hF t
 have vD:Zdc (ZA p) t=allT p t:=by rw[hF.eq];rfl
 have kO:Zjz (ZA p) t=true:=decide_eq_true (by rw[hF.eq];have:=hF.lp;omega)
 have lw:∀(l:List Int) (i:Int),(without l i).length≤l.length:=fun l i=>List.length_filter_le _ _
 have second:∀i,i≤(thrT p t).length→∀l:List Int,l.length < 1000000000→Goes (Zdo p t points) (.jmp (.l15 l (i:Int))) (pruneFrom (uB (thrT p t)) (allT p t) (thrT p t).length i l):=by
  refine down ?_ fun i hi ih=>?_
  ·intro l hl
   rw[Zi,Zdo,hx,Ze,if_pos hin,Ze,if_neg (by rw[Zv (Nat.lt_irrefl _)];decide),Zwn]
   exact .leaf
  ·intro l hl
   have k1:ZlN l (i:Int)=true:=decide_eq_true (by omega)
   have v1:ZjN l (i:Int)=l.contains (i:Int):=rfl
   have k2:Zgu l (i:Int)=true:=decide_eq_true (by omega)
   have v2:Zeo l (i:Int)=without l (i:Int):=rfl
   have l2:=lw l (i:Int)
   have k3:Zbr (thrT p t) (allT p t) (without l (i:Int))=true:=by
    unfold Zbr
    rw[hfl,decide_eq_true (show (without l (i:Int)).length < 4611686018427387904 by omega),decide_eq_true (show (allT p t).length < 1000000000000 by omega)];rfl
   have v3:Ze7 (thrT p t) (allT p t) (without l (i:Int))=(allT p t).filter (uB (thrT p t) (without l (i:Int))):=rfl
   rw[Zut hi]
   unfold pruneStep
   rw[Zi,Zdo,hx,vD,v1,v2,v3,Zo (by omega),Ze,if_pos hin,Ze,if_pos (ZO hi),Ze,if_pos k1,Ze]
   by_cases hc:l.contains (i:Int)=true
   ·rw[if_pos hc,Ze,if_pos hin,Ze,if_pos k2,Ze,if_pos k3,Ze]
    by_cases hz:((allT p t).filter (uB (thrT p t) (without l (i:Int)))).length=0
    ·rw[if_pos (by rw[hz];rfl),if_pos ⟨hc,hz⟩,Ze,if_pos k2]
     exact ih _ (by omega)
    ·rw[if_neg (by simp only[beq_iff_eq,Int.ofNat_eq_natCast];omega),if_neg fun h=>hz h.2]
     exact ih _ hl
   ·rw[if_neg hc,if_neg fun h=>hc h.1]
    exact ih _ hl
 have first:∀k,k≤points.length→∀out:List Int,out.length≤k→Goes (Zdo p t points) (.jmp (.l7 (putsL [] out) (k:Int))) (pruneFrom (uB (thrT p t)) (allT p t) (thrT p t).length 0 (putsL [] (out++(points.drop k).filter (inR (thrT p t).length)))):=by
  refine down ?_ fun k hk ih=>?_
  ·intro out ho
   have hpl:(putsL [] out).length≤out.length:=by rw[←ZHc];exact ZzX
   rw[Zi,Zdo,Ze,if_neg (by rw[Zv (Nat.lt_irrefl _)];decide),List.drop_length,Ze,if_pos hF.kd,Ze,if_pos kO]
   simp only[List.filter_nil,List.append_nil]
   exact second 0 (Nat.zero_le _) _ (by omega)
  ·intro out ho
   have hpl:(putsL [] out).length≤out.length:=by rw[←ZHc];exact ZzX
   have kput:∀n:Int,Ztp (putsL [] out) n=true:=fun n=>decide_eq_true (by omega)
   have vput:∀n:Int,Ztz (putsL [] out) n=putsL [] (out++[n]):=fun n=>ZNW out n
   rw[Zi,Zdo,ZN hk,List.filter_cons]
   simp only[Ze,hx,ZO hk,nng,Bool.and_self,if_true,Int.toNat_natCast,ZH hk,Zo (k:=k) (by omega),hin,kput,vput]
   have e2:decide (points[k] < Int.ofNat (thrT p t).length)=decide (points[k] < ((thrT p t).length:Int)):=rfl
   have e1:inR (thrT p t).length points[k]=(decide (points[k]≥0)&&decide (points[k] < ((thrT p t).length:Int))):=rfl
   rw[e1,e2]
   cases c1:decide (points[k]≥0) with
   | true=>
    cases c2:decide (points[k] < ((thrT p t).length:Int)) with
    | true=>
     have:=ih (out++[points[k]]) (by simp;omega)
     rw[List.append_assoc] at this
     exact this
    | false=>exact ih out (by omega)
   | false=>exact ih out (by omega)
 have:=first 0 (Nat.zero_le _) [] (Nat.zero_le _)
 rw[List.nil_append,List.drop_zero] at this
 have hm:∀x∈putsL [] (points.filter (inR (thrT p t).length)),((0:Nat):Int)≤x∧x < ((thrT p t).length:Int):=fun x hx=>by
  rw[ZwC] at hx
  have hx:=(List.mem_filter.1 (hx.resolve_left (by simp))).2
  unfold inR at hx
  rw[Bool.and_eq_true,decide_eq_true_eq,decide_eq_true_eq] at hx
  exact hx
 have e:=ZPY (U:=uB (thrT p t)) (all:=allT p t) (n:=(thrT p t).length) (thrT p t).length 0 (by omega) [] (putsL [] (points.filter (inR (thrT p t).length))) (fun x hx=>by cases hx) hm (Znv .nil)
 rw[List.nil_append] at e
 unfold pruneV
 rw[←e]
 exact this
end Go.Ev
end

section
open Go Go.Ev
namespace Go.Ev
noncomputable section
noncomputable def ZyH:Run:=entG ZfE ZmN (fun a=>Zhh a.1 a.2.1 a.2.2.1) (fun a=>ZhG a.1 a.2.1 a.2.2.1)
theorem ZGo:EntOK Go.Proofs.Tryz.prog 12 ZyH:=ZI (tb:=ZoX) (c:=ZmW) ZEQ (by kernel_rfl) (by kernel_rfl) (by kernel_rfl) (fun a=>by kernel_rfl) fun ⟨p,t,points,_⟩ hk=>Zl (c:=ZmW) (K:=fun v=>(ZmN v,tps (toForms ZfE (p,t,points,())))) (S:=ZeR p t points) (by kernel_rfl) (ZE5 p t points) (ZEp p t points) (ZJf p t points hk)
end
end Go.Ev
end

section
open Go Go.Ev
namespace Go.Ev
noncomputable section
noncomputable def ZlX:Run:=entG Zcp Zip (fun a=>Zau a.1 a.2.1) (fun a=>Zan a.1 a.2.1)
theorem Zrk:EntOK Go.Proofs.Tryz.prog 10 ZlX:=ZI (tb:=Zka) (c:=ZhT) Zzl (by kernel_rfl) (by kernel_rfl) (by kernel_rfl) (fun a=>by kernel_rfl) fun ⟨a,b,_⟩ hk=>Zl (c:=ZhT) (K:=fun v=>(Zip v,tps (toForms Zcp (a,b,())))) (S:=Zcb a b) (by kernel_rfl) (Zzs a b) (Zzy a b) (ZA7 a b hk)
end
end Go.Ev
end

section
open Go Go.Ev
namespace Go.Ev
noncomputable section
def Zfx:Sig:=[]
noncomputable def Zrs:Tbl:=[]
theorem ZGL:∀p∈Zrs,EntOK Go.Proofs.Tryz.prog p.1 p.2:=Zt
noncomputable def Zns:Code:=Go.Proofs.Tryz.f35.body.getD .skip
def ZqW:Tb:=[]
def Zzb:Empty→JT Empty (El Zc):=fun j=>nomatch j
def ZwX:JT Empty (El Zc):=.leaf ([((bs [120]),((1:Int),[])),((bs [121]),((1:Int),[]))],[[((1:Int),(false,((0:Int),(((3:Int),((0:Int),((0:Int),(0:Int)))),(((2:Int),((0:Int),((0:Int),(1:Int)))),((bs []),[])))))),((1:Int),(false,((0:Int),(((1:Int),((0:Int),((0:Int),(0:Int)))),(((3:Int),((0:Int),((1:Int),(0:Int)))),((bs []),[])))))),((14:Int),(false,((0:Int),(((0:Int),((0:Int),((0:Int),(0:Int)))),(((0:Int),((0:Int),((0:Int),(0:Int)))),((bs []),[]))))))],[((1:Int),(false,((0:Int),(((3:Int),((0:Int),((1:Int),(0:Int)))),(((2:Int),((0:Int),((0:Int),(1:Int)))),((bs []),[])))))),((1:Int),(false,((0:Int),(((1:Int),((0:Int),((0:Int),(0:Int)))),(((3:Int),((0:Int),((0:Int),(0:Int)))),((bs []),[])))))),((14:Int),(false,((0:Int),(((0:Int),((0:Int),((0:Int),(0:Int)))),(((0:Int),((0:Int),((0:Int),(0:Int)))),((bs []),[]))))))]])
def Zk:El Zc:=([((bs [120]),((1:Int),[])),((bs [121]),((1:Int),[]))],[[((1:Int),(false,((0:Int),(((3:Int),((0:Int),((0:Int),(0:Int)))),(((2:Int),((0:Int),((0:Int),(1:Int)))),((bs []),[])))))),((1:Int),(false,((0:Int),(((1:Int),((0:Int),((0:Int),(0:Int)))),(((3:Int),((0:Int),((1:Int),(0:Int)))),((bs []),[])))))),((14:Int),(false,((0:Int),(((0:Int),((0:Int),((0:Int),(0:Int)))),(((0:Int),((0:Int),((0:Int),(0:Int)))),((bs []),[]))))))],[((1:Int),(false,((0:Int),(((3:Int),((0:Int),((1:Int),(0:Int)))),(((2:Int),((0:Int),((0:Int),(1:Int)))),((bs []),[])))))),((1:Int),(false,((0:Int),(((1:Int),((0:Int),((0:Int),(0:Int)))),(((3:Int),((0:Int),((0:Int),(0:Int)))),((bs []),[])))))),((14:Int),(false,((0:Int),(((0:Int),((0:Int),((0:Int),(0:Int)))),(((0:Int),((0:Int),((0:Int),(0:Int)))),((bs []),[]))))))]])
theorem ZHf:Goes (Zzb) (ZwX) (Zk):=Goes.leaf
def Zne:El Zc→AV:=fun (r:El Zc)=>.ag [.rw 47 Zx r.1,.rw 33 (.sl Za) r.2]
def ZeQ:Empty→Nat×St:=fun j=>nomatch j
theorem ZGR (L:Lt):entryA Go.Proofs.Tryz.prog (clOf Zrs) ZqW Go.Proofs.Tryz.f35 Zns L (toForms Zfx (()))=(ZwX).run (fun v=>some (Zne v,tps (toForms Zfx (())))) fun j=>L (ZeQ j).1 (ZeQ j).2:=by kernel_rfl
theorem ZGl:∀(L:Lt) (j:Empty),procOf (procsF Go.Proofs.Tryz.prog (clOf Zrs) ZqW Go.Proofs.Tryz.f35 Zns (toForms Zfx (()))) (ZeQ j).1 L (ZeQ j).2=(Zzb j).run (fun v=>some (Zne v,tps (toForms Zfx (())))) fun j=>L (ZeQ j).1 (ZeQ j).2:=fun L j=>nomatch j
noncomputable def ZyN:Run:=entT Zfx Zne (fun a=>Zk)
theorem ZEh:EntOK Go.Proofs.Tryz.prog 35 ZyN:=Zaw (tb:=ZqW) (c:=Zns) ZGL (by kernel_rfl) (by kernel_rfl) (by kernel_rfl) (fun a=>by kernel_rfl) fun _=>Zl (c:=Zns) (K:=fun v=>(Zne v,tps (toForms Zfx (())))) (S:=ZeQ) (by kernel_rfl) (ZGR) (ZGl) (ZHf)
end
end Go.Ev
end

section
open Go Go.Ev
namespace Go.Ev
noncomputable section
noncomputable def Zmx:Run:=entG Zfu Znr (fun a=>Zbq a.1) (fun a=>Zw a.1)
theorem Zqq:EntOK Go.Proofs.Tryz.prog 39 Zmx:=ZI (tb:=ZpL) (c:=Zmt) ZGY (by kernel_rfl) (by kernel_rfl) (by kernel_rfl) (fun a=>by kernel_rfl) fun ⟨p,_⟩ hk=>Zl (c:=Zmt) (K:=fun v=>(Znr v,tps (toForms Zfu (p,())))) (S:=ZeT p) (by kernel_rfl) (ZFc p) (ZGk p) (ZIR p hk)
end
end Go.Ev
end

section
open Go Go.Ev
namespace Go.Ev
noncomputable section
def ZfX:Sig:=[(true,(.sl Za)),(false,(.sl Zd))]
noncomputable def Zsk:Tbl:=[(61,ZcS),(24,ZkB),(40,Znp)]
theorem ZF4:∀p∈Zsk,EntOK Go.Proofs.Tryz.prog p.1 p.2:=Zg Zf9 (Zg ZnX (Zg Zpd (Zt)))
noncomputable def ZnB:Code:=Go.Proofs.Tryz.f41.body.getD .skip
def Zq3:Tb:=[(3,⟨[1,2,5],[(6,46)]⟩),(9,⟨[1,2,5,6,7,16,17],[(10000000000000000000000000000000000000000000000000000000000008,1)]⟩)]
inductive ZjC where | l3 (points:List Int) (open_1:List (El Zd)) | l9 (left:List (El Zd)) (h:Int) (best:Int) (points:List Int) (open_1:List (El Zd))
def ZcC (t:List (El Za)) (open_:List (El Zd)):ZjC→JT ZjC (List Int) |.l3 points open_1=>.br (decide ((Int.ofNat (List.length open_1)) > (0:Int))) (.jmp (.l9 open_1 (0:Int) (0:Int) points open_1)) (.br (Zdq points) (.leaf (ZhI points)) (.no)) |.l9 left h best points open_1=>.br (decide (h < (Int.ofNat (List.length t)))) (.br (Za5 points) (.br (Nat.ble (((List.length (ZL points))+1)*8) limit) (.br (ZaC t open_1 ((ZL points)++[h])) (.br (decide ((Int.ofNat (List.length (ZbG t open_1 ((ZL points)++[h])))) < (Int.ofNat (List.length left)))) (.jmp (.l9 (ZbG t open_1 ((ZL points)++[h])) (IntKind.i64.wrap (h+(1:Int))) h points open_1)) (.jmp (.l9 left (IntKind.i64.wrap (h+(1:Int))) best points open_1))) (.no)) (.no)) (.no)) (.br (Nat.ble (((List.length points)+1)*8) limit) (.jmp (.l3 (points++[best]) left)) (.no))
def Zv8 (t:List (El Za)) (open_:List (El Zd)):JT ZjC (List Int):=.jmp (.l3 [] open_)
def ZmH:List Int→AV:=fun (r:List Int)=>.rw 3 (.int .i64) r
def Zfb (t:List (El Za)) (open_:List (El Zd)):ZjC→Nat×St |.l3 points open_1=>(3,⟨mkTm 43 [(1,.d (.sl Zd) open_1),(2,.pt 3 0 0),(5,.own 6 0 none)],[(3,0,.box 33 [.d (.sl Za) t] none),(6,0,.row 3 (.int .i64) points false)]⟩) |.l9 left h best points open_1=>(9,⟨mkTm 43 [(1,.d (.sl Zd) open_1),(2,.pt 3 0 0),(5,.own 6 0 none),(6,.d (.int .i64) best),(7,.d (.sl Zd) left),(16,.d (.int .i64) (Int.ofNat (List.length t))),(17,.d (.int .i64) h)],[(3,0,.box 33 [.d (.sl Za) t] none),(6,0,.row 3 (.int .i64) points false)]⟩)
theorem ZEy (t:List (El Za)) (open_:List (El Zd)) (L:Lt):entryA Go.Proofs.Tryz.prog (clOf Zsk) Zq3 Go.Proofs.Tryz.f41 ZnB L (toForms ZfX (t,open_,()))=(Zv8 t open_).run (fun v=>some (ZmH v,tps (toForms ZfX (t,open_,())))) fun j=>L (Zfb t open_ j).1 (Zfb t open_ j).2:=by kernel_rfl
theorem ZGE (t:List (El Za)) (open_:List (El Zd)):∀(L:Lt) (j:ZjC),procOf (procsF Go.Proofs.Tryz.prog (clOf Zsk) Zq3 Go.Proofs.Tryz.f41 ZnB (toForms ZfX (t,open_,()))) (Zfb t open_ j).1 L (Zfb t open_ j).2=(ZcC t open_ j).run (fun v=>some (ZmH v,tps (toForms ZfX (t,open_,())))) fun j=>L (Zfb t open_ j).1 (Zfb t open_ j).2 | L,.l3 points open_1=>by kernel_rfl | L,.l9 left h best points open_1=>by kernel_rfl
end
end Go.Ev
end

section
open Go
namespace Go.Ev
def loadIn (n:Nat) (x:PairD):Bool:=decide ((0:Int)≤x.2.2∧(show Int from x.2.2) < (n:Int))
theorem ZO2 {t:List (El Za)} {l:List PairD} (h:l.all (loadIn t.length)=true):Cuts (uB t) t.length l:=fun x hx=>by
 obtain ⟨h1,h2⟩:=of_decide_eq_true (List.all_eq_true.1 h x hx)
 refine ⟨Int.toNat x.2.2,ZOK h1 h2,fun pts=>ZQv ?_⟩
 rw[List.mem_append,List.mem_singleton,Int.toNat_of_nonneg h1]
 exact .inr rfl
noncomputable def Ze2 (t:List (El Za)) (open_:List (El Zd)):List Int:=greedyV (uB t) t.length open_
def Zhr (t:List (El Za)) (open_:List (El Zd)):Bool:=flowOK t&&(decide (open_.length < 1000000000)&&open_.all (loadIn t.length))
theorem ZJE (t:List (El Za)) (open_:List (El Zd)) (hk:Zhr t open_=true):Goes (ZcC t open_) (Zv8 t open_) (Ze2 t open_):=by
 unfold Zhr at hk
 rw[Bool.and_eq_true,Bool.and_eq_true,decide_eq_true_eq] at hk
 obtain ⟨hf,hN,hall⟩:=hk
 have hlen:=ZbC hf
 have fin:∀(pts:List Int) (l:List PairD),l.length=0→pts.length≤1000000000→Goes (ZcC t open_) (.jmp (.l3 pts l)) (putsL [] pts):=by
  intro pts l h0 hp
  rw[Zi,ZcC,Ze,if_neg (by rw[h0];decide),Ze,if_pos (show Zdq pts=true from decide_eq_true (by omega))]
  exact .leaf
 have outer:∀f:Nat,∀(pts:List Int) (l:List PairD),l.length≤f→f+pts.length≤1000000000→Cuts (uB t) t.length l→Goes (ZcC t open_) (.jmp (.l3 pts l)) (putsL [] (greedyL (uB t) t.length f pts l)):=by
  intro f
  induction f with
  | zero=>
   intro pts l hl hb hc
   exact fin pts l (by omega) (by omega)
  | succ f ih=>
   intro pts l hl hb hc
   by_cases h0:l.length=0
   ·have:=fin pts l h0 (by omega)
    rw[greedyL,if_pos h0]
    exact this
   ·rw[greedyL,if_neg h0]
    obtain ⟨j,hj,e1,e2,e3⟩:=ZNe (pts:=pts) hc (by omega)
    have inner:∀k,k≤t.length→∀acc:Int×List PairD,bestFrom (uB t) t.length pts l k acc=bestG (uB t) t.length pts l→
      Goes (ZcC t open_) (.jmp (.l9 acc.2 (k:Int) acc.1 pts l)) (putsL [] (greedyL (uB t) t.length f (pts++[(bestG (uB t) t.length pts l).1]) (bestG (uB t) t.length pts l).2)):=by
     refine down ?_ fun k hk ihk=>?_
     ·intro acc ha
      rw[ZyS] at ha
      rw[Zi,ZcC,Ze,if_neg (by rw[Zv (Nat.lt_irrefl _)];decide),Ze,if_pos (Nat.ble_eq_true_of_le (by unfold limit;omega)),ha]
      exact ih _ _ (by omega) (by simp;omega) (ZPc hc fun x hx=>by rw[e2] at hx;exact (List.mem_filter.1 hx).1)
     ·intro acc ha
      rw[ZwO hk] at ha
      have hcl:Za5 pts=true:=decide_eq_true (by omega)
      have hvc:ZL pts=pts:=rfl
      have hkm:ZaC t l (pts++[(k:Int)])=true:=by
       unfold ZaC
       rw[hf,decide_eq_true (show (pts++[(k:Int)]).length < 4611686018427387904 by simp;omega),decide_eq_true (show l.length < 1000000000000 by omega)];rfl
      have hvm:ZbG t l (pts++[(k:Int)])=l.filter (uB t (pts++[(k:Int)])):=rfl
      rw[Zi,ZcC,hvc,hvm,Zo (by omega),Ze,if_pos (ZO hk),Ze,if_pos hcl,Ze,if_pos (Nat.ble_eq_true_of_le (by unfold limit;omega)),Ze,if_pos hkm,Ze]
      unfold stepG at ha
      by_cases hc2:(l.filter (uB t (pts++[(k:Int)]))).length < acc.2.length
      ·rw[if_pos hc2] at ha
       rw[if_pos (ZKx hc2)]
       exact ihk _ ha
      ·rw[if_neg hc2] at ha
       rw[if_neg (by rw[ZFD hc2];decide)]
       exact ihk _ ha
    rw[Zi,ZcC,Ze,if_pos (decide_eq_true (by simp only[Int.ofNat_eq_natCast];omega))]
    exact inner 0 (Nat.zero_le _) (0,l) rfl
 exact outer open_.length [] open_ (Nat.le_refl _) (by simp;omega) (ZO2 hall)
end Go.Ev
end

section
open Go Go.Ev
namespace Go.Ev
noncomputable section
noncomputable def Zy4:Run:=entG ZfX ZmH (fun a=>Zhr a.1 a.2.1) (fun a=>Ze2 a.1 a.2.1)
theorem ZGG:EntOK Go.Proofs.Tryz.prog 41 Zy4:=ZI (tb:=Zq3) (c:=ZnB) ZF4 (by kernel_rfl) (by kernel_rfl) (by kernel_rfl) (fun a=>by kernel_rfl) fun ⟨t,open_,_⟩ hk=>Zl (c:=ZnB) (K:=fun v=>(ZmH v,tps (toForms ZfX (t,open_,())))) (S:=Zfb t open_) (by kernel_rfl) (ZEy t open_) (ZGE t open_) (ZJE t open_ hk)
end
end Go.Ev
end

section
open Go Go.Ev
namespace Go.Ev
noncomputable section
def ZfV:Sig:=[(true,Zc),(false,(.int .i64)),(false,(.sl Zd)),(false,(.sl Zd))]
noncomputable def Zrt:Tbl:=[(25,Zw0),(41,Zy4),(31,Zu3)]
theorem ZEj:∀p∈Zrt,EntOK Go.Proofs.Tryz.prog p.1 p.2:=Zg Zwk (Zg ZGG (Zg ZyI (Zt)))
noncomputable def Znx:Code:=Go.Proofs.Tryz.f42.body.getD .skip
def ZoZ:Tb:=[(5,⟨[1,3,9,10,11,12,29,30,31],[(12,46),(13,46)]⟩),(13,⟨[9,10,15,57,58,59],[]⟩)]
inductive Zjv where | l5 (x:List (El Za)) (h:Int) (after:List Int) (ahead:List Int) | l13 (x:List (El Za)) (best:List Int) (h:List (List Int)) (h1:Int)
def ZbK (p:El Zc) (t:Int) (pairs:List (El Zd)) (open_:List (El Zd)):Zjv→JT Zjv (List Int) |.l5 x h after ahead=>.br (decide (h < (Int.ofNat (List.length (Z6 open_ t))))) (.br ((decide ((0:Int)≤h))&&(decide (h < (Int.ofNat (List.length (Z6 open_ t)))))) (.br (Nat.ble (((List.length after)+1)*8) limit) (.br (Nat.ble (((List.length ahead)+1)*8) limit) (.jmp (.l5 x (IntKind.i64.wrap (h+(1:Int))) (after++[(IntKind.i64.wrap ((List.getD (Z6 open_ t) (Int.toNat h) (dflt Zd)).2.1+(1:Int)))]) (ahead++[(List.getD (Z6 open_ t) (Int.toNat h) (dflt Zd)).2.2]))) (.no)) (.no)) (.no)) (.br (ZcB open_ t) (.br (Zhr x (Z6 open_ t)) (.br (Zbu x (Z6 pairs t) (Ze2 x (Z6 open_ t))) (.jmp (.l13 x (ZaO x (Z6 pairs t) (Ze2 x (Z6 open_ t))) [after,ahead] (0:Int))) (.no)) (.no)) (.no)) |.l13 x best h h1=>.br (decide (h1 < (2:Int))) (.br ((decide ((0:Int)≤h1))&&(decide (h1 < (Int.ofNat (List.length h))))) (.br (Zbu x (Z6 pairs t) (List.getD h (Int.toNat h1) (dflt (.sl (.int .i64))))) (.br (decide ((Int.ofNat (List.length (ZaO x (Z6 pairs t) (List.getD h (Int.toNat h1) (dflt (.sl (.int .i64))))))) < (Int.ofNat (List.length best)))) (.jmp (.l13 x (ZaO x (Z6 pairs t) (List.getD h (Int.toNat h1) (dflt (.sl (.int .i64))))) h (IntKind.i64.wrap (h1+(1:Int))))) (.jmp (.l13 x best h (IntKind.i64.wrap (h1+(1:Int)))))) (.no)) (.no)) (.leaf best)
def Zp7 (p:El Zc) (t:Int) (pairs:List (El Zd)) (open_:List (El Zd)):JT Zjv (List Int):=.br ((decide ((0:Int)≤t))&&(decide (t < (Int.ofNat (List.length p.2))))) (.br (ZcB pairs t) (.br (ZcB open_ t) (.jmp (.l5 (List.getD p.2 (Int.toNat t) (dflt (.sl Za))) (0:Int) [] [])) (.no)) (.no)) (.no)
def Zmw:List Int→AV:=fun (r:List Int)=>.rw 3 (.int .i64) r
def Ze8 (p:El Zc) (t:Int) (pairs:List (El Zd)) (open_:List (El Zd)):Zjv→Nat×St |.l5 x h after ahead=>(5,⟨mkTm 75 [(1,.d (.int .i64) t),(3,.d (.sl Zd) open_),(9,.pt 10 0 0),(10,.own 11 0 none),(11,.own 12 0 none),(12,.own 13 0 none),(29,.own 30 0 none),(30,.d (.int .i64) (Int.ofNat (List.length (Z6 open_ t)))),(31,.d (.int .i64) h)],[(10,0,.box 33 [.d (.sl Za) x] none),(11,0,.row 70 Zd (Z6 pairs t) false),(12,0,.row 3 (.int .i64) after false),(13,0,.row 3 (.int .i64) ahead false),(30,0,.row 70 Zd (Z6 open_ t) false)]⟩) |.l13 x best h h1=>(13,⟨mkTm 75 [(9,.pt 10 0 0),(10,.own 11 0 none),(15,.own 16 0 none),(57,.own 58 0 none),(58,.d (.int .i64) (2:Int)),(59,.d (.int .i64) h1)],[(10,0,.box 33 [.d (.sl Za) x] none),(11,0,.row 70 Zd (Z6 pairs t) false),(16,0,.row 3 (.int .i64) best false),(58,0,.row 23 (.sl (.int .i64)) h false)]⟩)
theorem ZGc (p:El Zc) (t:Int) (pairs:List (El Zd)) (open_:List (El Zd)) (L:Lt):entryA Go.Proofs.Tryz.prog (clOf Zrt) ZoZ Go.Proofs.Tryz.f42 Znx L (toForms ZfV (p,t,pairs,open_,()))=(Zp7 p t pairs open_).run (fun v=>some (Zmw v,tps (toForms ZfV (p,t,pairs,open_,())))) fun j=>L (Ze8 p t pairs open_ j).1 (Ze8 p t pairs open_ j).2:=by kernel_rfl
theorem ZEz (p:El Zc) (t:Int) (pairs:List (El Zd)) (open_:List (El Zd)):∀(L:Lt) (j:Zjv),procOf (procsF Go.Proofs.Tryz.prog (clOf Zrt) ZoZ Go.Proofs.Tryz.f42 Znx (toForms ZfV (p,t,pairs,open_,()))) (Ze8 p t pairs open_ j).1 L (Ze8 p t pairs open_ j).2=(ZbK p t pairs open_ j).run (fun v=>some (Zmw v,tps (toForms ZfV (p,t,pairs,open_,())))) fun j=>L (Ze8 p t pairs open_ j).1 (Ze8 p t pairs open_ j).2 | L,.l5 x h after ahead=>by kernel_rfl | L,.l13 x best h h1=>by kernel_rfl
end
end Go.Ev
end

section
open Go
namespace Go.Ev
def storeIn (x:PairD):Bool:=decide ((0:Int)≤x.2.1∧(show Int from x.2.1) < 1099511627776)
noncomputable def ZbO (p:El Zc) (t:Int) (pairs:List (El Zd)) (open_:List (El Zd)):List Int:=pointsV (uB (thrT p t)) (thrT p t).length (pairs.filter (ofB t)) (open_.filter (ofB t))
def ZcH (p:El Zc) (t:Int) (pairs:List (El Zd)) (open_:List (El Zd)):Bool:=
 (decide ((0:Int)≤t)&&decide (t < Int.ofNat p.2.length))&&(flowOK (thrT p t)&&(decide (pairs.length < 1000000000)&&(decide (open_.length < 1000000000)&&(open_.filter (ofB t)).all fun x=>loadIn (thrT p t).length x&&storeIn x)))
theorem ZNn {x:PairD} (h:storeIn x=true):IntKind.i64.wrap ((show Int from x.2.1)+1)=(show Int from x.2.1)+1:=by
 obtain ⟨h1,h2⟩:=of_decide_eq_true h
 have h1:(0:Int)≤(show Int from x.2.1):=h1
 generalize (show Int from x.2.1)=y at*
 exact wrap_i64 (by omega) (by omega)
theorem ZKb (p:El Zc) (t:Int) (pairs:List (El Zd)) (open_:List (El Zd)) (hk:ZcH p t pairs open_=true):Goes (ZbK p t pairs open_) (Zp7 p t pairs open_) (ZbO p t pairs open_):=by
 unfold ZcH at hk
 rw[Bool.and_eq_true] at hk
 obtain ⟨hin,hk⟩:=hk
 rw[Bool.and_eq_true,Bool.and_eq_true,Bool.and_eq_true] at hk
 obtain ⟨hf,hP,hO,hall⟩:=hk
 have hP:=of_decide_eq_true hP
 have hO:=of_decide_eq_true hO
 have hall:=List.all_eq_true.1 hall
 have ho1:((open_.filter (ofB t)).all (loadIn (thrT p t).length))=true:=List.all_eq_true.2 fun x hx=>by
  have:=hall x hx
  rw[Bool.and_eq_true] at this
  exact this.1
 have hs:∀x∈open_.filter (ofB t),storeIn x=true:=fun x hx=>by
  have:=hall x hx
  rw[Bool.and_eq_true] at this
  exact this.2
 have hol:(open_.filter (ofB t)).length≤open_.length:=List.length_filter_le _ _
 have hpl:(pairs.filter (ofB t)).length≤pairs.length:=List.length_filter_le _ _
 have kof1:ZcB pairs t=true:=decide_eq_true (by omega)
 have kof2:ZcB open_ t=true:=decide_eq_true (by omega)
 have vof1:Z6 pairs t=pairs.filter (ofB t):=rfl
 have vof2:Z6 open_ t=open_.filter (ofB t):=rfl
 have kg:Zhr (thrT p t) (open_.filter (ofB t))=true:=by
  unfold Zhr
  rw[hf,decide_eq_true (show (open_.filter (ofB t)).length < 1000000000 by omega),ho1];rfl
 have kp:∀pts:List Int,pts.length < 1000000000000→Zbu (thrT p t) (pairs.filter (ofB t)) pts=true:=fun pts h=>by
  unfold Zbu
  rw[hf,decide_eq_true h,decide_eq_true (show (pairs.filter (ofB t)).length < 1000000000000 by omega)];rfl
 have hgl:∀(f:Nat) (pts:List Int) (l:List PairD),(greedyL (uB (thrT p t)) (thrT p t).length f pts l).length≤f+pts.length:=by
  intro f
  induction f with
  | zero=>intro pts l;rw[greedyL];omega
  | succ f ih=>
   intro pts l
   rw[greedyL]
   split
   ·omega
   ·have:=ih (pts++[(bestG (uB (thrT p t)) (thrT p t).length pts l).1]) (bestG (uB (thrT p t)) (thrT p t).length pts l).2
    rw[List.length_append,List.length_singleton] at this
    omega
 have hgv:(Ze2 (thrT p t) (open_.filter (ofB t))).length < 1000000000000:=by
  have h1:(Ze2 (thrT p t) (open_.filter (ofB t))).length≤(greedyL (uB (thrT p t)) (thrT p t).length (open_.filter (ofB t)).length [] (open_.filter (ofB t))).length:=ZMr
  have h2:=hgl (open_.filter (ofB t)).length [] (open_.filter (ofB t))
  simp only[List.length_nil,Nat.add_zero] at h2
  omega
 have hx:List.getD p.2 (Int.toNat t) (dflt (.sl Za))=thrT p t:=rfl
 have second:∀after ahead:List Int,after.length < 1000000000000→ahead.length < 1000000000000→∀b0:List Int,
   Goes (ZbK p t pairs open_) (.jmp (.l13 (thrT p t) b0 [after,ahead] (0:Int))) (shorter (shorter b0 (ZaO (thrT p t) (pairs.filter (ofB t)) after)) (ZaO (thrT p t) (pairs.filter (ofB t)) ahead)):=by
  intro after ahead h1 h2 b0
  have last:∀b:List Int,Goes (ZbK p t pairs open_) (.jmp (.l13 (thrT p t) b [after,ahead] (2:Int))) b:=fun b=>by
   rw[Zi,ZbK,Ze,if_neg (by decide)]
   exact .leaf
  have mid:∀b:List Int,Goes (ZbK p t pairs open_) (.jmp (.l13 (thrT p t) b [after,ahead] (1:Int))) (shorter b (ZaO (thrT p t) (pairs.filter (ofB t)) ahead)):=fun b=>by
   rw[Zi,ZbK,vof1,Ze,if_pos (by decide),Ze,if_pos (by rfl),Ze]
   have e:List.getD [after,ahead] (Int.toNat (1:Int)) (dflt (.sl (.int .i64)))=ahead:=rfl
   have w:IntKind.i64.wrap ((1:Int)+1)=2:=by decide
   rw[e,w,if_pos (kp _ h2),Ze]
   unfold shorter
   by_cases c:(ZaO (thrT p t) (pairs.filter (ofB t)) ahead).length < b.length
   ·rw[if_pos (ZKx c),if_pos c];exact last _
   ·rw[if_neg (by rw[ZFD c];decide),if_neg c];exact last _
  rw[Zi,ZbK,vof1,Ze,if_pos (by decide),Ze,if_pos (by rfl),Ze]
  have e:List.getD [after,ahead] (Int.toNat (0:Int)) (dflt (.sl (.int .i64)))=after:=rfl
  have w:IntKind.i64.wrap ((0:Int)+1)=1:=by decide
  rw[e,w,if_pos (kp _ h1),Ze]
  have s1:shorter b0 (ZaO (thrT p t) (pairs.filter (ofB t)) after)=if (ZaO (thrT p t) (pairs.filter (ofB t)) after).length < b0.length then ZaO (thrT p t) (pairs.filter (ofB t)) after else b0:=rfl
  rw[s1]
  by_cases c:(ZaO (thrT p t) (pairs.filter (ofB t)) after).length < b0.length
  ·rw[if_pos (ZKx c),if_pos c];exact mid _
  ·rw[if_neg (by rw[ZFD c];decide),if_neg c];exact mid _
 obtain ⟨O,hOe⟩:∃O,open_.filter (ofB t)=O:=⟨_,rfl⟩
 have first:∀k,k≤O.length→Goes (ZbK p t pairs open_) (.jmp (.l5 (thrT p t) (k:Int) ((O.take k).map fun x=>(show Int from x.2.1)+1) ((O.take k).map fun x=>x.2.2))) (ZbO p t pairs open_):=by
  rw[hOe] at hol hs vof2 kg hgv
  refine down ?_ fun k hk ih=>?_
  ·rw[Zi,ZbK,vof1,vof2,Ze,if_neg (by rw[Zv (Nat.lt_irrefl _)];decide),Ze,if_pos kof2,Ze,if_pos kg,Ze,if_pos (kp _ hgv),List.take_length]
   have:=second (O.map fun x=>(show Int from x.2.1)+1) (O.map fun x=>x.2.2) (by rw[List.length_map];omega) (by rw[List.length_map];omega) (ZaO (thrT p t) (pairs.filter (ofB t)) (Ze2 (thrT p t) O))
   unfold ZbO
   rw[hOe]
   exact this
  ·have b1:Nat.ble ((((O.take k).map fun x=>(show Int from x.2.1)+1).length+1)*8) limit=true:=Nat.ble_eq_true_of_le (by rw[List.length_map,List.length_take];unfold limit;omega)
   have b2:Nat.ble ((((O.take k).map fun x=>(show Int from x.2.2)).length+1)*8) limit=true:=Nat.ble_eq_true_of_le (by rw[List.length_map,List.length_take];unfold limit;omega)
   have hw:=ZNn (hs _ (List.getElem_mem hk))
   rw[List.take_succ_eq_append_getElem hk,List.map_append,List.map_append] at ih
   rw[Zi,ZbK,vof2,Ze,if_pos (ZO hk),Ze,if_pos (by rw[nng,ZO hk];rfl),Ze,if_pos b1,Ze,if_pos b2,Int.toNat_natCast,ZH hk,Zo (by omega)]
   have hw':IntKind.i64.wrap (O[k].2.1+(1:Int))=(show Int from O[k].2.1)+1:=hw
   rw[hw']
   exact ih
 unfold Zp7
 rw[Ze,if_pos hin,Ze,if_pos kof1,Ze,if_pos kof2,hx]
 exact first 0 (Nat.zero_le _)
end Go.Ev
end

section
open Go Go.Ev
namespace Go.Ev
noncomputable section
noncomputable def Zru:Run:=entG ZfV Zmw (fun a=>ZcH a.1 a.2.1 a.2.2.1 a.2.2.2.1) (fun a=>ZbO a.1 a.2.1 a.2.2.1 a.2.2.2.1)
theorem ZwL:EntOK Go.Proofs.Tryz.prog 42 Zru:=ZI (tb:=ZoZ) (c:=Znx) ZEj (by kernel_rfl) (by kernel_rfl) (by kernel_rfl) (fun a=>by kernel_rfl) fun ⟨p,t,pairs,open_,_⟩ hk=>Zl (c:=Znx) (K:=fun v=>(Zmw v,tps (toForms ZfV (p,t,pairs,open_,())))) (S:=Ze8 p t pairs open_) (by kernel_rfl) (ZGc p t pairs open_) (ZEz p t pairs open_) (ZKb p t pairs open_ hk)
end
end Go.Ev
end

section
open Go Go.Ev
namespace Go.Ev
noncomputable section
def Zf3:Sig:=[(true,Zc),(false,(.int .i64))]
noncomputable def Zsa:Tbl:=[(23,ZlA),(26,ZfW),(39,Zmx),(42,Zru)]
theorem ZGy:∀p∈Zsa,EntOK Go.Proofs.Tryz.prog p.1 p.2:=Zg Zm8 (Zg Zgo (Zg Zqq (Zg ZwL (Zt))))
noncomputable def Zna:Code:=Go.Proofs.Tryz.f19.body.getD .skip
def Zqr:Tb:=[(hintK,⟨[],[(1,46)]⟩)]
def ZyY (p:El Zc) (t:Int):Empty→JT Empty (List Int):=fun j=>nomatch j
def ZwH (p:El Zc) (t:Int):JT Empty (List Int):=.br (Zbc p t) (.br (! (Zba p t)) (.leaf []) (.br (ZS p) (.br (Zbq p) (.br (ZcH p t (Zj p) (Zw p)) (.leaf (ZbO p t (Zj p) (Zw p))) (.no)) (.no)) (.no))) (.no)
def ZbM (p:El Zc) (t:Int):List Int:=bif (Zbc p t) then bif (! (Zba p t)) then [] else bif (ZS p) then bif (Zbq p) then bif (ZcH p t (Zj p) (Zw p)) then (ZbO p t (Zj p) (Zw p)) else [] else [] else [] else []
def Zfn (p:El Zc) (t:Int):Bool:=bif (Zbc p t) then bif (! (Zba p t)) then true else bif (ZS p) then bif (Zbq p) then bif (ZcH p t (Zj p) (Zw p)) then true else false else false else false else false
theorem ZI7 (p:El Zc) (t:Int) (hk:Zfn p t=true):Goes (ZyY p t) (ZwH p t) (ZbM p t):=Goes.brk hk (fun hk=>Goes.brk hk (fun hk=>Goes.leaf) (fun hk=>Goes.brk hk (fun hk=>Goes.brk hk (fun hk=>Goes.brk hk (fun hk=>Goes.leaf) (fun hk=>Goes.nok hk)) (fun hk=>Goes.nok hk)) (fun hk=>Goes.nok hk))) (fun hk=>Goes.nok hk)
def Zno:List Int→AV:=fun (r:List Int)=>.rw 3 (.int .i64) r
def Ze1 (p:El Zc) (t:Int):Empty→Nat×St:=fun j=>nomatch j
theorem ZGa (p:El Zc) (t:Int) (L:Lt):entryA Go.Proofs.Tryz.prog (clOf Zsa) Zqr Go.Proofs.Tryz.f19 Zna L (toForms Zf3 (p,t,()))=(ZwH p t).run (fun v=>some (Zno v,tps (toForms Zf3 (p,t,())))) fun j=>L (Ze1 p t j).1 (Ze1 p t j).2:=by kernel_rfl
theorem ZFR (p:El Zc) (t:Int):∀(L:Lt) (j:Empty),procOf (procsF Go.Proofs.Tryz.prog (clOf Zsa) Zqr Go.Proofs.Tryz.f19 Zna (toForms Zf3 (p,t,()))) (Ze1 p t j).1 L (Ze1 p t j).2=(ZyY p t j).run (fun v=>some (Zno v,tps (toForms Zf3 (p,t,())))) fun j=>L (Ze1 p t j).1 (Ze1 p t j).2:=fun L j=>nomatch j
noncomputable def ZyL:Run:=entG Zf3 Zno (fun a=>Zfn a.1 a.2.1) (fun a=>ZbM a.1 a.2.1)
theorem ZFp:EntOK Go.Proofs.Tryz.prog 19 ZyL:=ZI (tb:=Zqr) (c:=Zna) ZGy (by kernel_rfl) (by kernel_rfl) (by kernel_rfl) (fun a=>by kernel_rfl) fun ⟨p,t,_⟩ hk=>Zl (c:=Zna) (K:=fun v=>(Zno v,tps (toForms Zf3 (p,t,())))) (S:=Ze1 p t) (by kernel_rfl) (ZGa p t) (ZFR p t) (ZI7 p t hk)
end
end Go.Ev
end

section
open Go Go.Ev
namespace Go.Ev
noncomputable section
def ZhA:Sig:=[(true,Zc),(false,(.int .i64))]
noncomputable def Zvf:Tbl:=[(23,ZlA),(39,Zmx),(25,Zw0),(40,Znp)]
theorem ZHV:∀p∈Zvf,EntOK Go.Proofs.Tryz.prog p.1 p.2:=Zg Zm8 (Zg Zqq (Zg Zwk (Zg Zpd (Zt))))
noncomputable def Zo3:Code:=Go.Proofs.Tryz.f16.body.getD .skip
def Zsh:Tb:=[(7,⟨[5,15,16,17],[(6,46)]⟩),(hintK,⟨[],[(1,46)]⟩)]
inductive ZlP where | l7 (h:Int) (out:List Int)
def ZlI (p:El Zc) (t:Int):ZlP→JT ZlP (List Int) |.l7 h out=>.br (decide (h < (Int.ofNat (List.length (Z6 (Zw p) t))))) (.br ((decide ((0:Int)≤h))&&(decide (h < (Int.ofNat (List.length (Z6 (Zw p) t)))))) (.br (Nat.ble (((List.length out)+1)*8) limit) (.jmp (.l7 (IntKind.i64.wrap (h+(1:Int))) (out++[(IntKind.i64.wrap ((List.getD (Z6 (Zw p) t) (Int.toNat h) (dflt Zd)).2.1+(1:Int)))]))) (.no)) (.no)) (.br (Zdq out) (.leaf (ZhI out)) (.no))
def ZsO (p:El Zc) (t:Int):JT ZlP (List Int):=.br (Zbc p t) (.br (! (Zba p t)) (.leaf []) (.br (Zbq p) (.br (ZcB (Zw p) t) (.jmp (.l7 (0:Int) [])) (.no)) (.no))) (.no)
def Zpf:List Int→AV:=fun (r:List Int)=>.rw 3 (.int .i64) r
def ZgD (p:El Zc) (t:Int):ZlP→Nat×St |.l7 h out=>(7,⟨mkTm 30 [(5,.own 6 0 none),(15,.own 16 0 none),(16,.d (.int .i64) (Int.ofNat (List.length (Z6 (Zw p) t)))),(17,.d (.int .i64) h)],[(6,0,.row 3 (.int .i64) out false),(16,0,.row 70 Zd (Z6 (Zw p) t) false)]⟩)
theorem ZHr (p:El Zc) (t:Int) (L:Lt):entryA Go.Proofs.Tryz.prog (clOf Zvf) Zsh Go.Proofs.Tryz.f16 Zo3 L (toForms ZhA (p,t,()))=(ZsO p t).run (fun v=>some (Zpf v,tps (toForms ZhA (p,t,())))) fun j=>L (ZgD p t j).1 (ZgD p t j).2:=by kernel_rfl
theorem ZKh (p:El Zc) (t:Int):∀(L:Lt) (j:ZlP),procOf (procsF Go.Proofs.Tryz.prog (clOf Zvf) Zsh Go.Proofs.Tryz.f16 Zo3 (toForms ZhA (p,t,()))) (ZgD p t j).1 L (ZgD p t j).2=(ZlI p t j).run (fun v=>some (Zpf v,tps (toForms ZhA (p,t,())))) fun j=>L (ZgD p t j).1 (ZgD p t j).2 | L,.l7 h out=>by kernel_rfl
end
end Go.Ev
end

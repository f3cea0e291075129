/- Part of the proof of: Behind an Or a set has what both had, of its own numbers; whether that is more is told; the other one stays: for every input the law answers true. -/
import Derived.Deep.DeepHandedRow
import Derived.Deep.DeepWitnessRowRef
import Derived.KernelRfl
import Derived.Lib.LaidIn
import Derived.ProofKit
import Derived.Shelf.Slices.In.SortNone
import Derived.Shelf.Sort.Plain
import Derived.Shelf.Unicode.DecodeAny
import Derived.SizedLaws
import Derived.Test.YtegodimlpcpmhaaProg
import Derived.Test.YtegodimlpcpmhaaRows
import Derived.Test.YtegodimlpcpmhaaEng1
set_option maxRecDepth 100000
set_option linter.unusedSectionVars false
set_option linter.unusedVariables false
set_option linter.unusedSimpArgs false
section
namespace Go.Ev
open Go
instance theTabs:Tabs where
 blocks:=[]
 ok _:=True
 stable:=fun _ h=>h
abbrev ZfC:Nat:=3
end Go.Ev
end

section
namespace Go.Proofs.Ytegodimlpcpmhaa
open Go Go.Ev Go.ChangeShapes Go.WideShapes Go.ChangeAt Go.RowKit Go.Lib Go.Proofs
noncomputable def laidWorld (os:Os):World:=World.holding Try.prog os ⟨#[], #[],[]⟩
end Go.Proofs.Ytegodimlpcpmhaa
end

section
open Go Go.Ev
namespace Go.Ev
noncomputable section
def Za0:Sig:=[(false,(.int .i64)),(false,(.int .i64))]
noncomputable def Zed:Tbl:=[]
theorem Zhz:∀p∈Zed,EntOK Go.Proofs.Try.prog p.1 p.2:=Zaf
noncomputable def Zc1:Code:=Go.Proofs.Try.f4.body.getD .skip
def Zda:Tb:=[]
def Zgo (n:Int) (m:Int):Empty→JT Empty (Int):=fun j=>nomatch j
def ZfB (n:Int) (m:Int):JT Empty (Int):=.br (m==(0:Int)) (.no) (.br (decide ((Int.tmod n m) < (0:Int))) (.leaf (IntKind.i64.wrap ((Int.tmod n m)+m))) (.leaf (Int.tmod n m)))
def Zc (n:Int) (m:Int):Int:=bif (m==(0:Int)) then (0:Int) else bif (decide ((Int.tmod n m) < (0:Int))) then (IntKind.i64.wrap ((Int.tmod n m)+m)) else (Int.tmod n m)
def ZX (n:Int) (m:Int):Bool:=bif (m==(0:Int)) then false else bif (decide ((Int.tmod n m) < (0:Int))) then true else true
theorem Zij (n:Int) (m:Int) (hk:ZX n m=true):Goes (Zgo n m) (ZfB n m) (Zc n m):=Goes.brk hk (fun hk=>Goes.nok hk) (fun hk=>Goes.brk hk (fun hk=>Goes.leaf) (fun hk=>Goes.leaf))
def ZcR:Int→AV:=fun (r:Int)=>.d (.int .i64) r
def ZaZ (n:Int) (m:Int):Empty→Nat×St:=fun j=>nomatch j
theorem Zif (n:Int) (m:Int) (L:Lt):entryA Go.Proofs.Try.prog (clOf Zed) Zda Go.Proofs.Try.f4 Zc1 L (toForms Za0 (n,m,()))=(ZfB n m).run (fun v=>some (ZcR v,tps (toForms Za0 (n,m,())))) fun j=>L (ZaZ n m j).1 (ZaZ n m j).2:=by kernel_rfl
theorem ZhI (n:Int) (m:Int):∀(L:Lt) (j:Empty),procOf (procsF Go.Proofs.Try.prog (clOf Zed) Zda Go.Proofs.Try.f4 Zc1 (toForms Za0 (n,m,()))) (ZaZ n m j).1 L (ZaZ n m j).2=(Zgo n m j).run (fun v=>some (ZcR v,tps (toForms Za0 (n,m,())))) fun j=>L (ZaZ n m j).1 (ZaZ n m j).2:=fun L j=>nomatch j
noncomputable def Zgu:Run:=entG Za0 ZcR (fun a=>ZX a.1 a.2.1) (fun a=>Zc a.1 a.2.1)
theorem Zig:EntOK Go.Proofs.Try.prog 4 Zgu:=ZiM (tb:=Zda) (c:=Zc1) Zhz (by kernel_rfl) (by kernel_rfl) (by kernel_rfl) (fun a=>by kernel_rfl) fun ⟨n,m,_⟩ hk=>ZY (c:=Zc1) (K:=fun v=>(ZcR v,tps (toForms Za0 (n,m,())))) (S:=ZaZ n m) (by kernel_rfl) (Zif n m) (ZhI n m) (Zij n m hk)
end
end Go.Ev
end

section
open Go Go.Ev
namespace Go.Ev
noncomputable section
def Zbp:Sig:=[(false,(.int .i64))]
noncomputable def Zfg:Tbl:=[]
theorem ZiB:∀p∈Zfg,EntOK Go.Proofs.Try.prog p.1 p.2:=Zaf
noncomputable def ZdH:Code:=Go.Proofs.Try.f5.body.getD .skip
def Zef:Tb:=[]
def ZgY (n:Int):Empty→JT Empty (Int×List (Int×Int)):=fun j=>nomatch j
def ZfZ (n:Int):JT Empty (Int×List (Int×Int)):=.leaf ((maxI n (0:Int)),[])
def Zi (n:Int):Int×List (Int×Int):=((maxI n (0:Int)),[])
theorem Zje (n:Int):Goes (ZgY n) (ZfZ n) (Zi n):=Goes.leaf
def Zdz:Int×List (Int×Int)→AV:=fun (r:Int×List (Int×Int))=>.bx 36 [.d (.int .i64) r.1,.mv (.int .i64) (.int .u64) r.2]
def Zbj (n:Int):Empty→Nat×St:=fun j=>nomatch j
theorem ZiF (n:Int) (L:Lt):entryA Go.Proofs.Try.prog (clOf Zfg) Zef Go.Proofs.Try.f5 ZdH L (toForms Zbp (n,()))=(ZfZ n).run (fun v=>some (Zdz v,tps (toForms Zbp (n,())))) fun j=>L (Zbj n j).1 (Zbj n j).2:=by kernel_rfl
theorem Zit (n:Int):∀(L:Lt) (j:Empty),procOf (procsF Go.Proofs.Try.prog (clOf Zfg) Zef Go.Proofs.Try.f5 ZdH (toForms Zbp (n,()))) (Zbj n j).1 L (Zbj n j).2=(ZgY n j).run (fun v=>some (Zdz v,tps (toForms Zbp (n,())))) fun j=>L (Zbj n j).1 (Zbj n j).2:=fun L j=>nomatch j
noncomputable def Zfk:Run:=entT Zbp Zdz (fun a=>Zi a.1)
theorem Zf6:EntOK Go.Proofs.Try.prog 5 Zfk:=ZiI (tb:=Zef) (c:=ZdH) ZiB (by kernel_rfl) (by kernel_rfl) (by kernel_rfl) (fun a=>by kernel_rfl) fun ⟨n,_⟩=>ZY (c:=ZdH) (K:=fun v=>(Zdz v,tps (toForms Zbp (n,())))) (S:=Zbj n) (by kernel_rfl) (ZiF n) (Zit n) (Zje n)
end
end Go.Ev
end

section
open Go Go.Ev
namespace Go.Ev
noncomputable section
noncomputable def Zdj:Tbl:=[]
theorem ZfI:∀p∈Zdj,EntOK Go.Proofs.Try.prog p.1 p.2:=Zaf
noncomputable def Zgq:Code:=Go.Proofs.Try.f12.body.getD .skip
noncomputable def Z6:Run:=entE Go.Proofs.Try.prog Zdj Go.Proofs.Try.f12 Zgq
theorem Zaj:EntOK Go.Proofs.Try.prog 12 Z6:=Zlk ZfI (by kernel_rfl) (by kernel_rfl) (by kernel_rfl) (fun xs=>by kernel_rfl)
end
end Go.Ev
end

section
open Go Go.Ev
namespace Go.Ev
noncomputable section
def Za7:PSig:=[.nilp,.dat false (.int .i64)]
noncomputable def Zbh:Tbl:=[(12,Z6)]
theorem ZeH:∀p∈Zbh,EntOK Go.Proofs.Try.prog p.1 p.2:=Zp Zaj (Zaf)
noncomputable def Z8:Code:=Go.Proofs.Try.f13.body.getD .skip
def Za3:Tb:=[]
def ZcK (s:Unit) (i:Int):Empty→JT Empty (Bool):=fun j=>nomatch j
def Zcp (s:Unit) (i:Int):JT Empty (Bool):=.br (decide (i≥(0:Int))) (.br (decide (i < (0:Int))) (.no) (.leaf false)) (.leaf false)
def Z5 (s:Unit) (i:Int):Bool:=bif (decide (i≥(0:Int))) then bif (decide (i < (0:Int))) then false else false else false
def Z2 (s:Unit) (i:Int):Bool:=bif (decide (i≥(0:Int))) then bif (decide (i < (0:Int))) then false else true else true
theorem Zft (s:Unit) (i:Int) (hk:Z2 s i=true):Goes (ZcK s i) (Zcp s i) (Z5 s i):=Goes.brk hk (fun hk=>Goes.brk hk (fun hk=>Goes.nok hk) (fun hk=>Goes.leaf)) (fun hk=>Goes.leaf)
def ZaI:Bool→Ans:=fun (r:Bool)=>(.d .bool r,[.top,.top])
def ZB (s:Unit) (i:Int):Empty→Nat×St:=fun j=>nomatch j
theorem ZeR (s:Unit) (i:Int) (L:Lt):entryA Go.Proofs.Try.prog (clOf Zbh) Za3 Go.Proofs.Try.f13 Z8 L (toPs Za7 (s,i,()))=(Zcp s i).run (fun v=>some (ZaI v)) fun j=>L (ZB s i j).1 (ZB s i j).2:=by kernel_rfl
theorem ZeS (s:Unit) (i:Int):∀(L:Lt) (j:Empty),procOf (procsF Go.Proofs.Try.prog (clOf Zbh) Za3 Go.Proofs.Try.f13 Z8 (toPs Za7 (s,i,()))) (ZB s i j).1 L (ZB s i j).2=(ZcK s i j).run (fun v=>some (ZaI v)) fun j=>L (ZB s i j).1 (ZB s i j).2:=fun L j=>nomatch j
noncomputable def ZcD:Run:=entO Za7 ZaI (fun a=>Z2 a.1 a.2.1) (fun a=>Z5 a.1 a.2.1)
theorem ZeB:EntOK Go.Proofs.Try.prog 13 ZcD:=ZcW (tb:=Za3) (c:=Z8) (ZeV (ZeW (fn:=Go.Proofs.Try.f13) (c:=Z8) (by kernel_rfl) (by kernel_rfl) (by kernel_rfl))) ZeH (by kernel_rfl) (by kernel_rfl) (fun a=>by kernel_rfl) fun ⟨s,i,_⟩ hk=>ZY (c:=Z8) (K:=ZaI) (S:=ZB s i) (by kernel_rfl) (ZeR s i) (ZeS s i) (Zft s i hk)
end
end Go.Ev
end

section
open Go Go.Ev
namespace Go.Ev
noncomputable section
def ZbY:PSig:=[.obj 36 [(.d (.int .i64)),(.m (.int .i64) (.int .u64))],.dat false (.int .i64)]
noncomputable def Zcx:Tbl:=[(12,Z6)]
theorem ZfW:∀p∈Zcx,EntOK Go.Proofs.Try.prog p.1 p.2:=Zp Zaj (Zaf)
noncomputable def Zby:Code:=Go.Proofs.Try.f13.body.getD .skip
def Zce:Tb:=[]
def ZdW (s:Int×List (Int×Int)) (i:Int):Empty→JT Empty (Bool×Int×List (Int×Int)):=fun j=>nomatch j
def Zb4 (s:Int×List (Int×Int)) (i:Int):JT Empty (Bool×Int×List (Int×Int)):=.br (decide (i≥(0:Int))) (.br (decide (i < s.1)) (.br (decide ((IntKind.u64.wrap (Int.tmod i (64:Int))) < (0:Int))) (.no) (.leaf (((bitAnd IntKind.u64 (Int.fdiv (Option.getD (mget (kt:=(.int .i64)) (IntKind.i64.wrap (Int.tdiv i (64:Int))) s.2) (0:Int)) (2 ^ (min (Int.toNat (IntKind.u64.wrap (Int.tmod i (64:Int)))) (IntKind.u64).bits))) (1:Int))==(1:Int)),s))) (.leaf (false,s))) (.leaf (false,s))
def ZbA:Bool×Int×List (Int×Int)→Ans:=fun (r:Bool×Int×List (Int×Int))=>(.d .bool r.1,[.bx 36 [.d (.int .i64) r.2.1,.mv (.int .i64) (.int .u64) r.2.2],.top])
def ZU (s:Int×List (Int×Int)) (i:Int):Empty→Nat×St:=fun j=>nomatch j
theorem Zgl (s:Int×List (Int×Int)) (i:Int) (L:Lt):entryA Go.Proofs.Try.prog (clOf Zcx) Zce Go.Proofs.Try.f13 Zby L (toPs ZbY (s,i,()))=(Zb4 s i).run (fun v=>some (ZbA v)) fun j=>L (ZU s i j).1 (ZU s i j).2:=by kernel_rfl
theorem Zgt (s:Int×List (Int×Int)) (i:Int):∀(L:Lt) (j:Empty),procOf (procsF Go.Proofs.Try.prog (clOf Zcx) Zce Go.Proofs.Try.f13 Zby (toPs ZbY (s,i,()))) (ZU s i j).1 L (ZU s i j).2=(ZdW s i j).run (fun v=>some (ZbA v)) fun j=>L (ZU s i j).1 (ZU s i j).2:=fun L j=>nomatch j
end
end Go.Ev
end

section
open Go
namespace Go.Ev
def wordAt (m:List (Int×Int)) (k:Int):Int:=Option.getD (mget (kt:=(.int .i64)) k m) (0:Int)
def bitE (w:Int) (i:Int):Bool:=(bitAnd IntKind.u64 (Int.fdiv w (2 ^ (min (Int.toNat (IntKind.u64.wrap i)) (IntKind.u64).bits))) (1:Int))==(1:Int)
def numE (k i:Int):Int:=IntKind.i64.wrap ((IntKind.i64.wrap (k*(64:Int)))+i)
def wordList (m:List (Int×Int)) (k:Int) (i n:Nat):List Int:=((List.range' i n).filter fun i=>bitE (wordAt m k) (i:Nat)).map fun i=>numE k (i:Nat)
def listAt (m:List (Int×Int)) (places:List Int):List Int:=places.flatMap fun k=>wordList m k 0 64
def listS (s:Int×List (Int×Int)):List Int:=listAt s.2 ((s.2.map Prod.fst).mergeSort fun x y=>decide (x≤y))
theorem Zeg {i:Nat} (h:i < 64):IntKind.u64.wrap (i:Int)=(i:Int):=by
 unfold IntKind.wrap
 simp[IntKind.signed,IntKind.bits]
 omega
theorem Zde (m:List (Int×Int)) (k:Int) (i n:Nat):(wordList m k i n).length≤n:=by
 unfold wordList
 rw[List.length_map]
 exact Nat.le_trans (List.length_filter_le _ _) (by simp)
theorem ZcS (m:List (Int×Int)):∀places:List Int,(listAt m places).length≤places.length*64
 | []=>by simp[listAt]
 | k :: r=>by
  have:=ZcS m r
  have h2:=Zde m k 0 64
  simp only[listAt,List.flatMap_cons,List.length_append,List.length_cons] at*
  omega
end Go.Ev
namespace Go.Ev
def placeOf (i:Int):Int:=IntKind.i64.wrap (Int.tdiv i (64:Int))
def hasS (s:Int×List (Int×Int)) (i:Int):Bool:=decide (i≥(0:Int))&&(decide (i < s.1)&&bitE (wordAt s.2 (placeOf i)) (Int.tmod i (64:Int)))
def withBit (w i:Int):Int:=bitOr IntKind.u64 w (IntKind.u64.wrap ((1:Int)*(2 ^ (min (Int.toNat (IntKind.u64.wrap i)) (IntKind.u64).bits))))
def putS (s:Int×List (Int×Int)) (i:Int):Bool×Int×List (Int×Int):=
 if i < 0∨s.1≤i∨hasS s i=true then (false,s) else (true,s.1,mput (kt:=(.int .i64)) (placeOf i) (withBit (wordAt s.2 (placeOf i)) (Int.tmod i (64:Int))) s.2)
theorem Zfy (n:Int):decide (IntKind.u64.wrap n < (0:Int))=false:=by
 apply decide_eq_false
 unfold IntKind.wrap
 simp only[IntKind.signed,IntKind.bits,Bool.false_and,Bool.false_eq_true,if_false]
 have:(0:Int)≤n % 18446744073709551616:=Int.emod_nonneg _ (by decide)
 simp at*
 omega
end Go.Ev
end

section
open Go
namespace Go.Ev
def Zj (s:Int×List (Int×Int)) (i:Int):Bool×Int×List (Int×Int):=(hasS s i,s)
theorem Zgw (s:Int×List (Int×Int)) (i:Int):Goes (ZdW s i) (Zb4 s i) (Zj s i):=by
 unfold Zb4 Zj hasS
 rw[Ze]
 by_cases h0:i≥0
 ·rw[if_pos (decide_eq_true h0),Ze,decide_eq_true h0,Bool.true_and]
  by_cases h1:i < s.1
  ·rw[if_pos (decide_eq_true h1),Ze,if_neg (by rw[Zfy];decide),decide_eq_true h1,Bool.true_and]
   exact .leaf
  ·rw[if_neg (by simpa using h1),decide_eq_false h1,Bool.false_and]
   exact .leaf
 ·rw[if_neg (by simpa using h0),decide_eq_false h0,Bool.false_and]
  exact .leaf
end Go.Ev
end

section
open Go Go.Ev
namespace Go.Ev
noncomputable section
noncomputable def Zbw:Run:=entO ZbY ZbA (fun a=>true) (fun a=>Zj a.1 a.2.1) ZcD
theorem Zb9:EntOK Go.Proofs.Try.prog 13 Zbw:=ZcW (tb:=Zce) (c:=Zby) ZeB ZfW (by kernel_rfl) (by kernel_rfl) (fun a=>by kernel_rfl) fun ⟨s,i,_⟩ hk=>ZY (c:=Zby) (K:=ZbA) (S:=ZU s i) (by kernel_rfl) (Zgl s i) (Zgt s i) (Zgw s i)
end
end Go.Ev
end

section
open Go Go.Ev
namespace Go.Ev
noncomputable section
def Za8:PSig:=[.nilp,.dat false (.int .i64)]
noncomputable def Zbm:Tbl:=[(12,Z6),(13,Zbw)]
theorem ZeO:∀p∈Zbm,EntOK Go.Proofs.Try.prog p.1 p.2:=Zp Zaj (Zp Zb9 (Zaf))
noncomputable def Z1:Code:=Go.Proofs.Try.f6.body.getD .skip
def Za4:Tb:=[]
def ZcN (s:Unit) (i:Int):Empty→JT Empty (Bool):=fun j=>nomatch j
def Zcj (s:Unit) (i:Int):JT Empty (Bool):=.br (decide (i < (0:Int))) (.leaf false) (.br (decide (i≥(0:Int))) (.leaf false) (.br (Z2 () i) (.br (Z5 () i) (.leaf false) (.no)) (.no)))
def Z7 (s:Unit) (i:Int):Bool:=bif (decide (i < (0:Int))) then false else bif (decide (i≥(0:Int))) then false else bif (Z2 () i) then bif (Z5 () i) then false else false else false
def ZZ (s:Unit) (i:Int):Bool:=bif (decide (i < (0:Int))) then true else bif (decide (i≥(0:Int))) then true else bif (Z2 () i) then bif (Z5 () i) then true else false else false
theorem Zfs (s:Unit) (i:Int) (hk:ZZ s i=true):Goes (ZcN s i) (Zcj s i) (Z7 s i):=Goes.brk hk (fun hk=>Goes.leaf) (fun hk=>Goes.brk hk (fun hk=>Goes.leaf) (fun hk=>Goes.brk hk (fun hk=>Goes.brk hk (fun hk=>Goes.leaf) (fun hk=>Goes.nok hk)) (fun hk=>Goes.nok hk)))
def ZaJ:Bool→Ans:=fun (r:Bool)=>(.d .bool r,[.top,.top])
def ZA (s:Unit) (i:Int):Empty→Nat×St:=fun j=>nomatch j
theorem ZeP (s:Unit) (i:Int) (L:Lt):entryA Go.Proofs.Try.prog (clOf Zbm) Za4 Go.Proofs.Try.f6 Z1 L (toPs Za8 (s,i,()))=(Zcj s i).run (fun v=>some (ZaJ v)) fun j=>L (ZA s i j).1 (ZA s i j).2:=by kernel_rfl
theorem Zen (s:Unit) (i:Int):∀(L:Lt) (j:Empty),procOf (procsF Go.Proofs.Try.prog (clOf Zbm) Za4 Go.Proofs.Try.f6 Z1 (toPs Za8 (s,i,()))) (ZA s i j).1 L (ZA s i j).2=(ZcN s i j).run (fun v=>some (ZaJ v)) fun j=>L (ZA s i j).1 (ZA s i j).2:=fun L j=>nomatch j
noncomputable def ZcB:Run:=entO Za8 ZaJ (fun a=>ZZ a.1 a.2.1) (fun a=>Z7 a.1 a.2.1)
theorem Zer:EntOK Go.Proofs.Try.prog 6 ZcB:=ZcW (tb:=Za4) (c:=Z1) (ZeV (ZeW (fn:=Go.Proofs.Try.f6) (c:=Z1) (by kernel_rfl) (by kernel_rfl) (by kernel_rfl))) ZeO (by kernel_rfl) (by kernel_rfl) (fun a=>by kernel_rfl) fun ⟨s,i,_⟩ hk=>ZY (c:=Z1) (K:=ZaJ) (S:=ZA s i) (by kernel_rfl) (ZeP s i) (Zen s i) (Zfs s i hk)
end
end Go.Ev
end

section
open Go Go.Ev
namespace Go.Ev
noncomputable section
def Zb2:PSig:=[.obj 36 [(.d (.int .i64)),(.m (.int .i64) (.int .u64))],.dat false (.int .i64)]
noncomputable def Zcu:Tbl:=[(12,Z6),(13,Zbw)]
theorem Zgc:∀p∈Zcu,EntOK Go.Proofs.Try.prog p.1 p.2:=Zp Zaj (Zp Zb9 (Zaf))
noncomputable def Zbz:Code:=Go.Proofs.Try.f6.body.getD .skip
def Zb3:Tb:=[]
def ZdP (s:Int×List (Int×Int)) (i:Int):Empty→JT Empty (Bool×Int×List (Int×Int)):=fun j=>nomatch j
def Zcb (s:Int×List (Int×Int)) (i:Int):JT Empty (Bool×Int×List (Int×Int)):=.br (decide (i < (0:Int))) (.leaf (false,s)) (.br (decide (i≥s.1)) (.leaf (false,s)) (.br (Zj s i).1 (.leaf (false,(Zj s i).2)) (.br (decide ((IntKind.u64.wrap (Int.tmod i (64:Int))) < (0:Int))) (.no) (.leaf (true,((Zj s i).2.1,(mput (kt:=(.int .i64)) (IntKind.i64.wrap (Int.tdiv i (64:Int))) (bitOr IntKind.u64 (Option.getD (mget (kt:=(.int .i64)) (IntKind.i64.wrap (Int.tdiv i (64:Int))) (Zj s i).2.2) (0:Int)) (IntKind.u64.wrap ((1:Int)*(2 ^ (min (Int.toNat (IntKind.u64.wrap (Int.tmod i (64:Int)))) (IntKind.u64).bits))))) (Zj s i).2.2)))))))
def ZbC:Bool×Int×List (Int×Int)→Ans:=fun (r:Bool×Int×List (Int×Int))=>(.d .bool r.1,[.bx 36 [.d (.int .i64) r.2.1,.mv (.int .i64) (.int .u64) r.2.2],.top])
def ZW (s:Int×List (Int×Int)) (i:Int):Empty→Nat×St:=fun j=>nomatch j
theorem Zgr (s:Int×List (Int×Int)) (i:Int) (L:Lt):entryA Go.Proofs.Try.prog (clOf Zcu) Zb3 Go.Proofs.Try.f6 Zbz L (toPs Zb2 (s,i,()))=(Zcb s i).run (fun v=>some (ZbC v)) fun j=>L (ZW s i j).1 (ZW s i j).2:=by kernel_rfl
theorem Zf8 (s:Int×List (Int×Int)) (i:Int):∀(L:Lt) (j:Empty),procOf (procsF Go.Proofs.Try.prog (clOf Zcu) Zb3 Go.Proofs.Try.f6 Zbz (toPs Zb2 (s,i,()))) (ZW s i j).1 L (ZW s i j).2=(ZdP s i j).run (fun v=>some (ZbC v)) fun j=>L (ZW s i j).1 (ZW s i j).2:=fun L j=>nomatch j
end
end Go.Ev
end

section
open Go
namespace Go.Ev
def Zb (s:Int×List (Int×Int)) (i:Int):Bool×Int×List (Int×Int):=putS s i
theorem ZgE (s:Int×List (Int×Int)) (i:Int):Goes (ZdP s i) (Zcb s i) (Zb s i):=by
 unfold Zcb Zb putS
 simp only[Zj]
 rw[Ze]
 by_cases h0:i < 0
 ·rw[if_pos (decide_eq_true h0),if_pos (.inl h0)];exact .leaf
 ·rw[if_neg (by simpa using h0),Ze]
  by_cases h1:i≥s.1
  ·rw[if_pos (decide_eq_true h1),if_pos (.inr (.inl h1))];exact .leaf
  ·rw[if_neg (by simpa using h1),Ze]
   by_cases h2:hasS s i=true
   ·rw[if_pos h2,if_pos (.inr (.inr h2))];exact .leaf
   ·rw[if_neg h2,Ze,if_neg (by rw[Zfy];decide),if_neg (by intro h;rcases h with h | h | h <;> first | exact h0 h | exact h1 h | exact h2 h)]
    exact .leaf
end Go.Ev
end

section
open Go Go.Ev
namespace Go.Ev
noncomputable section
noncomputable def Zan:Run:=entO Zb2 ZbC (fun a=>true) (fun a=>Zb a.1 a.2.1) ZcB
theorem ZaD:EntOK Go.Proofs.Try.prog 6 Zan:=ZcW (tb:=Zb3) (c:=Zbz) Zer Zgc (by kernel_rfl) (by kernel_rfl) (fun a=>by kernel_rfl) fun ⟨s,i,_⟩ hk=>ZY (c:=Zbz) (K:=ZbC) (S:=ZW s i) (by kernel_rfl) (Zgr s i) (Zf8 s i) (ZgE s i)
end
end Go.Ev
end

section
open Go Go.Ev
namespace Go.Ev
noncomputable section
def Zas:PSig:=[.obj 36 [(.d (.int .i64)),(.m (.int .i64) (.int .u64))]]
noncomputable def ZcF:Tbl:=[]
noncomputable def Zbq:Code:=match Go.Proofs.Try.f9.body with | some (.seq _ (.seq _ (.seq _ (.seq _ (.seq _ d)))))=>d | _=>.skip
def Zx:Tb:=[(2,⟨[0,4,26,27,28],[(5,44)]⟩),(8,⟨[0,4,7,8,26,27,28],[(5,44)]⟩)]
inductive Z0 where | l2 (h:Int) (h1:List Int) (h2:Int) (out:List Int) | l8 (k:Int) (h:Int) (h1:List Int) (i:Int) (out:List Int) (h2:Int)
def Zo (s:Int×List (Int×Int)) (places:List Int):Z0→JT Z0 ((List Int)×Int×List (Int×Int)) |.l2 h h1 h2 out=>.br (decide (h2 < h)) (.br ((decide ((0:Int)≤h2))&&(decide (h2 < (Int.ofNat (List.length h1))))) (.jmp (.l8 (List.getD h1 (Int.toNat h2) (dflt (.int .i64))) h h1 (0:Int) out h2)) (.no)) (.leaf (out,s)) |.l8 k h h1 i out h2=>.br (decide (i < (64:Int))) (.br (decide ((IntKind.u64.wrap i) < (0:Int))) (.no) (.br ((bitAnd IntKind.u64 (Int.fdiv (Option.getD (mget (kt:=(.int .i64)) k s.2) (0:Int)) (2 ^ (min (Int.toNat (IntKind.u64.wrap i)) (IntKind.u64).bits))) (1:Int))==(1:Int)) (.br (Nat.ble (((List.length out)+1)*8) limit) (.jmp (.l8 k h h1 (IntKind.i64.wrap (i+(1:Int))) (out++[(IntKind.i64.wrap ((IntKind.i64.wrap (k*(64:Int)))+i))]) h2)) (.no)) (.jmp (.l8 k h h1 (IntKind.i64.wrap (i+(1:Int))) out h2)))) (.jmp (.l2 h h1 (IntKind.i64.wrap (h2+(1:Int))) out))
def Zbe (s:Int×List (Int×Int)) (places:List Int):JT Z0 ((List Int)×Int×List (Int×Int)):=.jmp (.l2 (Int.ofNat (List.length places)) places (0:Int) [])
def Zbi:(List Int)×Int×List (Int×Int)→Ans:=fun (r:(List Int)×Int×List (Int×Int))=>(.rw 3 (.int .i64) r.1,[.bx 36 [.d (.int .i64) r.2.1,.mv (.int .i64) (.int .u64) r.2.2]])
def ZL (s:Int×List (Int×Int)) (places:List Int):Z0→Nat×St |.l2 h h1 h2 out=>(2,⟨mkTm 56 [(0,.pt 1 0 0),(4,.own 5 0 none),(26,.own 27 0 none),(27,.d (.int .i64) h),(28,.d (.int .i64) h2)],[(1,0,.box 36 [.d (.int .i64) s.1,.mp 1026 0] (some 0)),(5,0,.row 3 (.int .i64) out false),(27,0,.row 3 (.int .i64) h1 false),(1026,0,.map (.int .i64) (.int .u64) s.2)]⟩) |.l8 k h h1 i out h2=>(8,⟨mkTm 56 [(0,.pt 1 0 0),(4,.own 5 0 none),(7,.d (.int .i64) k),(8,.d (.int .i64) i),(26,.own 27 0 none),(27,.d (.int .i64) h),(28,.d (.int .i64) h2)],[(1,0,.box 36 [.d (.int .i64) s.1,.mp 1026 0] (some 0)),(5,0,.row 3 (.int .i64) out false),(27,0,.row 3 (.int .i64) h1 false),(1026,0,.map (.int .i64) (.int .u64) s.2)]⟩)
def Zaq (s:Int×List (Int×Int)) (places:List Int):St:=⟨mkTm 56 [(0,.pt 1 0 0),(3,.own 4 0 none),(4,.nil)],[(1,0,.box 36 [.d (.int .i64) s.1,.mp 1026 0] (some 0)),(4,0,.row 3 (.int .i64) places false),(1026,0,.map (.int .i64) (.int .u64) s.2)]⟩
theorem ZeX (s:Int×List (Int×Int)) (places:List Int) (L:Lt):evC Go.Proofs.Try.prog (clOf ZcF) Zx L Zbq 0 (finA Go.Proofs.Try.prog Zx Go.Proofs.Try.f9 (toPs Zas (s,()))) (fun _ _=>none) (finA Go.Proofs.Try.prog Zx Go.Proofs.Try.f9 (toPs Zas (s,()))) (Zaq s places)=(Zbe s places).run (fun v=>some (Zbi v)) fun j=>L (ZL s places j).1 (ZL s places j).2:=by kernel_rfl
noncomputable def Zcl (s:Int×List (Int×Int)) (places:List Int):List (Nat×(Lt→Kt)):=procs Go.Proofs.Try.prog (clOf ZcF) Zx Zbq 0 (fun _=>(finA Go.Proofs.Try.prog Zx Go.Proofs.Try.f9 (toPs Zas (s,())))) (fun _ _ _=>none) (fun _=>(finA Go.Proofs.Try.prog Zx Go.Proofs.Try.f9 (toPs Zas (s,()))))
theorem Zei (s:Int×List (Int×Int)) (places:List Int):∀(L:Lt) (j:Z0),procOf (Zcl s places) (ZL s places j).1 L (ZL s places j).2=(Zo s places j).run (fun v=>some (Zbi v)) fun j=>L (ZL s places j).1 (ZL s places j).2 | L,.l2 h h1 h2 out=>by kernel_rfl | L,.l8 k h h1 i out h2=>by kernel_rfl
end
end Go.Ev
end

section
open Go
namespace Go.Ev
theorem Zff (s:Int×List (Int×Int)) (places:List Int) (hk:Nat.ble (places.length*512) limit=true):Goes (Zo s places) (Zbe s places) (listAt s.2 places,s):=by
 have hlim:places.length*512≤limit:=Nat.le_of_ble_eq_true hk
 have hn:places.length < 4611686018427387904:=by unfold limit at hlim;omega
 have inner:∀(k:Int) (j:Nat),j < places.length→∀(i:Nat),i≤64→∀(out:List Int) r,(out.length+(64 - i))*8≤limit→
   Goes (Zo s places) (.jmp (.l2 (Int.ofNat (List.length places)) places ((j+1:Nat):Int) (out++wordList s.2 k i (64 - i)))) r→
   Goes (Zo s places) (.jmp (.l8 k (Int.ofNat (List.length places)) places (i:Int) out (j:Int))) r:=by
  intro k j hj
  refine down ?_ fun i hi ih=>?_
  ·intro out r _ h
   rw[Zz]
   have e:decide (((64:Nat):Int) < (64:Int))=false:=by decide
   simp only[Zo,Ze,e,Bool.false_eq_true,if_false,ZaO (k:=j) (by omega)]
   simpa[wordList] using h
  ·intro out r hl h
   rw[Zz]
   have e:decide ((i:Int) < (64:Int))=true:=decide_eq_true (by omega)
   have hw:=Zeg hi
   have e2:decide ((i:Int) < (0:Int))=false:=decide_eq_false (by omega)
   have hcons:wordList s.2 k i (64 - i)=(if bitE (wordAt s.2 k) (i:Nat) then [numE k (i:Nat)] else [])++wordList s.2 k (i+1) (64 - (i+1)):=by
    unfold wordList
    rw[show 64 - i=(64 - (i+1))+1 by omega,List.range'_succ,List.filter_cons]
    split <;> simp
   rw[hcons] at h
   have hb:((bitAnd IntKind.u64 (Int.fdiv (Option.getD (mget (kt:=(.int .i64)) k s.2) (0:Int)) (2 ^ (min (Int.toNat (IntKind.u64.wrap (i:Int))) (IntKind.u64).bits))) (1:Int))==(1:Int))=bitE (wordAt s.2 k) (i:Nat):=rfl
   unfold Zo
   rw[Ze,if_pos e,Ze,if_neg (by rw[hw,e2];decide),Ze,hb,ZaO (k:=i) (by omega)]
   by_cases hbit:bitE (wordAt s.2 k) (i:Nat)=true
   ·rw[if_pos hbit]
    rw[if_pos hbit] at h
    rw[Ze,if_pos (Nat.ble_eq_true_of_le (by omega))]
    refine ih (out++[numE k (i:Nat)]) r (by simp;omega) ?_
    simpa using h
   ·rw[if_neg hbit]
    rw[if_neg hbit,List.nil_append] at h
    exact ih out r (by omega) h
 have outer:∀j,j≤places.length→∀out:List Int,(out.length+(places.length - j)*64)*8≤limit→
   Goes (Zo s places) (.jmp (.l2 (Int.ofNat (List.length places)) places (j:Int) out)) (out++listAt s.2 (places.drop j),s):=by
  refine down ?_ fun j hj ih=>?_
  ·intro out _
   rw[Zz]
   simp only[Zo,Ze,Zbu (Nat.lt_irrefl _),List.drop_length,Bool.false_eq_true,if_false]
   rw[show out++listAt s.2 []=out by simp[listAt]]
   exact .leaf
  ·intro out hl
   rw[Zz,ZcC hj]
   simp only[Zo,Ze,ZeD hj,nng,Bool.and_self,if_true,Int.toNat_natCast,ZcA hj]
   have hwl:=Zde s.2 places[j] 0 64
   refine inner places[j] j hj 0 (by omega) out _ (by omega) ?_
   have:=ih (out++wordList s.2 places[j] 0 64) (by rw[List.length_append];omega)
   rw[show out++listAt s.2 (places[j] :: places.drop (j+1))=(out++wordList s.2 places[j] 0 64)++listAt s.2 (places.drop (j+1)) by simp only[listAt,List.flatMap_cons,List.append_assoc]]
   exact this
 have:=outer 0 (Nat.zero_le _) [] (by simp;omega)
 simpa[Zbe] using this
end Go.Ev
end

section
open Go Go.Ev
namespace Go.Ev
def renSort:Go.Shelf.Ren:=⟨fun n=>if n=189 then 14 else if n=125 then 17 else if n=257 then 16 else if n=128 then 28 else if n=129 then 29 else if n=294 then 19 else if n=295 then 20 else if n=296 then 21 else if n=297 then 22 else if n=298 then 23 else if n=299 then 24 else if n=216 then 25 else if n=300 then 26 else if n=301 then 27 else if n=328 then 30 else if n=329 then 31 else if n=330 then 32 else if n=331 then 33 else if n=332 then 34 else if n=215 then 35 else if n=343 then 36 else n,
 fun n=>if n=28 then 22 else if n=46 then 39 else if n=51 then 54 else if n=53 then 38 else if n=183 then 46 else if n=182 then 45 else if n=131 then 51 else if n=218 then 55 else if n=222 then 59 else if n=228 then 61 else if n=229 then 62 else n,
 fun n=>n⟩
theorem ZfA:Go.Proofs.Lays.n189 Go.Proofs.Try.prog renSort where
 mixed:=by kernel_rfl
 f125:=by kernel_rfl
 f128:=by kernel_rfl
 f129:=by kernel_rfl
 f189:=by kernel_rfl
 f215:=by kernel_rfl
 f216:=by kernel_rfl
 f257:=by kernel_rfl
 f294:=by kernel_rfl
 f295:=by kernel_rfl
 f296:=by kernel_rfl
 f297:=by kernel_rfl
 f298:=by kernel_rfl
 f299:=by kernel_rfl
 f300:=by kernel_rfl
 f301:=by kernel_rfl
 f328:=by kernel_rfl
 f329:=by kernel_rfl
 f330:=by kernel_rfl
 f331:=by kernel_rfl
 f332:=by kernel_rfl
 f343:=by kernel_rfl
 t0:=by kernel_rfl
 a0:=fun w=>by kernel_rfl
 z0:=fun w=>by kernel_rfl
 v0:=fun w=>by kernel_rfl
 t3:=by kernel_rfl
 a3:=fun w=>by kernel_rfl
 z3:=fun w=>by kernel_rfl
 v3:=fun w=>by kernel_rfl
 t4:=by kernel_rfl
 a4:=fun w=>by kernel_rfl
 z4:=fun w=>by kernel_rfl
 v4:=fun w=>by kernel_rfl
 t5:=by kernel_rfl
 a5:=fun w=>by kernel_rfl
 z5:=fun w=>by kernel_rfl
 v5:=fun w=>by kernel_rfl
 t9:=by kernel_rfl
 a9:=fun w=>by kernel_rfl
 z9:=fun w=>by kernel_rfl
 v9:=fun w=>by kernel_rfl
 t28:=by kernel_rfl
 a28:=fun w=>by kernel_rfl
 z28:=fun w=>by kernel_rfl
 v28:=fun w=>by kernel_rfl
 t46:=by kernel_rfl
 a46:=fun w=>by kernel_rfl
 z46:=fun w=>by kernel_rfl
 v46:=fun w=>by kernel_rfl
 t51:=by kernel_rfl
 a51:=fun w=>by kernel_rfl
 z51:=fun w=>by kernel_rfl
 v51:=fun w=>by kernel_rfl
 t53:=by kernel_rfl
 a53:=fun w=>by kernel_rfl
 z53:=fun w=>by kernel_rfl
 v53:=fun w=>by kernel_rfl
 t131:=by kernel_rfl
 a131:=fun w=>by kernel_rfl
 z131:=fun w=>by kernel_rfl
 v131:=fun w=>by kernel_rfl
 t182:=by kernel_rfl
 a182:=fun w=>by kernel_rfl
 z182:=fun w=>by kernel_rfl
 v182:=fun w=>by kernel_rfl
 t183:=by kernel_rfl
 a183:=fun w=>by kernel_rfl
 z183:=fun w=>by kernel_rfl
 v183:=fun w=>by kernel_rfl
 t218:=by kernel_rfl
 a218:=fun w=>by kernel_rfl
 z218:=fun w=>by kernel_rfl
 v218:=fun w=>by kernel_rfl
 t222:=by kernel_rfl
 a222:=fun w=>by kernel_rfl
 z222:=fun w=>by kernel_rfl
 v222:=fun w=>by kernel_rfl
 t228:=by kernel_rfl
 a228:=fun w=>by kernel_rfl
 z228:=fun w=>by kernel_rfl
 v228:=fun w=>by kernel_rfl
 t229:=by kernel_rfl
 a229:=fun w=>by kernel_rfl
 z229:=fun w=>by kernel_rfl
 v229:=fun w=>by kernel_rfl
theorem sortOK:SortOK Go.Proofs.Try.prog 14:=⟨fun blk off cap zs w h1 h2 h3=>Go.Proofs.Any.slices_Sort_int ZfA blk off cap zs w h1 h2 h3,fun p cap w=>Go.Proofs.Any.slices_Sort_int_none ZfA p cap w⟩
end Go.Ev
end

section
open Go Go.Ev
namespace Go.Ev
noncomputable section
def ZaV:PSig:=[.nilp]
noncomputable def Zbg:Tbl:=[]
theorem Zd7:∀p∈Zbg,EntOK Go.Proofs.Try.prog p.1 p.2:=Zaf
noncomputable def ZS:Code:=Go.Proofs.Try.f9.body.getD .skip
def ZaW:Tb:=[]
def Zci (s:Unit):Empty→JT Empty (List Int):=fun j=>nomatch j
def ZbW (s:Unit):JT Empty (List Int):=.leaf []
def Zck (s:Unit):List Int:=[]
theorem Zev (s:Unit):Goes (Zci s) (ZbW s) (Zck s):=Goes.leaf
def Zao:List Int→Ans:=fun (r:List Int)=>(.nil,[.top])
def Zv (s:Unit):Empty→Nat×St:=fun j=>nomatch j
theorem Zd6 (s:Unit) (L:Lt):entryA Go.Proofs.Try.prog (clOf Zbg) ZaW Go.Proofs.Try.f9 ZS L (toPs ZaV (s,()))=(ZbW s).run (fun v=>some (Zao v)) fun j=>L (Zv s j).1 (Zv s j).2:=by kernel_rfl
theorem Zeb (s:Unit):∀(L:Lt) (j:Empty),procOf (procsF Go.Proofs.Try.prog (clOf Zbg) ZaW Go.Proofs.Try.f9 ZS (toPs ZaV (s,()))) (Zv s j).1 L (Zv s j).2=(Zci s j).run (fun v=>some (Zao v)) fun j=>L (Zv s j).1 (Zv s j).2:=fun L j=>nomatch j
noncomputable def Zcm:Run:=entO ZaV Zao (fun a=>true) (fun a=>Zck a.1)
theorem Zd8:EntOK Go.Proofs.Try.prog 9 Zcm:=ZcW (tb:=ZaW) (c:=ZS) (ZeV (ZeW (fn:=Go.Proofs.Try.f9) (c:=ZS) (by kernel_rfl) (by kernel_rfl) (by kernel_rfl))) Zd7 (by kernel_rfl) (by kernel_rfl) (fun a=>by kernel_rfl) fun ⟨s,_⟩ hk=>ZY (c:=ZS) (K:=Zao) (S:=Zv s) (by kernel_rfl) (Zd6 s) (Zeb s) (Zev s)
end
end Go.Ev
end

section
open Go Go.Ev
namespace Go.Ev
def Zc3:PSig:=[.obj 36 [(.d (.int .i64)),(.m (.int .i64) (.int .u64))]]
def Za (s:Int×List (Int×Int)):(List Int)×Int×List (Int×Int):=(listS s,s)
def Zf (s:Int×List (Int×Int)):Bool:=Nat.ble (s.2.length*512) limit
def Zdm:(List Int)×Int×List (Int×Int)→Ans:=Zbi
section
abbrev SetL:=List (El (.int .i64)×El (.int .u64))
noncomputable def setListBody:Code:=Go.Proofs.Try.f9.body.getD .skip
noncomputable def setListR:Code:=fstC (sndC (sndC (sndC setListBody)))
noncomputable def setListX:RangeText:=rangeText (sndC setListR)
noncomputable def setListSort:Code:=fstC (sndC (sndC (sndC (sndC setListBody))))
def setLab1:Lab:=⟨[0,3,4],[]⟩
def setLab2:Lab:=⟨[0,3,4,15],[(4,44)]⟩
def setObs (s:Int×SetL) (ps:List (El (.int .i64))):List (Id×Nat×Obj):=[(1,0,.box 36 [.d (.int .i64) s.1,.mp 1026 0] (some 0)),(4,0,.row 3 (.int .i64) ps false),(1026,0,.gone (some 1000))]
def setK (s:Int×SetL) (v:Value) (ps:List (El (.int .i64))):St:=⟨mkTm 56 [(0,.pt 1 0 0),(3,.own 4 0 none),(4,.nil),(15,.cst v)],setObs s ps⟩
def setI (s:Int×SetL) (v:Value) (done:SetL):St:=setK s v (done.map Prod.fst)
def setT (s:Int×SetL) (v:Value) (done:SetL) (e:El (.int .i64)×El (.int .u64)):St:=((setI s v done).put (some 16) (.tu [mkB true,.d (.int .i64) e.1,.d (.int .u64) e.2])).put (some 17) (mkB true)
def setU (s:Int×SetL) (v:Value) (done:SetL) (e:El (.int .i64)×El (.int .u64)):St:=(((setT s v done e).put (some 18) (.tu [.d (.int .i64) e.1,.d (.int .u64) e.2])).put (some 19) (.d (.int .i64) e.1)).put (some 5) (.d (.int .i64) e.1)
def setE (s:Int×SetL) (v:Value) (done:SetL):St:=((setI s v done).put (some 16) (.tu [mkB false])).put (some 17) (mkB false)
def setA (s:Int×SetL):St:=⟨mkTm 56 [(0,.pt 1 0 0)],[(1,0,.box 36 [.d (.int .i64) s.1,.mp 1026 0] (some 0)),(1026,0,.map (.int .i64) (.int .u64) s.2)]⟩
def setC (s:Int×SetL):St:=⟨mkTm 56 [(0,.pt 1 0 0),(3,.nil),(4,.nil)],[(1,0,.box 36 [.d (.int .i64) s.1,.mp 1026 0] (some 0)),(1026,0,.map (.int .i64) (.int .u64) s.2)]⟩
def setM (s:Int×SetL):St:=((((setC s).put (some 11) (.pt 1 0 0)).put (some 12) (.pt 1 0 0)).put (some 13) (.pt 1 0 1)).put (some 14) (.mp 1026 0)
theorem Ziy:setListX.OK:=⟨by kernel_rfl,by kernel_rfl,by kernel_rfl,by kernel_rfl,by kernel_rfl,by kernel_rfl,by kernel_rfl,by kernel_rfl,by kernel_rfl⟩
theorem Zg6 (s:Int×SetL) (v:Value) (done:SetL) (e:El (.int .i64)×El (.int .u64)) (L:Lt) (k:Kt) (x:Nat→Kt) (r:Kt):
  evC Go.Proofs.Try.prog (clOf []) [] L setListX.cr 0 (fun t=>k (norm Go.Proofs.Try.prog setLab2 t)) x r (setU s v done e)=bif Nat.ble (((done.map Prod.fst).length+1)*8) limit then k (setK s v (done.map Prod.fst++[e.1])) else none:=by kernel_rfl
theorem Zjl (s:Int×SetL) (hk:Zf s=true):RangeEv Go.Proofs.Try.prog (clOf []) setListX s.2 setLab2 1026 1000 (setI s) (setE s) (setT s) (setU s) where
 it:=fun v done=>by kernel_rfl
 r1:=fun v done e k=>by kernel_rfl
 rt:=fun v done e=>by kernel_rfl
 re:=fun v done e=>by kernel_rfl
 r2:=fun v done e k=>by kernel_rfl
 r3:=fun v done e rest hp L k x r=>by
  have hl:=hp.length_eq
  simp only[List.length_append,List.length_cons] at hl
  have hlim:s.2.length*512≤limit:=Nat.le_of_ble_eq_true hk
  rw[Zg6,List.length_map,Nat.ble_eq_true_of_le (by omega),cond_true]
  unfold setI
  rw[List.map_append]
  rfl
 f1:=fun v done k=>by kernel_rfl
 ft:=fun v done=>by kernel_rfl
theorem Zh2:setListBody=.seq (fstC setListBody) (.seq (fstC (sndC setListBody)) (.seq (fstC (sndC (sndC setListBody))) (.seq (.seq (.region (ridC (fstC setListR)) (ropsC (fstC setListR)) false) setListX.code) (.seq (.region (ridC setListSort) (ropsC setListSort) false) Zbq)))):=by kernel_rfl
theorem Zkd (s:Int×SetL) (L:Lt) (k:Kt) (x:Nat→Kt) (r:Kt):evC Go.Proofs.Try.prog (clOf []) [] L (fstC setListBody) 0 (fun t=>k (norm Go.Proofs.Try.prog setLab1 t)) x r (setA s)=k (setA s):=by kernel_rfl
theorem ZjO (s:Int×SetL) (L:Lt) (k:Kt) (x:Nat→Kt) (r:Kt):evC Go.Proofs.Try.prog (clOf []) [] L (fstC (sndC setListBody)) 0 (fun t=>k (norm Go.Proofs.Try.prog setLab1 t)) x r (setA s)=k (setA s):=by kernel_rfl
theorem Zkp (s:Int×SetL) (L:Lt) (k:Kt) (x:Nat→Kt) (r:Kt):evC Go.Proofs.Try.prog (clOf []) [] L (fstC (sndC (sndC setListBody))) 0 (fun t=>k (norm Go.Proofs.Try.prog setLab1 t)) x r (setA s)=k (setC s):=by kernel_rfl
def mapKV (P:Program) (T:TypeId):TypeId×TypeId:=match P.underlying T with | some (.map K V)=>(K,V) | _=>(0,0)
theorem ZdJ (s:Int×SetL) (hk:Zf s=true):CallOK Go.Proofs.Try.prog 9 (toPs Zc3 (s,())) (Zdm (Za s)):=by
 obtain ⟨hcl,hdet⟩:=Zdc (P:=Go.Proofs.Try.prog) Zaf
 have hlim:s.2.length*512≤limit:=Nat.le_of_ble_eq_true hk
 refine Zfw (tb:=Zx) (fn:=Go.Proofs.Try.f9) (c:=setListBody) (vs:=[.pt 1 0 0]) (st:=⟨[],[(1,0,.box 36 [.d (.int .i64) s.1,.mp 1026 0] (some 0)),(1026,0,.map (.int .i64) (.int .u64) s.2)]⟩) (by kernel_rfl) (by kernel_rfl) (by kernel_rfl) ?_
 intro _ Mod F0 w0 a w hr
 have hr:Rel Mod F0 w0 (setA s) a w:=hr
 rw[Zh2]
 refine wp_seq (piece hcl hdet (norm Go.Proofs.Try.prog setLab1) (fun h=>ZbB h) (Zkd s) hr fun a w hr=>?_)
 refine wp_seq (piece hcl hdet (norm Go.Proofs.Try.prog setLab1) (fun h=>ZbB h) (ZjO s) hr fun a w hr=>?_)
 refine wp_seq (piece hcl hdet (norm Go.Proofs.Try.prog setLab1) (fun h=>ZbB h) (Zkp s) hr fun a w hr=>?_)
 refine wp_seq (wp_seq (wp_region ?_))
 rw[show List.range (ropsC (fstC setListR)).size=[0,1,2,3,4] from by kernel_rfl]
 refine evOp hcl (o:=opC (fstC setListR) 0) (st1:=(setC s).put (some 11) (.pt 1 0 0)) (by kernel_rfl) (by kernel_rfl) (fun k=>by kernel_rfl) hr fun a w hr=>?_
 refine evOp hcl (o:=opC (fstC setListR) 1) (st1:=((setC s).put (some 11) (.pt 1 0 0)).put (some 12) (.pt 1 0 0)) (by kernel_rfl) (by kernel_rfl) (fun k=>by kernel_rfl) hr fun a w hr=>?_
 refine evOp hcl (o:=opC (fstC setListR) 2) (st1:=(((setC s).put (some 11) (.pt 1 0 0)).put (some 12) (.pt 1 0 0)).put (some 13) (.pt 1 0 1)) (by kernel_rfl) (by kernel_rfl) (fun k=>by kernel_rfl) hr fun a w hr=>?_
 refine evOp hcl (o:=opC (fstC setListR) 3) (st1:=setM s) (by kernel_rfl) (by kernel_rfl) (fun k=>by kernel_rfl) hr fun a w hr=>?_
 refine handOp (o:=opC (fstC setListR) 4) (by kernel_rfl) (by kernel_rfl) ?_
 refine rangeLoop (tm:=14) (idm0:=1026) (ver0:=0) (T:=(match (opC (fstC setListR) 4).op with |.range T _=>T | _=>0)) (K:=(mapKV Go.Proofs.Try.prog (match (opC (fstC setListR) 4).op with |.range T _=>T | _=>0)).1) (V:=(mapKV Go.Proofs.Try.prog (match (opC (fstC setListR) 4).op with |.range T _=>T | _=>0)).2)
  hcl hdet Ziy rfl rfl (Zjl s hk) (by kernel_rfl) (by kernel_rfl) (by kernel_rfl) (by kernel_rfl) (by kernel_rfl) (by kernel_rfl) (fun v=>by kernel_rfl) (fun v done=>by kernel_rfl) (fun v done=>by kernel_rfl) hr ?_
 intro v done a w hperm hr
 have hr:Rel Mod F0 w0 (Zaq s (done.map Prod.fst)) a w:=ZbB (P:=Go.Proofs.Try.prog) (lab:=setLab1) hr
 refine wp_seq (wp_region ?_)
 rw[show List.range (ropsC setListSort).size=[0,1] from by kernel_rfl]
 refine evOp hcl (o:=opC setListSort 0) (st1:=(Zaq s (done.map Prod.fst)).put (some 24) (.own 4 0 none)) (by kernel_rfl) (by kernel_rfl) (fun k=>by kernel_rfl) hr fun a w hr=>?_
 refine handOp (o:=opC setListSort 1) (by kernel_rfl) (by kernel_rfl) ?_
 refine sortStep (ts:=24) (id:=4) (ver:=0) (E:=3) (l:=done.map Prod.fst) (c:=(match (opC setListSort 1).op with |.call c=>c | _=>default)) (fn:=Go.Proofs.Try.f14) (body:=Go.Proofs.Try.f14.body.getD .skip) (by kernel_rfl) (by kernel_rfl) (by kernel_rfl) (by kernel_rfl) (by kernel_rfl) (by kernel_rfl) (by kernel_rfl) (by kernel_rfl) sortOK (by
  rw[List.length_map,hperm.length_eq]
  unfold limit at hlim
  omega) hr fun a w hr=>?_
 have hr:Rel Mod F0 w0 (Zaq s (sorted (done.map Prod.fst))) a w:=ZbB (P:=Go.Proofs.Try.prog) (lab:=setLab1) hr
 rw[Zix (hperm.map Prod.fst)] at hr
 have hg:=Zff s (sorted (s.2.map Prod.fst)) (by rw[List.length_mergeSort,List.length_map];exact hk)
 exact tailStep hcl hdet (ps:=Zcl s (sorted (s.2.map Prod.fst))) rfl (by kernel_rfl) (ZeX s _) (Zei s _) hg hr
end
noncomputable def ZaE:Run:=entO Zc3 Zdm (fun a=>Zf a.1) (fun a=>Za a.1) Zcm
theorem ZaT:EntOK Go.Proofs.Try.prog 9 ZaE:=Zh6 Zd8 fun a h=>ZdJ a.1 h
end Go.Ev
end

section
open Go Go.Ev
namespace Go.Ev
noncomputable section
def Zbl:PSig:=[.nilp,.obj 36 [(.d (.int .i64)),(.m (.int .i64) (.int .u64))]]
noncomputable def ZbN:Tbl:=[(9,ZaE),(6,Zan)]
theorem Ze2:∀p∈ZbN,EntOK Go.Proofs.Try.prog p.1 p.2:=Zp ZaT (Zp ZaD (Zaf))
noncomputable def Zak:Code:=Go.Proofs.Try.f7.body.getD .skip
def Zbn:Tb:=[(4,⟨[0,1,5,9,10,11],[]⟩)]
inductive Zah where | l4 (more:Bool) (h:Int)
def Zal (s:Unit) (o:Int×List (Int×Int)):Zah→JT Zah (Bool×Int×List (Int×Int)) |.l4 more h=>.br (decide (h < (Int.ofNat (List.length (Za o).1)))) (.br ((decide ((0:Int)≤h))&&(decide (h < (Int.ofNat (List.length (Za o).1))))) (.br (ZZ () (List.getD (Za o).1 (Int.toNat h) (dflt (.int .i64)))) (.br (Z7 () (List.getD (Za o).1 (Int.toNat h) (dflt (.int .i64)))) (.jmp (.l4 true (IntKind.i64.wrap (h+(1:Int))))) (.jmp (.l4 more (IntKind.i64.wrap (h+(1:Int)))))) (.no)) (.no)) (.leaf (more,(Za o).2))
def Zbo (s:Unit) (o:Int×List (Int×Int)):JT Zah (Bool×Int×List (Int×Int)):=.br (Zf o) (.jmp (.l4 false (0:Int))) (.no)
def ZaS:Bool×Int×List (Int×Int)→Ans:=fun (r:Bool×Int×List (Int×Int))=>(.d .bool r.1,[.top,.bx 36 [.d (.int .i64) r.2.1,.mv (.int .i64) (.int .u64) r.2.2]])
def ZF (s:Unit) (o:Int×List (Int×Int)):Zah→Nat×St |.l4 more h=>(4,⟨mkTm 20 [(0,.cst (.pointer none)),(1,.pt 2 0 0),(5,.d .bool more),(9,.own 10 0 none),(10,.d (.int .i64) (Int.ofNat (List.length (Za o).1))),(11,.d (.int .i64) h)],[(2,0,.box 36 [.d (.int .i64) (Za o).2.1,.mp 2050 0] (some 1)),(10,0,.row 3 (.int .i64) (Za o).1 false),(2050,0,.map (.int .i64) (.int .u64) (Za o).2.2)]⟩)
theorem Ze6 (s:Unit) (o:Int×List (Int×Int)) (L:Lt):entryA Go.Proofs.Try.prog (clOf ZbN) Zbn Go.Proofs.Try.f7 Zak L (toPs Zbl (s,o,()))=(Zbo s o).run (fun v=>some (ZaS v)) fun j=>L (ZF s o j).1 (ZF s o j).2:=by kernel_rfl
theorem Zfc (s:Unit) (o:Int×List (Int×Int)):∀(L:Lt) (j:Zah),procOf (procsF Go.Proofs.Try.prog (clOf ZbN) Zbn Go.Proofs.Try.f7 Zak (toPs Zbl (s,o,()))) (ZF s o j).1 L (ZF s o j).2=(Zal s o j).run (fun v=>some (ZaS v)) fun j=>L (ZF s o j).1 (ZF s o j).2 | L,.l4 more h=>by kernel_rfl
end
end Go.Ev
end

section
namespace Go.Ev
open Go
def listFrom:Nat→List Bool→List Int
 | _,[]=>[]
 | k,b :: r=>if b then (k:Int) :: listFrom (k+1) r else listFrom (k+1) r
theorem Zcq:∀ {l:List Bool} {k:Nat} {x:Int},x∈listFrom k l↔∃i,l[i]? =some true∧x=((k+i:Nat):Int)
 | [],k,x=>by simp[listFrom]
 | b :: r,k,x=>by
  have ih:= @Zcq r (k+1) x
  unfold listFrom
  constructor
  ·intro h
   cases b with
   | true=>
    rw[if_pos rfl] at h
    rcases List.mem_cons.1 h with rfl | h
    ·exact ⟨0,rfl,by simp⟩
    ·obtain ⟨i,h1,h2⟩:=ih.1 h
     exact ⟨i+1,by simpa using h1,by rw[h2];omega⟩
   | false=>
    rw[if_neg (by decide)] at h
    obtain ⟨i,h1,h2⟩:=ih.1 h
    exact ⟨i+1,by simpa using h1,by rw[h2];omega⟩
  ·rintro ⟨i,h1,h2⟩
   cases i with
   | zero=>
    have hb:b=true:=by simpa using h1
    subst hb
    rw[if_pos rfl,h2]
    exact List.mem_cons_self ..
   | succ i=>
    have:=ih.2 ⟨i,by simpa using h1,by rw[h2];omega⟩
    split
    ·exact List.mem_cons_of_mem _ this
    ·exact this
end Go.Ev
end

section
open Go
namespace Go.Ev
def ZbK (s:Unit) (o:Int×List (Int×Int)):Bool×Int×List (Int×Int):=(false,o)
def Zc5 (s:Unit) (o:Int×List (Int×Int)):Bool:=Zf o
theorem Zlj (i:Int):ZZ () i=true∧Z7 () i=false:=by
 unfold ZZ Z7
 by_cases h:i < 0
 ·rw[decide_eq_true h];exact ⟨rfl,rfl⟩
 ·rw[decide_eq_false h,decide_eq_true (show i≥0 by omega)];exact ⟨rfl,rfl⟩
theorem ZfN (s:Unit) (o:Int×List (Int×Int)) (hk:Zc5 s o=true):Goes (Zal s o) (Zbo s o) (ZbK s o):=by
 have hlim:o.2.length*512≤limit:=Nat.le_of_ble_eq_true hk
 have hk:Zf o=true:=hk
 have hl:(listS o).length < 4611686018427387904:=by
  have:=ZcS o.2 ((o.2.map Prod.fst).mergeSort fun x y=>decide (x≤y))
  rw[List.length_mergeSort,List.length_map] at this
  unfold limit at hlim
  show (listAt _ _).length < _
  omega
 have hv:Za o=(listS o,o):=rfl
 unfold Zbo ZbK
 rw[Ze,if_pos hk]
 generalize hL:listS o=L at hv hl
 have loop:∀h,h≤L.length→Goes (Zal s o) (.jmp (.l4 false (h:Int))) (false,o):=by
  refine down ?_ fun h hh ih=>?_
  ·rw[Zz,Zal,hv,Ze,if_neg (by rw[Zbu (Nat.lt_irrefl _)];decide)]
   exact .leaf
  ·obtain ⟨p1,p2⟩:=Zlj (List.getD L h (dflt (.int .i64)))
   rw[Zz,Zal,hv,Ze,if_pos (ZeD hh),Ze,if_pos (ZaG hh),Ze,Int.toNat_natCast,if_pos p1,Ze,p2,if_neg (by decide),ZaO (by omega)]
   exact ih
 exact loop 0 (Nat.zero_le _)
end Go.Ev
end

section
open Go Go.Ev
namespace Go.Ev
noncomputable section
noncomputable def Zc6:Run:=entO Zbl ZaS (fun a=>Zc5 a.1 a.2.1) (fun a=>ZbK a.1 a.2.1)
theorem Zfm:EntOK Go.Proofs.Try.prog 7 Zc6:=ZcW (tb:=Zbn) (c:=Zak) (ZeV (ZeW (fn:=Go.Proofs.Try.f7) (c:=Zak) (by kernel_rfl) (by kernel_rfl) (by kernel_rfl))) Ze2 (by kernel_rfl) (by kernel_rfl) (fun a=>by kernel_rfl) fun ⟨s,o,_⟩ hk=>ZY (c:=Zak) (K:=ZaS) (S:=ZF s o) (by kernel_rfl) (Ze6 s o) (Zfc s o) (ZfN s o hk)
end
end Go.Ev
end

section
open Go Go.Ev
namespace Go.Ev
noncomputable section
def Zbr:PSig:=[.obj 36 [(.d (.int .i64)),(.m (.int .i64) (.int .u64))],.nilp]
noncomputable def ZbH:Tbl:=[(9,ZaE),(6,Zan)]
theorem Zfq:∀p∈ZbH,EntOK Go.Proofs.Try.prog p.1 p.2:=Zp ZaT (Zp ZaD (Zaf))
noncomputable def ZaR:Code:=Go.Proofs.Try.f7.body.getD .skip
def Zbt:Tb:=[(4,⟨[0,5,9,10,11],[]⟩)]
inductive Zai where | l4
def ZbJ (s:Int×List (Int×Int)) (o:Unit):Zai→JT Zai (Bool×Int×List (Int×Int)) |.l4=>.leaf (false,s)
def ZcE (s:Int×List (Int×Int)) (o:Unit):JT Zai (Bool×Int×List (Int×Int)):=.jmp (.l4)
def Zb0 (s:Int×List (Int×Int)) (o:Unit):Bool×Int×List (Int×Int):=(false,s)
theorem Zea (s:Int×List (Int×Int)) (o:Unit):Goes (ZbJ s o) (.jmp (.l4)) (Zb0 s o):=Goes.jmp (Goes.leaf)
def Zs (s:Int×List (Int×Int)) (o:Unit):Bool×Int×List (Int×Int):=Zb0 s o
theorem ZfH (s:Int×List (Int×Int)) (o:Unit):Goes (ZbJ s o) (ZcE s o) (Zs s o):=Zea s o
def ZaQ:Bool×Int×List (Int×Int)→Ans:=fun (r:Bool×Int×List (Int×Int))=>(.d .bool r.1,[.bx 36 [.d (.int .i64) r.2.1,.mv (.int .i64) (.int .u64) r.2.2],.top])
def ZE (s:Int×List (Int×Int)) (o:Unit):Zai→Nat×St |.l4=>(4,⟨mkTm 20 [(0,.pt 1 0 0),(5,.d .bool false),(9,.nil),(10,.d (.int .i64) (0:Int)),(11,.d (.int .i64) (0:Int))],[(1,0,.box 36 [.d (.int .i64) s.1,.mp 1026 0] (some 0)),(1026,0,.map (.int .i64) (.int .u64) s.2)]⟩)
theorem Zfb (s:Int×List (Int×Int)) (o:Unit) (L:Lt):entryA Go.Proofs.Try.prog (clOf ZbH) Zbt Go.Proofs.Try.f7 ZaR L (toPs Zbr (s,o,()))=(ZcE s o).run (fun v=>some (ZaQ v)) fun j=>L (ZE s o j).1 (ZE s o j).2:=by kernel_rfl
theorem Ze8 (s:Int×List (Int×Int)) (o:Unit):∀(L:Lt) (j:Zai),procOf (procsF Go.Proofs.Try.prog (clOf ZbH) Zbt Go.Proofs.Try.f7 ZaR (toPs Zbr (s,o,()))) (ZE s o j).1 L (ZE s o j).2=(ZbJ s o j).run (fun v=>some (ZaQ v)) fun j=>L (ZE s o j).1 (ZE s o j).2 | L,.l4=>by kernel_rfl
noncomputable def Zc4:Run:=entO Zbr ZaQ (fun a=>true) (fun a=>Zs a.1 a.2.1) Zc6
theorem Zfe:EntOK Go.Proofs.Try.prog 7 Zc4:=ZcW (tb:=Zbt) (c:=ZaR) Zfm Zfq (by kernel_rfl) (by kernel_rfl) (fun a=>by kernel_rfl) fun ⟨s,o,_⟩ hk=>ZY (c:=ZaR) (K:=ZaQ) (S:=ZE s o) (by kernel_rfl) (Zfb s o) (Ze8 s o) (ZfH s o)
end
end Go.Ev
end

section
open Go Go.Ev
namespace Go.Ev
noncomputable section
def Zcs:PSig:=[.obj 36 [(.d (.int .i64)),(.m (.int .i64) (.int .u64))],.obj 36 [(.d (.int .i64)),(.m (.int .i64) (.int .u64))]]
noncomputable def Zbb:Tbl:=[(9,ZaE),(6,Zan)]
theorem ZdU:∀p∈Zbb,EntOK Go.Proofs.Try.prog p.1 p.2:=Zp ZaT (Zp ZaD (Zaf))
noncomputable def Zag:Code:=Go.Proofs.Try.f7.body.getD .skip
def ZI:Tb:=[(4,⟨[0,1,5,9,10,11],[]⟩)]
inductive ZD where | l4 (more:Bool) (h:Int) (s1:Int) (s2:List (Int×Int))
def Zbd (s:Int×List (Int×Int)) (o:Int×List (Int×Int)):ZD→JT ZD (Bool×(Int×List (Int×Int))×Int×List (Int×Int)) |.l4 more h s1 s2=>.br (decide (h < (Int.ofNat (List.length (Za o).1)))) (.br ((decide ((0:Int)≤h))&&(decide (h < (Int.ofNat (List.length (Za o).1))))) (.br (Zb (s1,s2) (List.getD (Za o).1 (Int.toNat h) (dflt (.int .i64)))).1 (.jmp (.l4 true (IntKind.i64.wrap (h+(1:Int))) (Zb (s1,s2) (List.getD (Za o).1 (Int.toNat h) (dflt (.int .i64)))).2.1 (Zb (s1,s2) (List.getD (Za o).1 (Int.toNat h) (dflt (.int .i64)))).2.2)) (.jmp (.l4 more (IntKind.i64.wrap (h+(1:Int))) (Zb (s1,s2) (List.getD (Za o).1 (Int.toNat h) (dflt (.int .i64)))).2.1 (Zb (s1,s2) (List.getD (Za o).1 (Int.toNat h) (dflt (.int .i64)))).2.2))) (.no)) (.leaf (more,((s1,s2),(Za o).2)))
def Zcy (s:Int×List (Int×Int)) (o:Int×List (Int×Int)):JT ZD (Bool×(Int×List (Int×Int))×Int×List (Int×Int)):=.br (Zf o) (.jmp (.l4 false (0:Int) s.1 s.2)) (.no)
def ZbT:Bool×(Int×List (Int×Int))×Int×List (Int×Int)→Ans:=fun (r:Bool×(Int×List (Int×Int))×Int×List (Int×Int))=>(.d .bool r.1,[.bx 36 [.d (.int .i64) r.2.1.1,.mv (.int .i64) (.int .u64) r.2.1.2],.bx 36 [.d (.int .i64) r.2.2.1,.mv (.int .i64) (.int .u64) r.2.2.2]])
def Zad (s:Int×List (Int×Int)) (o:Int×List (Int×Int)):ZD→Nat×St |.l4 more h s1 s2=>(4,⟨mkTm 20 [(0,.pt 1 0 0),(1,.pt 2 0 0),(5,.d .bool more),(9,.own 10 0 none),(10,.d (.int .i64) (Int.ofNat (List.length (Za o).1))),(11,.d (.int .i64) h)],[(1,0,.box 36 [.d (.int .i64) s1,.mp 1026 0] (some 0)),(2,0,.box 36 [.d (.int .i64) (Za o).2.1,.mp 2050 0] (some 1)),(10,0,.row 3 (.int .i64) (Za o).1 false),(1026,0,.map (.int .i64) (.int .u64) s2),(2050,0,.map (.int .i64) (.int .u64) (Za o).2.2)]⟩)
theorem Zgz (s:Int×List (Int×Int)) (o:Int×List (Int×Int)) (L:Lt):entryA Go.Proofs.Try.prog (clOf Zbb) ZI Go.Proofs.Try.f7 Zag L (toPs Zcs (s,o,()))=(Zcy s o).run (fun v=>some (ZbT v)) fun j=>L (Zad s o j).1 (Zad s o j).2:=by kernel_rfl
theorem ZgA (s:Int×List (Int×Int)) (o:Int×List (Int×Int)):∀(L:Lt) (j:ZD),procOf (procsF Go.Proofs.Try.prog (clOf Zbb) ZI Go.Proofs.Try.f7 Zag (toPs Zcs (s,o,()))) (Zad s o j).1 L (Zad s o j).2=(Zbd s o j).run (fun v=>some (ZbT v)) fun j=>L (Zad s o j).1 (Zad s o j).2 | L,.l4 more h s1 s2=>by kernel_rfl
end
end Go.Ev
end

section
open Go
namespace Go.Ev
def putAll:Bool→Int×List (Int×Int)→List Int→Bool×Int×List (Int×Int)
 | more,s,[]=>(more,s)
 | more,s,i :: r=>putAll (more || (putS s i).1) (putS s i).2 r
def Zd (s o:Int×List (Int×Int)):Bool×(Int×List (Int×Int))×Int×List (Int×Int):=((putAll false s (listS o)).1,(putAll false s (listS o)).2,o)
def Zaa (s o:Int×List (Int×Int)):Bool:=Zf o
theorem Zgg {o:Int×List (Int×Int)} (hk:Zf o=true):(listS o).length < 4611686018427387904:=by
 have hlim:o.2.length*512≤limit:=Nat.le_of_ble_eq_true hk
 have:=ZcS o.2 ((o.2.map Prod.fst).mergeSort fun x y=>decide (x≤y))
 rw[List.length_mergeSort,List.length_map] at this
 unfold limit at hlim
 show (listAt _ _).length < _
 omega
theorem Zhe (s o:Int×List (Int×Int)) (hk:Zaa s o=true):Goes (Zbd s o) (Zcy s o) (Zd s o):=by
 have hl:=Zgg hk
 have hk:Zf o=true:=hk
 have hv:Za o=(listS o,o):=rfl
 unfold Zcy Zd
 rw[Ze,if_pos hk]
 generalize hL:listS o=L at hv hl
 have loop:∀h,h≤L.length→∀(more:Bool) (s1:Int×List (Int×Int)),Goes (Zbd s o) (.jmp (.l4 more (h:Int) s1.1 s1.2)) ((putAll more s1 (L.drop h)).1,(putAll more s1 (L.drop h)).2,o):=by
  refine down ?_ fun h hh ih=>?_
  ·intro more s1
   rw[Zz,Zbd,hv,Ze,if_neg (by rw[Zbu (Nat.lt_irrefl _)];decide),List.drop_length]
   exact .leaf
  ·intro more s1
   rw[Zz,Zbd,hv,Ze,if_pos (ZeD hh),Ze,if_pos (ZaG hh),Ze,Int.toNat_natCast,ZcA hh,ZaO (by omega),ZcC hh]
   have hp:Zb (s1.1,s1.2) L[h]=putS s1 L[h]:=rfl
   rw[hp]
   show if (putS s1 L[h]).1=true then _ else _
   unfold putAll
   by_cases hb:(putS s1 L[h]).1=true
   ·rw[if_pos hb,hb,Bool.or_true]
    exact ih true (putS s1 L[h]).2
   ·rw[if_neg hb,Bool.eq_false_iff.2 hb,Bool.or_false]
    exact ih more (putS s1 L[h]).2
 have:=loop 0 (Nat.zero_le _) false s
 rwa[List.drop_zero] at this
end Go.Ev
end

section
open Go Go.Ev
namespace Go.Ev
noncomputable section
abbrev OrL:=List (Int×Int)
def orForm (s:Int×OrL):AV:=.bx 36 [.d (.int .i64) s.1,.mv (.int .i64) (.int .u64) s.2]
def Zy (s:Int×OrL) (_:Unit):Bool×Int×OrL:=putAll false s (listS s)
def ZbZ (s:Int×OrL) (_:Unit):Bool:=Zf s
def Zay (s:Int×OrL):ZD→JT ZD (Bool×Int×OrL)
 |.l4 more h s1 s2=>
  .br (decide (h < (Int.ofNat (List.length (Za s).1))))
   (.br ((decide ((0:Int)≤h))&&(decide (h < (Int.ofNat (List.length (Za s).1)))))
    (.br (Zb (s1,s2) (List.getD (Za s).1 (Int.toNat h) (dflt (.int .i64)))).1
     (.jmp (.l4 true (IntKind.i64.wrap (h+(1:Int))) (Zb (s1,s2) (List.getD (Za s).1 (Int.toNat h) (dflt (.int .i64)))).2.1 (Zb (s1,s2) (List.getD (Za s).1 (Int.toNat h) (dflt (.int .i64)))).2.2))
    (.jmp (.l4 more (IntKind.i64.wrap (h+(1:Int))) (Zb (s1,s2) (List.getD (Za s).1 (Int.toNat h) (dflt (.int .i64)))).2.1 (Zb (s1,s2) (List.getD (Za s).1 (Int.toNat h) (dflt (.int .i64)))).2.2)))
   (.no))
  (.leaf (more,(s1,s2)))
def ZbO (s:Int×OrL):JT ZD (Bool×Int×OrL):=
 .br (Zf s)
  (.jmp (.l4 false (0:Int) (Za s).2.1 (Za s).2.2))
 (.no)
def ZaC:Bool×Int×OrL→Ans:=fun r=>(.d .bool r.1,[.bx 36 [.d (.int .i64) r.2.1,.mv (.int .i64) (.int .u64) r.2.2]])
def ZP (s:Int×OrL):ZD→Nat×St
 |.l4 more h s1 s2=>(4,⟨mkTm 20 [(0,.pt 1 0 0),(1,.pt 1 0 0),(5,.d .bool more),(9,.own 10 0 none),(10,.d (.int .i64) (Int.ofNat (List.length (Za s).1))),(11,.d (.int .i64) h)],[(1,0,.box 36 [.d (.int .i64) s1,.mp 1026 0] (some 0)),(10,0,.row 3 (.int .i64) (Za s).1 false),(1026,0,.map (.int .i64) (.int .u64) s2)]⟩)
def orSt (s:Int×OrL):St:=⟨[],[(1,0,.box 36 [.d (.int .i64) s.1,.mp 1026 0] (some 0)),(1026,0,.map (.int .i64) (.int .u64) s.2)]⟩
def orFin (s:Int×OrL):Kt:=finA Go.Proofs.Try.prog ZI Go.Proofs.Try.f7 [orForm s]
def orPs (s:Int×OrL):List (Nat×(Lt→Kt)):=procs Go.Proofs.Try.prog (clOf Zbb) ZI Zag 0 (fun _=>orFin s) (fun _ _ _=>none) (fun _=>orFin s)
def orS0 (s:Int×OrL):St:= { orSt s with tm:=.pt 1 0 0 :: .pt 1 0 0 :: tops (Go.Proofs.Try.f7.ntmps - 2) }
theorem ZfF (s:Int×OrL) (L:Lt):evC Go.Proofs.Try.prog (clOf Zbb) ZI L Zag 0 (orFin s) (fun _ _=>none) (orFin s) (orS0 s)=(ZbO s).run (fun v=>some (ZaC v)) fun j=>L (ZP s j).1 (ZP s j).2:=by kernel_rfl
theorem ZfE (s:Int×OrL):∀(L:Lt) (j:ZD),procOf (orPs s) (ZP s j).1 L (ZP s j).2=(Zay s j).run (fun v=>some (ZaC v)) fun j=>L (ZP s j).1 (ZP s j).2
 | L,.l4 more h s1 s2=>by kernel_rfl
theorem ZfY (s:Int×OrL) (hk:Zf s=true):Goes (Zay s) (ZbO s) (Zy s ()):=by
 have hl:=Zgg hk
 have hv:Za s=(listS s,s):=rfl
 unfold ZbO Zy
 rw[Ze,if_pos hk,hv]
 generalize hL:listS s=L at hv hl
 have loop:∀h,h≤L.length→∀(more:Bool) (s1:Int×OrL),Goes (Zay s) (.jmp (.l4 more (h:Int) s1.1 s1.2)) (putAll more s1 (L.drop h)):=by
  refine down ?_ fun h hh ih=>?_
  ·intro more s1
   rw[Zz,Zay,hv,Ze,if_neg (by rw[Zbu (Nat.lt_irrefl _)];decide),List.drop_length]
   exact .leaf
  ·intro more s1
   rw[Zz,Zay,hv,Ze,if_pos (ZeD hh),Ze,if_pos (ZaG hh),Ze,Int.toNat_natCast,ZcA hh,ZaO (by omega),ZcC hh]
   have hp:Zb (s1.1,s1.2) L[h]=putS s1 L[h]:=rfl
   rw[hp]
   show if (putS s1 L[h]).1=true then _ else _
   unfold putAll
   by_cases hb:(putS s1 L[h]).1=true
   ·rw[if_pos hb,hb,Bool.or_true]
    exact ih true (putS s1 L[h]).2
   ·rw[if_neg hb,Bool.eq_false_iff.2 hb,Bool.or_false]
    exact ih more (putS s1 L[h]).2
 have:=loop 0 (Nat.zero_le _) false s
 rwa[List.drop_zero] at this
def ZfJ:PSig:=[.obj 36 [(.d (.int .i64)),(.m (.int .i64) (.int .u64))]]
theorem Zd1 (s:Int×OrL) (hk:Zf s=true):CallG Go.Proofs.Try.prog 7 twice [orForm s] (ZaC (Zy s ())):=by
 obtain ⟨hcl,hdet⟩:=Zdc ZdU
 exact Zie (tb:=ZI) (fn:=Go.Proofs.Try.f7) (c:=Zag) (x:=.pt 1 0 0) (st:=orSt s) (by kernel_rfl) (by kernel_rfl) (by kernel_rfl) fun Mod F0 w0 a w hr=>
  tailStep (tb:=ZI) (ps:=orPs s) (fin:=orFin s) (S0:=orS0 s) (K:=ZaC) (S:=ZP s) hcl hdet rfl (by kernel_rfl) (ZfF s) (ZfE s) (ZfY s hk) hr
def Zc9:Run:=sameRun ZfJ ZaC (fun a=>ZbZ a.1 ()) (fun a=>Zy a.1 ()) Zc4
theorem ZfO:EntOK Go.Proofs.Try.prog 7 Zc9:=Zi9 Zfe fun ⟨s,_⟩ hk=>Zd1 s hk
end
end Go.Ev
end

section
open Go Go.Ev
namespace Go.Ev
noncomputable section
noncomputable def Zel:Run:=entO Zcs ZbT (fun a=>Zaa a.1 a.2.1) (fun a=>Zd a.1 a.2.1) Zc9
theorem Zgx:EntOK Go.Proofs.Try.prog 7 Zel:=ZcW (tb:=ZI) (c:=Zag) ZfO ZdU (by kernel_rfl) (by kernel_rfl) (fun a=>by kernel_rfl) fun ⟨s,o,_⟩ hk=>ZY (c:=Zag) (K:=ZbT) (S:=Zad s o) (by kernel_rfl) (Zgz s o) (ZgA s o) (Zhe s o hk)
end
end Go.Ev
end

section
open Go Go.Ev
namespace Go.Ev
noncomputable section
def ZaL:Sig:=[(false,(.sl .bool))]
noncomputable def Zdp:Tbl:=[]
theorem Zg4:∀p∈Zdp,EntOK Go.Proofs.Try.prog p.1 p.2:=Zaf
noncomputable def Zcn:Code:=Go.Proofs.Try.f10.body.getD .skip
def ZcP:Tb:=[(4,⟨[0,3,4],[(4,44)]⟩)]
inductive ZbG where | l4 (i:Int) (out:List Int)
def ZbD (is:List Bool):ZbG→JT ZbG (List Int) |.l4 i out=>.br (decide (i < (Int.ofNat (List.length is)))) (.br ((decide ((0:Int)≤i))&&(decide (i < (Int.ofNat (List.length is))))) (.br (List.getD is (Int.toNat i) (dflt .bool)) (.br (Nat.ble (((List.length out)+1)*8) limit) (.jmp (.l4 (IntKind.i64.wrap (i+(1:Int))) (out++[i]))) (.no)) (.jmp (.l4 (IntKind.i64.wrap (i+(1:Int))) out))) (.no)) (.leaf out)
def ZcY (is:List Bool):JT ZbG (List Int):=.jmp (.l4 (0:Int) [])
def Zch:List Int→AV:=fun (r:List Int)=>.rw 3 (.int .i64) r
def Zaw (is:List Bool):ZbG→Nat×St |.l4 i out=>(4,⟨mkTm 20 [(0,.d (.sl .bool) is),(3,.own 4 0 none),(4,.d (.int .i64) i)],[(4,0,.row 3 (.int .i64) out false)]⟩)
theorem Zhu (is:List Bool) (L:Lt):entryA Go.Proofs.Try.prog (clOf Zdp) ZcP Go.Proofs.Try.f10 Zcn L (toForms ZaL (is,()))=(ZcY is).run (fun v=>some (Zch v,tps (toForms ZaL (is,())))) fun j=>L (Zaw is j).1 (Zaw is j).2:=by kernel_rfl
theorem Zhj (is:List Bool):∀(L:Lt) (j:ZbG),procOf (procsF Go.Proofs.Try.prog (clOf Zdp) ZcP Go.Proofs.Try.f10 Zcn (toForms ZaL (is,()))) (Zaw is j).1 L (Zaw is j).2=(ZbD is j).run (fun v=>some (Zch v,tps (toForms ZaL (is,())))) fun j=>L (Zaw is j).1 (Zaw is j).2 | L,.l4 i out=>by kernel_rfl
end
end Go.Ev
end

section
open Go
namespace Go.Ev
def ZJ (is:List Bool):List Int:=listFrom 0 is
def Za1 (is:List Bool):Bool:=decide (is.length < 1099511627776)
theorem Zih (is:List Bool) (hk:Za1 is=true):Goes (ZbD is) (ZcY is) (ZJ is):=by
 have hn:is.length < 1099511627776:=of_decide_eq_true hk
 have loop:∀k,k≤is.length→∀out:List Int,out.length≤k→Goes (ZbD is) (.jmp (.l4 (k:Int) out)) (out++listFrom k (is.drop k)):=by
  refine down ?_ fun k hk ih=>?_
  ·intro out ho
   rw[Zz]
   simp only[ZbD,Ze,Zbu (Nat.lt_irrefl _),List.drop_length]
   rw[show listFrom is.length []=[] from rfl,List.append_nil]
   exact .leaf
  ·intro out ho
   rw[Zz,ZcC hk]
   have b1:Nat.ble ((out.length+1)*8) limit=true:=Nat.ble_eq_true_of_le (by unfold limit;omega)
   simp only[ZbD,Ze,ZeD hk,nng,Bool.and_self,if_true,Int.toNat_natCast,ZcA hk,ZaO (k:=k) (by omega),b1]
   unfold listFrom
   split
   ·have:=ih (out++[(k:Int)]) (by rw[List.length_append,List.length_singleton];omega)
    rw[List.append_assoc] at this
    exact this
   ·exact ih out (by omega)
 have:=loop 0 (Nat.zero_le _) [] (by simp)
 unfold ZcY ZJ
 simpa using this
end Go.Ev
end

section
open Go Go.Ev
namespace Go.Ev
noncomputable section
noncomputable def Zfv:Run:=entG ZaL Zch (fun a=>Za1 a.1) (fun a=>ZJ a.1)
theorem Zhn:EntOK Go.Proofs.Try.prog 10 Zfv:=ZiM (tb:=ZcP) (c:=Zcn) Zg4 (by kernel_rfl) (by kernel_rfl) (by kernel_rfl) (fun a=>by kernel_rfl) fun ⟨is,_⟩ hk=>ZY (c:=Zcn) (K:=fun v=>(Zch v,tps (toForms ZaL (is,())))) (S:=Zaw is) (by kernel_rfl) (Zhu is) (Zhj is) (Zih is hk)
end
end Go.Ev
end

section
open Go Go.Ev
namespace Go.Ev
noncomputable section
def ZR:Sig:=[(false,(.sl (.int .i64))),(false,(.sl (.int .i64)))]
noncomputable def Zb7:Tbl:=[]
theorem ZfM:∀p∈Zb7,EntOK Go.Proofs.Try.prog p.1 p.2:=Zaf
noncomputable def Za2:Code:=Go.Proofs.Try.f8.body.getD .skip
def ZbM:Tb:=[(6,⟨[0,1,5],[]⟩)]
inductive ZaB where | l6 (i:Int)
def ZaH (a:List Int) (b:List Int):ZaB→JT ZaB (Bool) |.l6 i=>.br (decide (i < (Int.ofNat (List.length a)))) (.br ((decide ((0:Int)≤i))&&(decide (i < (Int.ofNat (List.length a))))) (.br ((decide ((0:Int)≤i))&&(decide (i < (Int.ofNat (List.length b))))) (.br ((List.getD a (Int.toNat i) (dflt (.int .i64))) !=(List.getD b (Int.toNat i) (dflt (.int .i64)))) (.leaf false) (.jmp (.l6 (IntKind.i64.wrap (i+(1:Int)))))) (.no)) (.no)) (.leaf true)
def ZbL (a:List Int) (b:List Int):JT ZaB (Bool):=.br ((Int.ofNat (List.length a)) !=(Int.ofNat (List.length b))) (.leaf false) (.jmp (.l6 (0:Int)))
def Zbc:Bool→AV:=fun (r:Bool)=>.d .bool r
def ZM (a:List Int) (b:List Int):ZaB→Nat×St |.l6 i=>(6,⟨mkTm 26 [(0,.d (.sl (.int .i64)) a),(1,.d (.sl (.int .i64)) b),(5,.d (.int .i64) i)],[]⟩)
theorem ZfD (a:List Int) (b:List Int) (L:Lt):entryA Go.Proofs.Try.prog (clOf Zb7) ZbM Go.Proofs.Try.f8 Za2 L (toForms ZR (a,b,()))=(ZbL a b).run (fun v=>some (Zbc v,tps (toForms ZR (a,b,())))) fun j=>L (ZM a b j).1 (ZM a b j).2:=by kernel_rfl
theorem ZfL (a:List Int) (b:List Int):∀(L:Lt) (j:ZaB),procOf (procsF Go.Proofs.Try.prog (clOf Zb7) ZbM Go.Proofs.Try.f8 Za2 (toForms ZR (a,b,()))) (ZM a b j).1 L (ZM a b j).2=(ZaH a b j).run (fun v=>some (Zbc v,tps (toForms ZR (a,b,())))) fun j=>L (ZM a b j).1 (ZM a b j).2 | L,.l6 i=>by kernel_rfl
end
end Go.Ev
end

section
open Go
namespace Go.Ev
theorem ZjR {a b:Int} :(a==b)=decide (a=b):=by rw[Bool.eq_iff_iff];simp
def ZO (a b:List Int):Bool:=decide (a=b)
def Z3 (a b:List Int):Bool:=decide (a.length < 4611686018427387904)
theorem Zf7 (a b:List Int) (hk:Z3 a b=true):Goes (ZaH a b) (ZbL a b) (ZO a b):=by
 have hn:a.length < 4611686018427387904:=of_decide_eq_true hk
 have loop:a.length=b.length→∀k,k≤a.length→Goes (ZaH a b) (.jmp (.l6 (k:Int))) (decide (a.drop k=b.drop k)):=by
  intro he
  refine down ?_ fun k hk ih=>?_
  ·rw[Zz]
   simp[ZaH,Ze,Zkl,he]
  ·rw[Zz]
   have hkb:k < b.length:=he▸hk
   simp only[ZaH,Ze,ZeD hk,ZeD hkb,nng,Bool.and_self,if_true,Int.toNat_natCast,ZcA hk,ZcA hkb,ZaO (k:=k) (by omega)]
   rw[ZcC hk,ZcC hkb]
   split
   ·rename_i h1
    have h2:(! decide (a[k]=b[k]))=true:=(congrArg Bool.not ZjR).symm.trans h1
    have h3:¬a[k]=b[k]:=by simpa using h2
    rw[decide_eq_false (fun e=>h3 (List.cons.inj e).1)]
    exact .leaf
   ·rename_i h1
    have h2:¬(! decide (a[k]=b[k]))=true:=fun h=>h1 ((congrArg Bool.not ZjR).trans h)
    have h3:a[k]=b[k]:=by simpa using h2
    rw[show decide (a[k] :: List.drop (k+1) a=b[k] :: List.drop (k+1) b)=decide (List.drop (k+1) a=List.drop (k+1) b) from decide_eq_decide.2 ⟨fun e=>(List.cons.inj e).2,fun e=>by rw[h3,e]⟩]
    exact ih
 unfold ZbL ZO
 rw[Ze]
 by_cases h:a.length=b.length
 ·have:=loop h 0 (Nat.zero_le _)
  simpa[h] using this
 ·have:a≠b:=fun e=>h (congrArg _ e)
  rw[if_pos (by simp;omega),decide_eq_false this]
  exact .leaf
end Go.Ev
end

section
open Go Go.Ev
namespace Go.Ev
noncomputable section
noncomputable def Zdg:Run:=entG ZR Zbc (fun a=>Z3 a.1 a.2.1) (fun a=>ZO a.1 a.2.1)
theorem ZfG:EntOK Go.Proofs.Try.prog 8 Zdg:=ZiM (tb:=ZbM) (c:=Za2) ZfM (by kernel_rfl) (by kernel_rfl) (by kernel_rfl) (fun a=>by kernel_rfl) fun ⟨a,b,_⟩ hk=>ZY (c:=Za2) (K:=fun v=>(Zbc v,tps (toForms ZR (a,b,())))) (S:=ZM a b) (by kernel_rfl) (ZfD a b) (ZfL a b) (Zf7 a b hk)
end
end Go.Ev
end

section
open Go Go.Ev
namespace Go.Ev
noncomputable section
def ZC:Sig:=[(false,(.int .u64))]
noncomputable def Za9:Tbl:=[]
theorem Zd5:∀p∈Za9,EntOK Go.Proofs.Try.prog p.1 p.2:=Zaf
noncomputable def Zar:Code:=Go.Proofs.Try.f18.body.getD .skip
def ZaX:Tb:=[]
def Zcg (x:Int):Empty→JT Empty (Int):=fun j=>nomatch j
def Zcd (x:Int):JT Empty (Int):=.leaf (bitAnd IntKind.i64 (IntKind.i64.wrap (IntKind.u64.wrap ((IntKind.u64.wrap ((IntKind.u64.wrap ((bitAnd IntKind.u64 (IntKind.u64.wrap ((Int.fdiv (IntKind.u64.wrap ((bitAnd IntKind.u64 (Int.fdiv (IntKind.u64.wrap ((bitAnd IntKind.u64 (Int.fdiv x (2 ^ (min 1 (IntKind.u64).bits))) (6148914691236517205:Int))+(bitAnd IntKind.u64 x (6148914691236517205:Int)))) (2 ^ (min 2 (IntKind.u64).bits))) (3689348814741910323:Int))+(bitAnd IntKind.u64 (IntKind.u64.wrap ((bitAnd IntKind.u64 (Int.fdiv x (2 ^ (min 1 (IntKind.u64).bits))) (6148914691236517205:Int))+(bitAnd IntKind.u64 x (6148914691236517205:Int)))) (3689348814741910323:Int)))) (2 ^ (min 4 (IntKind.u64).bits)))+(IntKind.u64.wrap ((bitAnd IntKind.u64 (Int.fdiv (IntKind.u64.wrap ((bitAnd IntKind.u64 (Int.fdiv x (2 ^ (min 1 (IntKind.u64).bits))) (6148914691236517205:Int))+(bitAnd IntKind.u64 x (6148914691236517205:Int)))) (2 ^ (min 2 (IntKind.u64).bits))) (3689348814741910323:Int))+(bitAnd IntKind.u64 (IntKind.u64.wrap ((bitAnd IntKind.u64 (Int.fdiv x (2 ^ (min 1 (IntKind.u64).bits))) (6148914691236517205:Int))+(bitAnd IntKind.u64 x (6148914691236517205:Int)))) (3689348814741910323:Int)))))) (1085102592571150095:Int))+(Int.fdiv (bitAnd IntKind.u64 (IntKind.u64.wrap ((Int.fdiv (IntKind.u64.wrap ((bitAnd IntKind.u64 (Int.fdiv (IntKind.u64.wrap ((bitAnd IntKind.u64 (Int.fdiv x (2 ^ (min 1 (IntKind.u64).bits))) (6148914691236517205:Int))+(bitAnd IntKind.u64 x (6148914691236517205:Int)))) (2 ^ (min 2 (IntKind.u64).bits))) (3689348814741910323:Int))+(bitAnd IntKind.u64 (IntKind.u64.wrap ((bitAnd IntKind.u64 (Int.fdiv x (2 ^ (min 1 (IntKind.u64).bits))) (6148914691236517205:Int))+(bitAnd IntKind.u64 x (6148914691236517205:Int)))) (3689348814741910323:Int)))) (2 ^ (min 4 (IntKind.u64).bits)))+(IntKind.u64.wrap ((bitAnd IntKind.u64 (Int.fdiv (IntKind.u64.wrap ((bitAnd IntKind.u64 (Int.fdiv x (2 ^ (min 1 (IntKind.u64).bits))) (6148914691236517205:Int))+(bitAnd IntKind.u64 x (6148914691236517205:Int)))) (2 ^ (min 2 (IntKind.u64).bits))) (3689348814741910323:Int))+(bitAnd IntKind.u64 (IntKind.u64.wrap ((bitAnd IntKind.u64 (Int.fdiv x (2 ^ (min 1 (IntKind.u64).bits))) (6148914691236517205:Int))+(bitAnd IntKind.u64 x (6148914691236517205:Int)))) (3689348814741910323:Int)))))) (1085102592571150095:Int)) (2 ^ (min 8 (IntKind.u64).bits)))))+(Int.fdiv (IntKind.u64.wrap ((bitAnd IntKind.u64 (IntKind.u64.wrap ((Int.fdiv (IntKind.u64.wrap ((bitAnd IntKind.u64 (Int.fdiv (IntKind.u64.wrap ((bitAnd IntKind.u64 (Int.fdiv x (2 ^ (min 1 (IntKind.u64).bits))) (6148914691236517205:Int))+(bitAnd IntKind.u64 x (6148914691236517205:Int)))) (2 ^ (min 2 (IntKind.u64).bits))) (3689348814741910323:Int))+(bitAnd IntKind.u64 (IntKind.u64.wrap ((bitAnd IntKind.u64 (Int.fdiv x (2 ^ (min 1 (IntKind.u64).bits))) (6148914691236517205:Int))+(bitAnd IntKind.u64 x (6148914691236517205:Int)))) (3689348814741910323:Int)))) (2 ^ (min 4 (IntKind.u64).bits)))+(IntKind.u64.wrap ((bitAnd IntKind.u64 (Int.fdiv (IntKind.u64.wrap ((bitAnd IntKind.u64 (Int.fdiv x (2 ^ (min 1 (IntKind.u64).bits))) (6148914691236517205:Int))+(bitAnd IntKind.u64 x (6148914691236517205:Int)))) (2 ^ (min 2 (IntKind.u64).bits))) (3689348814741910323:Int))+(bitAnd IntKind.u64 (IntKind.u64.wrap ((bitAnd IntKind.u64 (Int.fdiv x (2 ^ (min 1 (IntKind.u64).bits))) (6148914691236517205:Int))+(bitAnd IntKind.u64 x (6148914691236517205:Int)))) (3689348814741910323:Int)))))) (1085102592571150095:Int))+(Int.fdiv (bitAnd IntKind.u64 (IntKind.u64.wrap ((Int.fdiv (IntKind.u64.wrap ((bitAnd IntKind.u64 (Int.fdiv (IntKind.u64.wrap ((bitAnd IntKind.u64 (Int.fdiv x (2 ^ (min 1 (IntKind.u64).bits))) (6148914691236517205:Int))+(bitAnd IntKind.u64 x (6148914691236517205:Int)))) (2 ^ (min 2 (IntKind.u64).bits))) (3689348814741910323:Int))+(bitAnd IntKind.u64 (IntKind.u64.wrap ((bitAnd IntKind.u64 (Int.fdiv x (2 ^ (min 1 (IntKind.u64).bits))) (6148914691236517205:Int))+(bitAnd IntKind.u64 x (6148914691236517205:Int)))) (3689348814741910323:Int)))) (2 ^ (min 4 (IntKind.u64).bits)))+(IntKind.u64.wrap ((bitAnd IntKind.u64 (Int.fdiv (IntKind.u64.wrap ((bitAnd IntKind.u64 (Int.fdiv x (2 ^ (min 1 (IntKind.u64).bits))) (6148914691236517205:Int))+(bitAnd IntKind.u64 x (6148914691236517205:Int)))) (2 ^ (min 2 (IntKind.u64).bits))) (3689348814741910323:Int))+(bitAnd IntKind.u64 (IntKind.u64.wrap ((bitAnd IntKind.u64 (Int.fdiv x (2 ^ (min 1 (IntKind.u64).bits))) (6148914691236517205:Int))+(bitAnd IntKind.u64 x (6148914691236517205:Int)))) (3689348814741910323:Int)))))) (1085102592571150095:Int)) (2 ^ (min 8 (IntKind.u64).bits))))) (2 ^ (min 16 (IntKind.u64).bits)))))+(Int.fdiv (IntKind.u64.wrap ((IntKind.u64.wrap ((bitAnd IntKind.u64 (IntKind.u64.wrap ((Int.fdiv (IntKind.u64.wrap ((bitAnd IntKind.u64 (Int.fdiv (IntKind.u64.wrap ((bitAnd IntKind.u64 (Int.fdiv x (2 ^ (min 1 (IntKind.u64).bits))) (6148914691236517205:Int))+(bitAnd IntKind.u64 x (6148914691236517205:Int)))) (2 ^ (min 2 (IntKind.u64).bits))) (3689348814741910323:Int))+(bitAnd IntKind.u64 (IntKind.u64.wrap ((bitAnd IntKind.u64 (Int.fdiv x (2 ^ (min 1 (IntKind.u64).bits))) (6148914691236517205:Int))+(bitAnd IntKind.u64 x (6148914691236517205:Int)))) (3689348814741910323:Int)))) (2 ^ (min 4 (IntKind.u64).bits)))+(IntKind.u64.wrap ((bitAnd IntKind.u64 (Int.fdiv (IntKind.u64.wrap ((bitAnd IntKind.u64 (Int.fdiv x (2 ^ (min 1 (IntKind.u64).bits))) (6148914691236517205:Int))+(bitAnd IntKind.u64 x (6148914691236517205:Int)))) (2 ^ (min 2 (IntKind.u64).bits))) (3689348814741910323:Int))+(bitAnd IntKind.u64 (IntKind.u64.wrap ((bitAnd IntKind.u64 (Int.fdiv x (2 ^ (min 1 (IntKind.u64).bits))) (6148914691236517205:Int))+(bitAnd IntKind.u64 x (6148914691236517205:Int)))) (3689348814741910323:Int)))))) (1085102592571150095:Int))+(Int.fdiv (bitAnd IntKind.u64 (IntKind.u64.wrap ((Int.fdiv (IntKind.u64.wrap ((bitAnd IntKind.u64 (Int.fdiv (IntKind.u64.wrap ((bitAnd IntKind.u64 (Int.fdiv x (2 ^ (min 1 (IntKind.u64).bits))) (6148914691236517205:Int))+(bitAnd IntKind.u64 x (6148914691236517205:Int)))) (2 ^ (min 2 (IntKind.u64).bits))) (3689348814741910323:Int))+(bitAnd IntKind.u64 (IntKind.u64.wrap ((bitAnd IntKind.u64 (Int.fdiv x (2 ^ (min 1 (IntKind.u64).bits))) (6148914691236517205:Int))+(bitAnd IntKind.u64 x (6148914691236517205:Int)))) (3689348814741910323:Int)))) (2 ^ (min 4 (IntKind.u64).bits)))+(IntKind.u64.wrap ((bitAnd IntKind.u64 (Int.fdiv (IntKind.u64.wrap ((bitAnd IntKind.u64 (Int.fdiv x (2 ^ (min 1 (IntKind.u64).bits))) (6148914691236517205:Int))+(bitAnd IntKind.u64 x (6148914691236517205:Int)))) (2 ^ (min 2 (IntKind.u64).bits))) (3689348814741910323:Int))+(bitAnd IntKind.u64 (IntKind.u64.wrap ((bitAnd IntKind.u64 (Int.fdiv x (2 ^ (min 1 (IntKind.u64).bits))) (6148914691236517205:Int))+(bitAnd IntKind.u64 x (6148914691236517205:Int)))) (3689348814741910323:Int)))))) (1085102592571150095:Int)) (2 ^ (min 8 (IntKind.u64).bits)))))+(Int.fdiv (IntKind.u64.wrap ((bitAnd IntKind.u64 (IntKind.u64.wrap ((Int.fdiv (IntKind.u64.wrap ((bitAnd IntKind.u64 (Int.fdiv (IntKind.u64.wrap ((bitAnd IntKind.u64 (Int.fdiv x (2 ^ (min 1 (IntKind.u64).bits))) (6148914691236517205:Int))+(bitAnd IntKind.u64 x (6148914691236517205:Int)))) (2 ^ (min 2 (IntKind.u64).bits))) (3689348814741910323:Int))+(bitAnd IntKind.u64 (IntKind.u64.wrap ((bitAnd IntKind.u64 (Int.fdiv x (2 ^ (min 1 (IntKind.u64).bits))) (6148914691236517205:Int))+(bitAnd IntKind.u64 x (6148914691236517205:Int)))) (3689348814741910323:Int)))) (2 ^ (min 4 (IntKind.u64).bits)))+(IntKind.u64.wrap ((bitAnd IntKind.u64 (Int.fdiv (IntKind.u64.wrap ((bitAnd IntKind.u64 (Int.fdiv x (2 ^ (min 1 (IntKind.u64).bits))) (6148914691236517205:Int))+(bitAnd IntKind.u64 x (6148914691236517205:Int)))) (2 ^ (min 2 (IntKind.u64).bits))) (3689348814741910323:Int))+(bitAnd IntKind.u64 (IntKind.u64.wrap ((bitAnd IntKind.u64 (Int.fdiv x (2 ^ (min 1 (IntKind.u64).bits))) (6148914691236517205:Int))+(bitAnd IntKind.u64 x (6148914691236517205:Int)))) (3689348814741910323:Int)))))) (1085102592571150095:Int))+(Int.fdiv (bitAnd IntKind.u64 (IntKind.u64.wrap ((Int.fdiv (IntKind.u64.wrap ((bitAnd IntKind.u64 (Int.fdiv (IntKind.u64.wrap ((bitAnd IntKind.u64 (Int.fdiv x (2 ^ (min 1 (IntKind.u64).bits))) (6148914691236517205:Int))+(bitAnd IntKind.u64 x (6148914691236517205:Int)))) (2 ^ (min 2 (IntKind.u64).bits))) (3689348814741910323:Int))+(bitAnd IntKind.u64 (IntKind.u64.wrap ((bitAnd IntKind.u64 (Int.fdiv x (2 ^ (min 1 (IntKind.u64).bits))) (6148914691236517205:Int))+(bitAnd IntKind.u64 x (6148914691236517205:Int)))) (3689348814741910323:Int)))) (2 ^ (min 4 (IntKind.u64).bits)))+(IntKind.u64.wrap ((bitAnd IntKind.u64 (Int.fdiv (IntKind.u64.wrap ((bitAnd IntKind.u64 (Int.fdiv x (2 ^ (min 1 (IntKind.u64).bits))) (6148914691236517205:Int))+(bitAnd IntKind.u64 x (6148914691236517205:Int)))) (2 ^ (min 2 (IntKind.u64).bits))) (3689348814741910323:Int))+(bitAnd IntKind.u64 (IntKind.u64.wrap ((bitAnd IntKind.u64 (Int.fdiv x (2 ^ (min 1 (IntKind.u64).bits))) (6148914691236517205:Int))+(bitAnd IntKind.u64 x (6148914691236517205:Int)))) (3689348814741910323:Int)))))) (1085102592571150095:Int)) (2 ^ (min 8 (IntKind.u64).bits))))) (2 ^ (min 16 (IntKind.u64).bits))))) (2 ^ (min 32 (IntKind.u64).bits)))))) (127:Int))
def Zh (x:Int):Int:=(bitAnd IntKind.i64 (IntKind.i64.wrap (IntKind.u64.wrap ((IntKind.u64.wrap ((IntKind.u64.wrap ((bitAnd IntKind.u64 (IntKind.u64.wrap ((Int.fdiv (IntKind.u64.wrap ((bitAnd IntKind.u64 (Int.fdiv (IntKind.u64.wrap ((bitAnd IntKind.u64 (Int.fdiv x (2 ^ (min 1 (IntKind.u64).bits))) (6148914691236517205:Int))+(bitAnd IntKind.u64 x (6148914691236517205:Int)))) (2 ^ (min 2 (IntKind.u64).bits))) (3689348814741910323:Int))+(bitAnd IntKind.u64 (IntKind.u64.wrap ((bitAnd IntKind.u64 (Int.fdiv x (2 ^ (min 1 (IntKind.u64).bits))) (6148914691236517205:Int))+(bitAnd IntKind.u64 x (6148914691236517205:Int)))) (3689348814741910323:Int)))) (2 ^ (min 4 (IntKind.u64).bits)))+(IntKind.u64.wrap ((bitAnd IntKind.u64 (Int.fdiv (IntKind.u64.wrap ((bitAnd IntKind.u64 (Int.fdiv x (2 ^ (min 1 (IntKind.u64).bits))) (6148914691236517205:Int))+(bitAnd IntKind.u64 x (6148914691236517205:Int)))) (2 ^ (min 2 (IntKind.u64).bits))) (3689348814741910323:Int))+(bitAnd IntKind.u64 (IntKind.u64.wrap ((bitAnd IntKind.u64 (Int.fdiv x (2 ^ (min 1 (IntKind.u64).bits))) (6148914691236517205:Int))+(bitAnd IntKind.u64 x (6148914691236517205:Int)))) (3689348814741910323:Int)))))) (1085102592571150095:Int))+(Int.fdiv (bitAnd IntKind.u64 (IntKind.u64.wrap ((Int.fdiv (IntKind.u64.wrap ((bitAnd IntKind.u64 (Int.fdiv (IntKind.u64.wrap ((bitAnd IntKind.u64 (Int.fdiv x (2 ^ (min 1 (IntKind.u64).bits))) (6148914691236517205:Int))+(bitAnd IntKind.u64 x (6148914691236517205:Int)))) (2 ^ (min 2 (IntKind.u64).bits))) (3689348814741910323:Int))+(bitAnd IntKind.u64 (IntKind.u64.wrap ((bitAnd IntKind.u64 (Int.fdiv x (2 ^ (min 1 (IntKind.u64).bits))) (6148914691236517205:Int))+(bitAnd IntKind.u64 x (6148914691236517205:Int)))) (3689348814741910323:Int)))) (2 ^ (min 4 (IntKind.u64).bits)))+(IntKind.u64.wrap ((bitAnd IntKind.u64 (Int.fdiv (IntKind.u64.wrap ((bitAnd IntKind.u64 (Int.fdiv x (2 ^ (min 1 (IntKind.u64).bits))) (6148914691236517205:Int))+(bitAnd IntKind.u64 x (6148914691236517205:Int)))) (2 ^ (min 2 (IntKind.u64).bits))) (3689348814741910323:Int))+(bitAnd IntKind.u64 (IntKind.u64.wrap ((bitAnd IntKind.u64 (Int.fdiv x (2 ^ (min 1 (IntKind.u64).bits))) (6148914691236517205:Int))+(bitAnd IntKind.u64 x (6148914691236517205:Int)))) (3689348814741910323:Int)))))) (1085102592571150095:Int)) (2 ^ (min 8 (IntKind.u64).bits)))))+(Int.fdiv (IntKind.u64.wrap ((bitAnd IntKind.u64 (IntKind.u64.wrap ((Int.fdiv (IntKind.u64.wrap ((bitAnd IntKind.u64 (Int.fdiv (IntKind.u64.wrap ((bitAnd IntKind.u64 (Int.fdiv x (2 ^ (min 1 (IntKind.u64).bits))) (6148914691236517205:Int))+(bitAnd IntKind.u64 x (6148914691236517205:Int)))) (2 ^ (min 2 (IntKind.u64).bits))) (3689348814741910323:Int))+(bitAnd IntKind.u64 (IntKind.u64.wrap ((bitAnd IntKind.u64 (Int.fdiv x (2 ^ (min 1 (IntKind.u64).bits))) (6148914691236517205:Int))+(bitAnd IntKind.u64 x (6148914691236517205:Int)))) (3689348814741910323:Int)))) (2 ^ (min 4 (IntKind.u64).bits)))+(IntKind.u64.wrap ((bitAnd IntKind.u64 (Int.fdiv (IntKind.u64.wrap ((bitAnd IntKind.u64 (Int.fdiv x (2 ^ (min 1 (IntKind.u64).bits))) (6148914691236517205:Int))+(bitAnd IntKind.u64 x (6148914691236517205:Int)))) (2 ^ (min 2 (IntKind.u64).bits))) (3689348814741910323:Int))+(bitAnd IntKind.u64 (IntKind.u64.wrap ((bitAnd IntKind.u64 (Int.fdiv x (2 ^ (min 1 (IntKind.u64).bits))) (6148914691236517205:Int))+(bitAnd IntKind.u64 x (6148914691236517205:Int)))) (3689348814741910323:Int)))))) (1085102592571150095:Int))+(Int.fdiv (bitAnd IntKind.u64 (IntKind.u64.wrap ((Int.fdiv (IntKind.u64.wrap ((bitAnd IntKind.u64 (Int.fdiv (IntKind.u64.wrap ((bitAnd IntKind.u64 (Int.fdiv x (2 ^ (min 1 (IntKind.u64).bits))) (6148914691236517205:Int))+(bitAnd IntKind.u64 x (6148914691236517205:Int)))) (2 ^ (min 2 (IntKind.u64).bits))) (3689348814741910323:Int))+(bitAnd IntKind.u64 (IntKind.u64.wrap ((bitAnd IntKind.u64 (Int.fdiv x (2 ^ (min 1 (IntKind.u64).bits))) (6148914691236517205:Int))+(bitAnd IntKind.u64 x (6148914691236517205:Int)))) (3689348814741910323:Int)))) (2 ^ (min 4 (IntKind.u64).bits)))+(IntKind.u64.wrap ((bitAnd IntKind.u64 (Int.fdiv (IntKind.u64.wrap ((bitAnd IntKind.u64 (Int.fdiv x (2 ^ (min 1 (IntKind.u64).bits))) (6148914691236517205:Int))+(bitAnd IntKind.u64 x (6148914691236517205:Int)))) (2 ^ (min 2 (IntKind.u64).bits))) (3689348814741910323:Int))+(bitAnd IntKind.u64 (IntKind.u64.wrap ((bitAnd IntKind.u64 (Int.fdiv x (2 ^ (min 1 (IntKind.u64).bits))) (6148914691236517205:Int))+(bitAnd IntKind.u64 x (6148914691236517205:Int)))) (3689348814741910323:Int)))))) (1085102592571150095:Int)) (2 ^ (min 8 (IntKind.u64).bits))))) (2 ^ (min 16 (IntKind.u64).bits)))))+(Int.fdiv (IntKind.u64.wrap ((IntKind.u64.wrap ((bitAnd IntKind.u64 (IntKind.u64.wrap ((Int.fdiv (IntKind.u64.wrap ((bitAnd IntKind.u64 (Int.fdiv (IntKind.u64.wrap ((bitAnd IntKind.u64 (Int.fdiv x (2 ^ (min 1 (IntKind.u64).bits))) (6148914691236517205:Int))+(bitAnd IntKind.u64 x (6148914691236517205:Int)))) (2 ^ (min 2 (IntKind.u64).bits))) (3689348814741910323:Int))+(bitAnd IntKind.u64 (IntKind.u64.wrap ((bitAnd IntKind.u64 (Int.fdiv x (2 ^ (min 1 (IntKind.u64).bits))) (6148914691236517205:Int))+(bitAnd IntKind.u64 x (6148914691236517205:Int)))) (3689348814741910323:Int)))) (2 ^ (min 4 (IntKind.u64).bits)))+(IntKind.u64.wrap ((bitAnd IntKind.u64 (Int.fdiv (IntKind.u64.wrap ((bitAnd IntKind.u64 (Int.fdiv x (2 ^ (min 1 (IntKind.u64).bits))) (6148914691236517205:Int))+(bitAnd IntKind.u64 x (6148914691236517205:Int)))) (2 ^ (min 2 (IntKind.u64).bits))) (3689348814741910323:Int))+(bitAnd IntKind.u64 (IntKind.u64.wrap ((bitAnd IntKind.u64 (Int.fdiv x (2 ^ (min 1 (IntKind.u64).bits))) (6148914691236517205:Int))+(bitAnd IntKind.u64 x (6148914691236517205:Int)))) (3689348814741910323:Int)))))) (1085102592571150095:Int))+(Int.fdiv (bitAnd IntKind.u64 (IntKind.u64.wrap ((Int.fdiv (IntKind.u64.wrap ((bitAnd IntKind.u64 (Int.fdiv (IntKind.u64.wrap ((bitAnd IntKind.u64 (Int.fdiv x (2 ^ (min 1 (IntKind.u64).bits))) (6148914691236517205:Int))+(bitAnd IntKind.u64 x (6148914691236517205:Int)))) (2 ^ (min 2 (IntKind.u64).bits))) (3689348814741910323:Int))+(bitAnd IntKind.u64 (IntKind.u64.wrap ((bitAnd IntKind.u64 (Int.fdiv x (2 ^ (min 1 (IntKind.u64).bits))) (6148914691236517205:Int))+(bitAnd IntKind.u64 x (6148914691236517205:Int)))) (3689348814741910323:Int)))) (2 ^ (min 4 (IntKind.u64).bits)))+(IntKind.u64.wrap ((bitAnd IntKind.u64 (Int.fdiv (IntKind.u64.wrap ((bitAnd IntKind.u64 (Int.fdiv x (2 ^ (min 1 (IntKind.u64).bits))) (6148914691236517205:Int))+(bitAnd IntKind.u64 x (6148914691236517205:Int)))) (2 ^ (min 2 (IntKind.u64).bits))) (3689348814741910323:Int))+(bitAnd IntKind.u64 (IntKind.u64.wrap ((bitAnd IntKind.u64 (Int.fdiv x (2 ^ (min 1 (IntKind.u64).bits))) (6148914691236517205:Int))+(bitAnd IntKind.u64 x (6148914691236517205:Int)))) (3689348814741910323:Int)))))) (1085102592571150095:Int)) (2 ^ (min 8 (IntKind.u64).bits)))))+(Int.fdiv (IntKind.u64.wrap ((bitAnd IntKind.u64 (IntKind.u64.wrap ((Int.fdiv (IntKind.u64.wrap ((bitAnd IntKind.u64 (Int.fdiv (IntKind.u64.wrap ((bitAnd IntKind.u64 (Int.fdiv x (2 ^ (min 1 (IntKind.u64).bits))) (6148914691236517205:Int))+(bitAnd IntKind.u64 x (6148914691236517205:Int)))) (2 ^ (min 2 (IntKind.u64).bits))) (3689348814741910323:Int))+(bitAnd IntKind.u64 (IntKind.u64.wrap ((bitAnd IntKind.u64 (Int.fdiv x (2 ^ (min 1 (IntKind.u64).bits))) (6148914691236517205:Int))+(bitAnd IntKind.u64 x (6148914691236517205:Int)))) (3689348814741910323:Int)))) (2 ^ (min 4 (IntKind.u64).bits)))+(IntKind.u64.wrap ((bitAnd IntKind.u64 (Int.fdiv (IntKind.u64.wrap ((bitAnd IntKind.u64 (Int.fdiv x (2 ^ (min 1 (IntKind.u64).bits))) (6148914691236517205:Int))+(bitAnd IntKind.u64 x (6148914691236517205:Int)))) (2 ^ (min 2 (IntKind.u64).bits))) (3689348814741910323:Int))+(bitAnd IntKind.u64 (IntKind.u64.wrap ((bitAnd IntKind.u64 (Int.fdiv x (2 ^ (min 1 (IntKind.u64).bits))) (6148914691236517205:Int))+(bitAnd IntKind.u64 x (6148914691236517205:Int)))) (3689348814741910323:Int)))))) (1085102592571150095:Int))+(Int.fdiv (bitAnd IntKind.u64 (IntKind.u64.wrap ((Int.fdiv (IntKind.u64.wrap ((bitAnd IntKind.u64 (Int.fdiv (IntKind.u64.wrap ((bitAnd IntKind.u64 (Int.fdiv x (2 ^ (min 1 (IntKind.u64).bits))) (6148914691236517205:Int))+(bitAnd IntKind.u64 x (6148914691236517205:Int)))) (2 ^ (min 2 (IntKind.u64).bits))) (3689348814741910323:Int))+(bitAnd IntKind.u64 (IntKind.u64.wrap ((bitAnd IntKind.u64 (Int.fdiv x (2 ^ (min 1 (IntKind.u64).bits))) (6148914691236517205:Int))+(bitAnd IntKind.u64 x (6148914691236517205:Int)))) (3689348814741910323:Int)))) (2 ^ (min 4 (IntKind.u64).bits)))+(IntKind.u64.wrap ((bitAnd IntKind.u64 (Int.fdiv (IntKind.u64.wrap ((bitAnd IntKind.u64 (Int.fdiv x (2 ^ (min 1 (IntKind.u64).bits))) (6148914691236517205:Int))+(bitAnd IntKind.u64 x (6148914691236517205:Int)))) (2 ^ (min 2 (IntKind.u64).bits))) (3689348814741910323:Int))+(bitAnd IntKind.u64 (IntKind.u64.wrap ((bitAnd IntKind.u64 (Int.fdiv x (2 ^ (min 1 (IntKind.u64).bits))) (6148914691236517205:Int))+(bitAnd IntKind.u64 x (6148914691236517205:Int)))) (3689348814741910323:Int)))))) (1085102592571150095:Int)) (2 ^ (min 8 (IntKind.u64).bits))))) (2 ^ (min 16 (IntKind.u64).bits))))) (2 ^ (min 32 (IntKind.u64).bits)))))) (127:Int))
theorem Zek (x:Int):Goes (Zcg x) (Zcd x) (Zh x):=Goes.leaf
def Zap:Int→AV:=fun (r:Int)=>.d (.int .i64) r
def Zw (x:Int):Empty→Nat×St:=fun j=>nomatch j
theorem Zd9 (x:Int) (L:Lt):entryA Go.Proofs.Try.prog (clOf Za9) ZaX Go.Proofs.Try.f18 Zar L (toForms ZC (x,()))=(Zcd x).run (fun v=>some (Zap v,tps (toForms ZC (x,())))) fun j=>L (Zw x j).1 (Zw x j).2:=by kernel_rfl
theorem Zd2 (x:Int):∀(L:Lt) (j:Empty),procOf (procsF Go.Proofs.Try.prog (clOf Za9) ZaX Go.Proofs.Try.f18 Zar (toForms ZC (x,()))) (Zw x j).1 L (Zw x j).2=(Zcg x j).run (fun v=>some (Zap v,tps (toForms ZC (x,())))) fun j=>L (Zw x j).1 (Zw x j).2:=fun L j=>nomatch j
noncomputable def Zbf:Run:=entT ZC Zap (fun a=>Zh a.1)
theorem Zcc:EntOK Go.Proofs.Try.prog 18 Zbf:=ZiI (tb:=ZaX) (c:=Zar) Zd5 (by kernel_rfl) (by kernel_rfl) (by kernel_rfl) (fun a=>by kernel_rfl) fun ⟨x,_⟩=>ZY (c:=Zar) (K:=fun v=>(Zap v,tps (toForms ZC (x,())))) (S:=Zw x) (by kernel_rfl) (Zd9 x) (Zd2 x) (Zek x)
end
end Go.Ev
end

section
open Go Go.Ev
namespace Go.Ev
noncomputable section
def ZaN:PSig:=[.nilp]
noncomputable def ZaY:Tbl:=[(18,Zbf)]
theorem ZdI:∀p∈ZaY,EntOK Go.Proofs.Try.prog p.1 p.2:=Zp Zcc (Zaf)
noncomputable def ZN:Code:=Go.Proofs.Try.f15.body.getD .skip
def ZaM:Tb:=[]
def Zb1 (s:Unit):Empty→JT Empty (Int):=fun j=>nomatch j
def ZbP (s:Unit):JT Empty (Int):=.leaf (0:Int)
def Zca (s:Unit):Int:=(0:Int)
theorem Zd4 (s:Unit):Goes (Zb1 s) (ZbP s) (Zca s):=Goes.leaf
def Z9:Int→Ans:=fun (r:Int)=>(.d (.int .i64) r,[.top])
def Zt (s:Unit):Empty→Nat×St:=fun j=>nomatch j
theorem ZdK (s:Unit) (L:Lt):entryA Go.Proofs.Try.prog (clOf ZaY) ZaM Go.Proofs.Try.f15 ZN L (toPs ZaN (s,()))=(ZbP s).run (fun v=>some (Z9 v)) fun j=>L (Zt s j).1 (Zt s j).2:=by kernel_rfl
theorem ZdL (s:Unit):∀(L:Lt) (j:Empty),procOf (procsF Go.Proofs.Try.prog (clOf ZaY) ZaM Go.Proofs.Try.f15 ZN (toPs ZaN (s,()))) (Zt s j).1 L (Zt s j).2=(Zb1 s j).run (fun v=>some (Z9 v)) fun j=>L (Zt s j).1 (Zt s j).2:=fun L j=>nomatch j
noncomputable def Zb5:Run:=entO ZaN Z9 (fun a=>true) (fun a=>Zca a.1)
theorem ZdM:EntOK Go.Proofs.Try.prog 15 Zb5:=ZcW (tb:=ZaM) (c:=ZN) (ZeV (ZeW (fn:=Go.Proofs.Try.f15) (c:=ZN) (by kernel_rfl) (by kernel_rfl) (by kernel_rfl))) ZdI (by kernel_rfl) (by kernel_rfl) (fun a=>by kernel_rfl) fun ⟨s,_⟩ hk=>ZY (c:=ZN) (K:=Z9) (S:=Zt s) (by kernel_rfl) (ZdK s) (ZdL s) (Zd4 s)
end
end Go.Ev
end

section
open Go Go.Ev
namespace Go.Ev
def ZaK:PSig:=[.obj 36 [(.d (.int .i64)),(.m (.int .i64) (.int .u64))]]
noncomputable def cntF (l:List (Int×Int)):Int:=l.foldl (fun n e=>IntKind.i64.wrap (n+Zh e.2)) 0
noncomputable def ZG (s:Int×List (Int×Int)):Int×Int×List (Int×Int):=(cntF s.2,s)
def ZbI:Int×Int×List (Int×Int)→Ans:=fun r=>(.d (.int .i64) r.1,[.bx 36 [.d (.int .i64) r.2.1,.mv (.int .i64) (.int .u64) r.2.2]])
theorem Zjd {a b:Int} (h:a % 18446744073709551616=b % 18446744073709551616):IntKind.i64.wrap a=IntKind.i64.wrap b:=by
 unfold IntKind.wrap
 simp only[IntKind.signed,IntKind.bits,show (2:Int) ^ 64=18446744073709551616 from by decide,h]
theorem ZjL (a:Int):IntKind.i64.wrap a % 18446744073709551616=a % 18446744073709551616:=by
 unfold IntKind.wrap
 simp only[IntKind.signed,IntKind.bits,show (2:Int) ^ 64=18446744073709551616 from by decide]
 split
 ·rw[Int.sub_emod_right,Int.emod_emod]
 ·rw[Int.emod_emod]
theorem ZkJ (a b:Int):IntKind.i64.wrap (IntKind.i64.wrap a+b)=IntKind.i64.wrap (a+b):=Zjd (by rw[Int.add_emod,ZjL,←Int.add_emod])
theorem ZhD:∀(l:List (Int×Int)) (n:Int),l.foldl (fun n e=>IntKind.i64.wrap (n+Zh e.2)) (IntKind.i64.wrap n)=IntKind.i64.wrap (n+(l.map fun e=>Zh e.2).sum)
 | [],n=>by simp
 | e :: r,n=>by
  rw[List.foldl_cons,ZkJ,ZhD r,List.map_cons,List.sum_cons,Int.add_assoc]
theorem ZiO (l:List (Int×Int)):cntF l=IntKind.i64.wrap ((l.map fun e=>Zh e.2).sum):=by
 have:=ZhD l 0
 rw[show IntKind.i64.wrap 0=0 from by decide,Int.zero_add] at this
 exact this
theorem ZiW {l l':List Int} (h:l.Perm l'):l.sum=l'.sum:=by
 induction h with
 | nil=>rfl
 | cons x _ ih=>rw[List.sum_cons,List.sum_cons,ih]
 | swap x y l=>rw[List.sum_cons,List.sum_cons,List.sum_cons,List.sum_cons];omega
 | trans _ _ ih1 ih2=>exact ih1.trans ih2
theorem ZjT {l l':List (Int×Int)} (h:l.Perm l'):cntF l=cntF l':=by rw[ZiO,ZiO,ZiW (h.map _)]
section
abbrev CntL:=List (El (.int .i64)×El (.int .u64))
noncomputable def cntBody:Code:=Go.Proofs.Try.f15.body.getD .skip
noncomputable def cntR:Code:=fstC (sndC (sndC cntBody))
noncomputable def cntT:Code:=thenC (sndC cntR)
noncomputable def cntX:RangeText:=rangeText (sndC cntT)
noncomputable def cntTail:Code:=sndC (sndC (sndC cntBody))
noncomputable def cntTbl:Tbl:=[(18,Zbf)]
theorem Zkm:∀p∈cntTbl,EntOK Go.Proofs.Try.prog p.1 p.2:=Zp Zcc Zaf
def cntLab0:Lab:=⟨[0],[]⟩
def cntLab1:Lab:=⟨[0,3],[]⟩
def cntLab7:Lab:=⟨[0,3,7],[]⟩
def cntLab2:Lab:=⟨[0,3,12],[]⟩
def cntObs (s:Int×CntL):List (Id×Nat×Obj):=[(1,0,.box 36 [.d (.int .i64) s.1,.mp 1026 0] (some 0)),(1026,0,.map (.int .i64) (.int .u64) s.2)]
def cntA (s:Int×CntL):St:=⟨mkTm 22 [(0,.pt 1 0 0)],cntObs s⟩
def cntB (s:Int×CntL) (n:Int):St:=⟨mkTm 22 [(0,.pt 1 0 0),(3,.d (.int .i64) n)],cntObs s⟩
def cntC (s:Int×CntL):St:=⟨mkTm 22 [(0,.pt 1 0 0),(3,.d (.int .i64) (0:Int)),(7,mkB true)],cntObs s⟩
def cntK (s:Int×CntL) (v:Value) (n:Int):St:=⟨mkTm 22 [(0,.pt 1 0 0),(3,.d (.int .i64) n),(12,.cst v)],[(1,0,.box 36 [.d (.int .i64) s.1,.mp 1026 0] (some 0)),(1026,0,.gone (some 1000))]⟩
noncomputable def cntI (s:Int×CntL) (v:Value) (done:CntL):St:=cntK s v (cntF done)
noncomputable def cntTT (s:Int×CntL) (v:Value) (done:CntL) (e:El (.int .i64)×El (.int .u64)):St:=((cntI s v done).put (some 13) (.tu [mkB true,.d (.int .i64) e.1,.d (.int .u64) e.2])).put (some 14) (mkB true)
noncomputable def cntU (s:Int×CntL) (v:Value) (done:CntL) (e:El (.int .i64)×El (.int .u64)):St:=(((cntTT s v done e).put (some 15) (.tu [.d (.int .i64) e.1,.d (.int .u64) e.2])).put (some 16) (.d (.int .u64) e.2)).put (some 5) (.d (.int .u64) e.2)
noncomputable def cntE (s:Int×CntL) (v:Value) (done:CntL):St:=((cntI s v done).put (some 13) (.tu [mkB false])).put (some 14) (mkB false)
def cntU' (s:Int×CntL) (v:Value) (n:Int) (e:El (.int .i64)×El (.int .u64)):St:=(((((cntK s v n).put (some 13) (.tu [mkB true,.d (.int .i64) e.1,.d (.int .u64) e.2])).put (some 14) (mkB true)).put (some 15) (.tu [.d (.int .i64) e.1,.d (.int .u64) e.2])).put (some 16) (.d (.int .u64) e.2)).put (some 5) (.d (.int .u64) e.2)
def cntM (s:Int×CntL):St:=((((cntC s).put (some 8) (.pt 1 0 0)).put (some 9) (.pt 1 0 0)).put (some 10) (.pt 1 0 1)).put (some 11) (.mp 1026 0)
theorem Zln:cntX.OK:=⟨by kernel_rfl,by kernel_rfl,by kernel_rfl,by kernel_rfl,by kernel_rfl,by kernel_rfl,by kernel_rfl,by kernel_rfl,by kernel_rfl⟩
theorem Zj2 (s:Int×CntL) (v:Value) (n:Int) (e:El (.int .i64)×El (.int .u64)) (L:Lt) (k:Kt) (x:Nat→Kt) (r:Kt):
  evC Go.Proofs.Try.prog (clOf cntTbl) [] L cntX.cr 0 (fun t=>k (norm Go.Proofs.Try.prog cntLab2 t)) x r (cntU' s v n e)=k (cntK s v (IntKind.i64.wrap (n+Zh e.2))):=by kernel_rfl
theorem ZlC (s:Int×CntL):RangeEv Go.Proofs.Try.prog (clOf cntTbl) cntX s.2 cntLab2 1026 1000 (cntI s) (cntE s) (cntTT s) (cntU s) where
 it:=fun v done=>by kernel_rfl
 r1:=fun v done e k=>by kernel_rfl
 rt:=fun v done e=>by kernel_rfl
 re:=fun v done e=>by kernel_rfl
 r2:=fun v done e k=>by kernel_rfl
 r3:=fun v done e rest hp L k x r=>by
  have:=Zj2 s v (cntF done) e L k x r
  refine Eq.trans this ?_
  unfold cntI
  rw[show cntF (done++[e])=IntKind.i64.wrap (cntF done+Zh e.2) from by unfold cntF;rw[List.foldl_append];rfl]
 f1:=fun v done k=>by kernel_rfl
 ft:=fun v done=>by kernel_rfl
theorem Zks:cntBody=.seq (fstC cntBody) (.seq (fstC (sndC cntBody)) (.seq (.seq (fstC cntR) (.cond (.tmp 7) (.seq (.region (ridC (fstC cntT)) (ropsC (fstC cntT)) false) cntX.code) .skip)) cntTail)):=by kernel_rfl
theorem ZlD (s:Int×CntL) (L:Lt) (k:Kt) (x:Nat→Kt) (r:Kt):evC Go.Proofs.Try.prog (clOf cntTbl) [] L (fstC cntBody) 0 (fun t=>k (norm Go.Proofs.Try.prog cntLab0 t)) x r (cntA s)=k (cntA s):=by kernel_rfl
theorem ZlF (s:Int×CntL) (L:Lt) (k:Kt) (x:Nat→Kt) (r:Kt):evC Go.Proofs.Try.prog (clOf cntTbl) [] L (fstC (sndC cntBody)) 0 (fun t=>k (norm Go.Proofs.Try.prog cntLab1 t)) x r (cntA s)=k (cntB s 0):=by kernel_rfl
theorem ZlE (s:Int×CntL) (L:Lt) (k:Kt) (x:Nat→Kt) (r:Kt):evC Go.Proofs.Try.prog (clOf cntTbl) [] L (fstC cntR) 0 (fun t=>k (norm Go.Proofs.Try.prog cntLab7 t)) x r (cntB s 0)=k (cntC s):=by kernel_rfl
def mapKV1 (P:Program) (T:TypeId):TypeId×TypeId:=match P.underlying T with | some (.map K V)=>(K,V) | _=>(0,0)
theorem Zla (s:Int×CntL) (n:Int) (L:Lt):evC Go.Proofs.Try.prog (clOf cntTbl) [] L cntTail 0 (finA Go.Proofs.Try.prog [] Go.Proofs.Try.f15 (toPs ZaK (s,()))) (fun _ _=>none) (finA Go.Proofs.Try.prog [] Go.Proofs.Try.f15 (toPs ZaK (s,()))) (cntB s n)=some (ZbI (n,s)):=by kernel_rfl
theorem Zdn (s:Int×CntL):CallOK Go.Proofs.Try.prog 15 (toPs ZaK (s,())) (ZbI (ZG s)):=by
 obtain ⟨hcl,hdet⟩:=Zdc (P:=Go.Proofs.Try.prog) Zkm
 refine Zfw (tb:=[]) (fn:=Go.Proofs.Try.f15) (c:=cntBody) (vs:=[.pt 1 0 0]) (st:=⟨[],cntObs s⟩) (by kernel_rfl) (by kernel_rfl) (by kernel_rfl) ?_
 intro _ Mod F0 w0 a w hr
 have hr:Rel Mod F0 w0 (cntA s) a w:=hr
 rw[Zks]
 refine wp_seq (piece hcl hdet (norm Go.Proofs.Try.prog cntLab0) (fun h=>ZbB h) (ZlD s) hr fun a w hr=>?_)
 refine wp_seq (piece hcl hdet (norm Go.Proofs.Try.prog cntLab1) (fun h=>ZbB h) (ZlF s) hr fun a w hr=>?_)
 refine wp_seq (wp_seq (piece hcl hdet (norm Go.Proofs.Try.prog cntLab7) (fun h=>ZbB h) (ZlE s) hr fun a w hr=>?_))
 have htrue:a.eval (.tmp 7)=.bool true:=by
  obtain ⟨_,F,ρ,hR,_⟩:=hr
  exact Zat (ZcV hR (by kernel_rfl))
 refine wp_cond_true htrue (wp_seq (wp_region ?_))
 rw[show List.range (ropsC (fstC cntT)).size=[0,1,2,3,4] from by kernel_rfl]
 refine evOp hcl (o:=opC (fstC cntT) 0) (st1:=(cntC s).put (some 8) (.pt 1 0 0)) (by kernel_rfl) (by kernel_rfl) (fun k=>by kernel_rfl) hr fun a w hr=>?_
 refine evOp hcl (o:=opC (fstC cntT) 1) (st1:=((cntC s).put (some 8) (.pt 1 0 0)).put (some 9) (.pt 1 0 0)) (by kernel_rfl) (by kernel_rfl) (fun k=>by kernel_rfl) hr fun a w hr=>?_
 refine evOp hcl (o:=opC (fstC cntT) 2) (st1:=(((cntC s).put (some 8) (.pt 1 0 0)).put (some 9) (.pt 1 0 0)).put (some 10) (.pt 1 0 1)) (by kernel_rfl) (by kernel_rfl) (fun k=>by kernel_rfl) hr fun a w hr=>?_
 refine evOp hcl (o:=opC (fstC cntT) 3) (st1:=cntM s) (by kernel_rfl) (by kernel_rfl) (fun k=>by kernel_rfl) hr fun a w hr=>?_
 refine handOp (o:=opC (fstC cntT) 4) (by kernel_rfl) (by kernel_rfl) ?_
 refine rangeLoop (tm:=11) (idm0:=1026) (ver0:=0) (T:=(match (opC (fstC cntT) 4).op with |.range T _=>T | _=>0)) (K:=(mapKV1 Go.Proofs.Try.prog (match (opC (fstC cntT) 4).op with |.range T _=>T | _=>0)).1) (V:=(mapKV1 Go.Proofs.Try.prog (match (opC (fstC cntT) 4).op with |.range T _=>T | _=>0)).2)
  hcl hdet Zln rfl rfl (ZlC s) (by kernel_rfl) (by kernel_rfl) (by kernel_rfl) (by kernel_rfl) (by kernel_rfl) (by kernel_rfl) (fun v=>by kernel_rfl) (fun v done=>by kernel_rfl) (fun v done=>by kernel_rfl) hr ?_
 intro v done a w hperm hr
 have hr:Rel Mod F0 w0 (cntB s (cntF done)) a w:=ZbB (P:=Go.Proofs.Try.prog) (lab:=cntLab1) hr
 rw[ZjT hperm] at hr
 exact endStep hcl hdet (Zla s (cntF s.2)) hr
end
noncomputable def Zc7:Run:=entO ZaK ZbI (fun a=>true) (fun a=>ZG a.1) Zb5
theorem Zfi:EntOK Go.Proofs.Try.prog 15 Zc7:=Zh6 ZdM fun a h=>Zdn a.1
end Go.Ev
end

section
open Go Go.Ev
namespace Go.Ev
noncomputable section
def Zam:Sig:=[]
noncomputable def Zc2:Tbl:=[(5,Zfk),(6,Zan),(13,Zbw),(15,Zc7),(12,Z6)]
theorem ZgB:∀p∈Zc2,EntOK Go.Proofs.Try.prog p.1 p.2:=Zp Zf6 (Zp ZaD (Zp Zb9 (Zp Zfi (Zp Zaj (Zaf)))))
noncomputable def ZbQ:Code:=Go.Proofs.Try.f11.body.getD .skip
def Zct:Tb:=[]
def ZeM:Empty→JT Empty (Bool):=fun j=>nomatch j
def ZdS:JT Empty (Bool):=.br (Zb (Zi (70:Int)) (69:Int)).1 (.br (! (Zb (Zb (Zi (70:Int)) (69:Int)).2 (69:Int)).1) (.br (! (Zb (Zb (Zb (Zi (70:Int)) (69:Int)).2 (69:Int)).2 (70:Int)).1) (.br (Zj (Zb (Zb (Zb (Zi (70:Int)) (69:Int)).2 (69:Int)).2 (70:Int)).2 (69:Int)).1 (.br ((ZG (Zj (Zb (Zb (Zb (Zi (70:Int)) (69:Int)).2 (69:Int)).2 (70:Int)).2 (69:Int)).2).1==(1:Int)) (.leaf ((ZG (Zj (Zb (Zb (Zb (Zi (70:Int)) (69:Int)).2 (69:Int)).2 (70:Int)).2 (69:Int)).2).2.1==(70:Int))) (.leaf false)) (.leaf false)) (.leaf false)) (.leaf false)) (.leaf false)
def Za6:Bool:=bif (Zb (Zi (70:Int)) (69:Int)).1 then bif (! (Zb (Zb (Zi (70:Int)) (69:Int)).2 (69:Int)).1) then bif (! (Zb (Zb (Zb (Zi (70:Int)) (69:Int)).2 (69:Int)).2 (70:Int)).1) then bif (Zj (Zb (Zb (Zb (Zi (70:Int)) (69:Int)).2 (69:Int)).2 (70:Int)).2 (69:Int)).1 then bif ((ZG (Zj (Zb (Zb (Zb (Zi (70:Int)) (69:Int)).2 (69:Int)).2 (70:Int)).2 (69:Int)).2).1==(1:Int)) then ((ZG (Zj (Zb (Zb (Zb (Zi (70:Int)) (69:Int)).2 (69:Int)).2 (70:Int)).2 (69:Int)).2).2.1==(70:Int)) else false else false else false else false else false
theorem Zg8:Goes (ZeM) (ZdS) (Za6):=Goes.br (Goes.br (Goes.br (Goes.br (Goes.br (Goes.leaf) (Goes.leaf)) (Goes.leaf)) (Goes.leaf)) (Goes.leaf)) (Goes.leaf)
def ZbR:Bool→AV:=fun (r:Bool)=>.d .bool r
def Zab:Empty→Nat×St:=fun j=>nomatch j
theorem ZgI (L:Lt):entryA Go.Proofs.Try.prog (clOf Zc2) Zct Go.Proofs.Try.f11 ZbQ L (toForms Zam (()))=(ZdS).run (fun v=>some (ZbR v,tps (toForms Zam (())))) fun j=>L (Zab j).1 (Zab j).2:=by kernel_rfl
theorem ZgD:∀(L:Lt) (j:Empty),procOf (procsF Go.Proofs.Try.prog (clOf Zc2) Zct Go.Proofs.Try.f11 ZbQ (toForms Zam (()))) (Zab j).1 L (Zab j).2=(ZeM j).run (fun v=>some (ZbR v,tps (toForms Zam (())))) fun j=>L (Zab j).1 (Zab j).2:=fun L j=>nomatch j
noncomputable def ZeQ:Run:=entT Zam ZbR (fun a=>Za6)
theorem ZgF:EntOK Go.Proofs.Try.prog 11 ZeQ:=ZiI (tb:=Zct) (c:=ZbQ) ZgB (by kernel_rfl) (by kernel_rfl) (by kernel_rfl) (fun a=>by kernel_rfl) fun _=>ZY (c:=ZbQ) (K:=fun v=>(ZbR v,tps (toForms Zam (())))) (S:=Zab) (by kernel_rfl) (ZgI) (ZgD) (Zg8)
end
end Go.Ev
end

section
open Go Go.Ev
namespace Go.Ev
noncomputable section
def Zn:Sig:=[(false,(.int .i64)),(false,(.int .i64)),(false,(.sl (.int .i64))),(false,(.sl (.int .i64)))]
noncomputable def Zcw:Tbl:=[(4,Zgu),(5,Zfk),(6,Zan),(7,Zel),(9,ZaE),(10,Zfv),(8,Zdg),(11,ZeQ)]
theorem Zgn:∀p∈Zcw,EntOK Go.Proofs.Try.prog p.1 p.2:=Zp Zig (Zp Zf6 (Zp ZaD (Zp Zgx (Zp ZaT (Zp Zhn (Zp ZfG (Zp ZgF (Zaf))))))))
noncomputable def Zbv:Code:=Go.Proofs.Try.f3.body.getD .skip
def Zdi:Tb:=[(9,⟨[0,1,2,3,9,10,11,12,13,112,117],[]⟩),(16,⟨[0,1,3,9,10,11,12,14,112,117],[]⟩),(24,⟨[0,1,9,10,11,12,15,16],[]⟩),(26,⟨[0,1,9,10,11,12,15,16,103,112,117],[]⟩)]
inductive ZaP where | l9 (i:Int) (s:Int) (is:List Bool) (s1:List (Int×Int)) | l16 (s:Int) (is:List Bool) (s1:List (Int×Int)) (i:Int) (o:Int) (was:List Bool) (o1:List (Int×Int)) | l24 (s:Int) (is:List Bool) (s1:List (Int×Int)) (o:Int) (was:List Bool) (o1:List (Int×Int)) (more:Bool) (i:Int) | l26 (h:Bool) (s:Int) (is:List Bool) (s1:List (Int×Int)) (o:Int) (was:List Bool) (o1:List (Int×Int)) (more:Bool) (i:Int)
def Zr (n:Int) (m:Int) (a:List Int) (b:List Int):ZaP→JT ZaP (Bool) |.l9 i s is s1=>.br (decide (i < (Int.ofNat (List.length a)))) (.br (decide (i < (40:Int))) (.br (decide ((Zc n (150:Int)) > (0:Int))) (.br ((decide ((0:Int)≤i))&&(decide (i < (Int.ofNat (List.length a))))) (.br (ZX (List.getD a (Int.toNat i) (dflt (.int .i64))) (Zc n (150:Int))) (.br ((decide ((0:Int)≤i))&&(decide (i < (Int.ofNat (List.length a))))) (.br (ZX (List.getD a (Int.toNat i) (dflt (.int .i64))) (Zc n (150:Int))) (.br ((decide ((0:Int)≤(Zc (List.getD a (Int.toNat i) (dflt (.int .i64))) (Zc n (150:Int)))))&&(decide ((Zc (List.getD a (Int.toNat i) (dflt (.int .i64))) (Zc n (150:Int))) < (Int.ofNat (List.length is))))) (.jmp (.l9 (IntKind.i64.wrap (i+(1:Int))) (Zb (s,s1) (Zc (List.getD a (Int.toNat i) (dflt (.int .i64))) (Zc n (150:Int)))).2.1 (List.set is (Int.toNat (Zc (List.getD a (Int.toNat i) (dflt (.int .i64))) (Zc n (150:Int)))) true) (Zb (s,s1) (Zc (List.getD a (Int.toNat i) (dflt (.int .i64))) (Zc n (150:Int)))).2.2)) (.no)) (.no)) (.no)) (.no)) (.no)) (.jmp (.l16 s is s1 (0:Int) (Zi (Zc m (150:Int))).1 (List.replicate (Int.toNat (Zc m (150:Int))) false) (Zi (Zc m (150:Int))).2))) (.jmp (.l16 s is s1 (0:Int) (Zi (Zc m (150:Int))).1 (List.replicate (Int.toNat (Zc m (150:Int))) false) (Zi (Zc m (150:Int))).2))) (.jmp (.l16 s is s1 (0:Int) (Zi (Zc m (150:Int))).1 (List.replicate (Int.toNat (Zc m (150:Int))) false) (Zi (Zc m (150:Int))).2)) |.l16 s is s1 i o was o1=>.br (decide (i < (Int.ofNat (List.length b)))) (.br (decide (i < (40:Int))) (.br (decide ((Zc m (150:Int)) > (0:Int))) (.br ((decide ((0:Int)≤i))&&(decide (i < (Int.ofNat (List.length b))))) (.br (ZX (List.getD b (Int.toNat i) (dflt (.int .i64))) (Zc m (150:Int))) (.br ((decide ((0:Int)≤i))&&(decide (i < (Int.ofNat (List.length b))))) (.br (ZX (List.getD b (Int.toNat i) (dflt (.int .i64))) (Zc m (150:Int))) (.br ((decide ((0:Int)≤(Zc (List.getD b (Int.toNat i) (dflt (.int .i64))) (Zc m (150:Int)))))&&(decide ((Zc (List.getD b (Int.toNat i) (dflt (.int .i64))) (Zc m (150:Int))) < (Int.ofNat (List.length was))))) (.jmp (.l16 s is s1 (IntKind.i64.wrap (i+(1:Int))) (Zb (o,o1) (Zc (List.getD b (Int.toNat i) (dflt (.int .i64))) (Zc m (150:Int)))).2.1 (List.set was (Int.toNat (Zc (List.getD b (Int.toNat i) (dflt (.int .i64))) (Zc m (150:Int)))) true) (Zb (o,o1) (Zc (List.getD b (Int.toNat i) (dflt (.int .i64))) (Zc m (150:Int)))).2.2)) (.no)) (.no)) (.no)) (.no)) (.no)) (.jmp (.l24 s is s1 o was o1 false (0:Int)))) (.jmp (.l24 s is s1 o was o1 false (0:Int)))) (.jmp (.l24 s is s1 o was o1 false (0:Int))) |.l24 s is s1 o was o1 more i=>.br (decide (i < (Zc n (150:Int)))) (.jmp (.l26 (decide (i < (Zc m (150:Int)))) s is s1 o was o1 more i)) (.jmp (.l26 false s is s1 o was o1 more i)) |.l26 h s is s1 o was o1 more i=>.br h (.br more (.br ((decide ((0:Int)≤i))&&(decide (i < (Int.ofNat (List.length is))))) (.br (List.getD is (Int.toNat i) (dflt .bool)) (.br ((decide ((0:Int)≤i))&&(decide (i < (Int.ofNat (List.length is))))) (.jmp (.l24 s (List.set is (Int.toNat i) true) s1 o was o1 true (IntKind.i64.wrap (i+(1:Int))))) (.no)) (.br ((decide ((0:Int)≤i))&&(decide (i < (Int.ofNat (List.length was))))) (.br ((decide ((0:Int)≤i))&&(decide (i < (Int.ofNat (List.length is))))) (.jmp (.l24 s (List.set is (Int.toNat i) (List.getD was (Int.toNat i) (dflt .bool))) s1 o was o1 true (IntKind.i64.wrap (i+(1:Int))))) (.no)) (.no))) (.no)) (.br ((decide ((0:Int)≤i))&&(decide (i < (Int.ofNat (List.length was))))) (.br (List.getD was (Int.toNat i) (dflt .bool)) (.br ((decide ((0:Int)≤i))&&(decide (i < (Int.ofNat (List.length is))))) (.br ((decide ((0:Int)≤i))&&(decide (i < (Int.ofNat (List.length is))))) (.br (List.getD is (Int.toNat i) (dflt .bool)) (.br ((decide ((0:Int)≤i))&&(decide (i < (Int.ofNat (List.length is))))) (.jmp (.l24 s (List.set is (Int.toNat i) true) s1 o was o1 (! (List.getD is (Int.toNat i) (dflt .bool))) (IntKind.i64.wrap (i+(1:Int))))) (.no)) (.br ((decide ((0:Int)≤i))&&(decide (i < (Int.ofNat (List.length was))))) (.br ((decide ((0:Int)≤i))&&(decide (i < (Int.ofNat (List.length is))))) (.jmp (.l24 s (List.set is (Int.toNat i) (List.getD was (Int.toNat i) (dflt .bool))) s1 o was o1 (! (List.getD is (Int.toNat i) (dflt .bool))) (IntKind.i64.wrap (i+(1:Int))))) (.no)) (.no))) (.no)) (.no)) (.br ((decide ((0:Int)≤i))&&(decide (i < (Int.ofNat (List.length is))))) (.br (List.getD is (Int.toNat i) (dflt .bool)) (.br ((decide ((0:Int)≤i))&&(decide (i < (Int.ofNat (List.length is))))) (.jmp (.l24 s (List.set is (Int.toNat i) true) s1 o was o1 false (IntKind.i64.wrap (i+(1:Int))))) (.no)) (.br ((decide ((0:Int)≤i))&&(decide (i < (Int.ofNat (List.length was))))) (.br ((decide ((0:Int)≤i))&&(decide (i < (Int.ofNat (List.length is))))) (.jmp (.l24 s (List.set is (Int.toNat i) (List.getD was (Int.toNat i) (dflt .bool))) s1 o was o1 false (IntKind.i64.wrap (i+(1:Int))))) (.no)) (.no))) (.no))) (.no))) (.br (Zaa (s,s1) (o,o1)) (.br ((Zd (s,s1) (o,o1)).1==more) (.br (Zf (Zd (s,s1) (o,o1)).2.1) (.br (Za1 is) (.br (Z3 (Za (Zd (s,s1) (o,o1)).2.1).1 (ZJ is)) (.br (ZO (Za (Zd (s,s1) (o,o1)).2.1).1 (ZJ is)) (.br (Zf (Zd (s,s1) (o,o1)).2.2) (.br (Za1 was) (.br (Z3 (Za (Zd (s,s1) (o,o1)).2.2).1 (ZJ was)) (.br (ZO (Za (Zd (s,s1) (o,o1)).2.2).1 (ZJ was)) (.br (Zaa (Za (Zd (s,s1) (o,o1)).2.1).2 (Za (Zd (s,s1) (o,o1)).2.2).2) (.br (! (Zd (Za (Zd (s,s1) (o,o1)).2.1).2 (Za (Zd (s,s1) (o,o1)).2.2).2).1) (.br (! (Zs (Zd (Za (Zd (s,s1) (o,o1)).2.1).2 (Za (Zd (s,s1) (o,o1)).2.2).2).2.1 ()).1) (.br (ZbZ (Zs (Zd (Za (Zd (s,s1) (o,o1)).2.1).2 (Za (Zd (s,s1) (o,o1)).2.2).2).2.1 ()).2 ()) (.br (! (Zy (Zs (Zd (Za (Zd (s,s1) (o,o1)).2.1).2 (Za (Zd (s,s1) (o,o1)).2.2).2).2.1 ()).2 ()).1) (.br (Zf (Zy (Zs (Zd (Za (Zd (s,s1) (o,o1)).2.1).2 (Za (Zd (s,s1) (o,o1)).2.2).2).2.1 ()).2 ()).2) (.br (Za1 is) (.br (Z3 (Za (Zy (Zs (Zd (Za (Zd (s,s1) (o,o1)).2.1).2 (Za (Zd (s,s1) (o,o1)).2.2).2).2.1 ()).2 ()).2).1 (ZJ is)) (.br (ZO (Za (Zy (Zs (Zd (Za (Zd (s,s1) (o,o1)).2.1).2 (Za (Zd (s,s1) (o,o1)).2.2).2).2.1 ()).2 ()).2).1 (ZJ is)) (.leaf Za6) (.leaf false)) (.no)) (.no)) (.no)) (.leaf false)) (.no)) (.leaf false)) (.leaf false)) (.no)) (.leaf false)) (.no)) (.no)) (.no)) (.leaf false)) (.no)) (.no)) (.no)) (.leaf false)) (.no))
def ZbX (n:Int) (m:Int) (a:List Int) (b:List Int):JT ZaP (Bool):=.br (ZX n (150:Int)) (.br (ZX m (150:Int)) (.br ((((Zc n (150:Int))==(Zc n (150:Int)))&&(decide ((0:Int)≤(Zc n (150:Int)))))&&(decide (((Zc n (150:Int))*(1:Int))≤(limit:Int)))) (.br ((((Zc m (150:Int))==(Zc m (150:Int)))&&(decide ((0:Int)≤(Zc m (150:Int)))))&&(decide (((Zc m (150:Int))*(1:Int))≤(limit:Int)))) (.jmp (.l9 (0:Int) (Zi (Zc n (150:Int))).1 (List.replicate (Int.toNat (Zc n (150:Int))) false) (Zi (Zc n (150:Int))).2)) (.no)) (.no)) (.no)) (.no)
def Zbx:Bool→AV:=fun (r:Bool)=>.d .bool r
def ZT (n:Int) (m:Int) (a:List Int) (b:List Int):ZaP→Nat×St |.l9 i s is s1=>(9,⟨mkTm 180 [(0,.d (.int .i64) (Zc n (150:Int))),(1,.d (.int .i64) (Zc m (150:Int))),(2,.d (.sl (.int .i64)) a),(3,.d (.sl (.int .i64)) b),(9,.pt 10 0 0),(10,.pt 11 0 0),(11,.own 12 0 none),(12,.own 13 0 none),(13,.d (.int .i64) i)],[(10,0,.box 36 [.d (.int .i64) s,.mp 10242 0] none),(11,0,.box 36 [.d (.int .i64) (Zi (Zc m (150:Int))).1,.mp 11266 0] none),(12,0,.row 4 .bool is false),(13,0,.row 4 .bool (List.replicate (Int.toNat (Zc m (150:Int))) false) false),(10242,0,.map (.int .i64) (.int .u64) s1),(11266,0,.map (.int .i64) (.int .u64) (Zi (Zc m (150:Int))).2)]⟩) |.l16 s is s1 i o was o1=>(16,⟨mkTm 180 [(0,.d (.int .i64) (Zc n (150:Int))),(1,.d (.int .i64) (Zc m (150:Int))),(3,.d (.sl (.int .i64)) b),(9,.pt 10 0 0),(10,.pt 11 0 0),(11,.own 12 0 none),(12,.own 13 0 none),(14,.d (.int .i64) i)],[(10,0,.box 36 [.d (.int .i64) s,.mp 10242 0] none),(11,0,.box 36 [.d (.int .i64) o,.mp 11266 0] none),(12,0,.row 4 .bool is false),(13,0,.row 4 .bool was false),(10242,0,.map (.int .i64) (.int .u64) s1),(11266,0,.map (.int .i64) (.int .u64) o1)]⟩) |.l24 s is s1 o was o1 more i=>(24,⟨mkTm 180 [(0,.d (.int .i64) (Zc n (150:Int))),(1,.d (.int .i64) (Zc m (150:Int))),(9,.pt 10 0 0),(10,.pt 11 0 0),(11,.own 12 0 none),(12,.own 13 0 none),(15,.d .bool more),(16,.d (.int .i64) i)],[(10,0,.box 36 [.d (.int .i64) s,.mp 10242 0] none),(11,0,.box 36 [.d (.int .i64) o,.mp 11266 0] none),(12,0,.row 4 .bool is false),(13,0,.row 4 .bool was false),(10242,0,.map (.int .i64) (.int .u64) s1),(11266,0,.map (.int .i64) (.int .u64) o1)]⟩) |.l26 h s is s1 o was o1 more i=>(26,⟨mkTm 180 [(0,.d (.int .i64) (Zc n (150:Int))),(1,.d (.int .i64) (Zc m (150:Int))),(9,.pt 10 0 0),(10,.pt 11 0 0),(11,.own 12 0 none),(12,.own 13 0 none),(15,.d .bool more),(16,.d (.int .i64) i),(103,.d .bool h)],[(10,0,.box 36 [.d (.int .i64) s,.mp 10242 0] none),(11,0,.box 36 [.d (.int .i64) o,.mp 11266 0] none),(12,0,.row 4 .bool is false),(13,0,.row 4 .bool was false),(10242,0,.map (.int .i64) (.int .u64) s1),(11266,0,.map (.int .i64) (.int .u64) o1)]⟩)
theorem Zf0 (n:Int) (m:Int) (a:List Int) (b:List Int) (L:Lt):entryA Go.Proofs.Try.prog (clOf Zcw) Zdi Go.Proofs.Try.f3 Zbv L (toForms Zn (n,m,a,b,()))=(ZbX n m a b).run (fun v=>some (Zbx v,tps (toForms Zn (n,m,a,b,())))) fun j=>L (ZT n m a b j).1 (ZT n m a b j).2:=by kernel_rfl
theorem Zgm (n:Int) (m:Int) (a:List Int) (b:List Int):∀(L:Lt) (j:ZaP),procOf (procsF Go.Proofs.Try.prog (clOf Zcw) Zdi Go.Proofs.Try.f3 Zbv (toForms Zn (n,m,a,b,()))) (ZT n m a b j).1 L (ZT n m a b j).2=(Zr n m a b j).run (fun v=>some (Zbx v,tps (toForms Zn (n,m,a,b,())))) fun j=>L (ZT n m a b j).1 (ZT n m a b j).2 | L,.l9 i s is s1=>by kernel_rfl | L,.l16 s is s1 i o was o1=>by kernel_rfl | L,.l24 s is s1 o was o1 more i=>by kernel_rfl | L,.l26 h s is s1 o was o1 more i=>by kernel_rfl
end
end Go.Ev
end

section
namespace Go.Ev
namespace Pop
theorem shland {s c d a m:Nat} (hd:d < 256) (hc:c < 2 ^ (8 - s)) (hs:s < 8):
  ((256*a+d) >>> s) &&& (256*m+c)=256*((a >>> s) &&& m)+((d >>> s) &&& c):=by
 have hc8:c < 2 ^ 8:=Nat.lt_of_lt_of_le hc (Nat.pow_le_pow_right (by decide) (by omega))
 have hb:(d >>> s) &&& c < 2 ^ 8:=Nat.lt_of_le_of_lt Nat.and_le_right hc8
 apply Nat.eq_of_testBit_eq
 intro j
 rw[show 256=2 ^ 8 from rfl,Nat.testBit_two_pow_mul_add _ hb,Nat.testBit_and,Nat.testBit_shiftRight,Nat.testBit_two_pow_mul_add _ (show d < 2 ^ 8 from hd),Nat.testBit_two_pow_mul_add _ hc8]
 by_cases h:j < 8
 ·rw[if_pos h,if_pos h,Nat.testBit_and,Nat.testBit_shiftRight]
  by_cases h2:s+j < 8
  ·rw[if_pos h2]
  ·have:c.testBit j=false:=Nat.testBit_lt_two_pow (Nat.lt_of_lt_of_le hc (Nat.pow_le_pow_right (by decide) (by omega)))
   rw[this,Bool.and_false,Bool.and_false]
 ·rw[if_neg h,if_neg h,Nat.testBit_and,Nat.testBit_shiftRight,if_neg (by omega),show s+j - 8=s+(j - 8) by omega]
def st (s c x:Nat):Nat:=((x >>> s) &&& c)+(x &&& c)
theorem ZkT {s c d a m:Nat} (hd:d < 256) (hc:c < 2 ^ (8 - s)) (hs:s < 8):st s (256*m+c) (256*a+d)=256*st s m a+st s c d:=by
 unfold st
 have h0:=shland (s:=0) (a:=a) (m:=m) (c:=c) hd (Nat.lt_of_lt_of_le hc (Nat.pow_le_pow_right (by decide) (by omega))) (by omega)
 simp only[Nat.shiftRight_zero] at h0
 rw[shland hd hc hs,h0]
 omega
def st3 (c x:Nat):Nat:=((x >>> 4)+x) &&& c
def rep (c:Nat):Nat→Nat
 | 0=>0
 | n+1=>256*rep c n+c
def digs:Nat→Nat→List Nat
 | 0,_=>[]
 | n+1,x=>x % 256 :: digs n (x / 256)
def und:List Nat→Nat
 | []=>0
 | d :: r=>256*und r+d
theorem ZiQ:∀(n x:Nat),x < 256 ^ n→und (digs n x)=x
 | 0,x,h=>by simp[digs,und] at*;omega
 | n+1,x,h=>by
  rw[digs,und,ZiQ n (x / 256) (by rw[Nat.pow_succ] at h;exact Nat.div_lt_of_lt_mul (by omega))]
  omega
theorem Zil:∀(n x:Nat),∀d∈digs n x,d < 256
 | 0,x,d,h=>by cases h
 | n+1,x,d,h=>by
  rcases List.mem_cons.1 h with h | h
  ·subst h;exact Nat.mod_lt _ (by decide)
  ·exact Zil n _ d h
theorem Zd3:∀(n x:Nat),(digs n x).length=n
 | 0,_=>rfl
 | n+1,x=>by rw[digs,List.length_cons,Zd3 n]
theorem ZjP {s c:Nat} (hc:c < 2 ^ (8 - s)) (hs:s < 8):∀l:List Nat,(∀d∈l,d < 256)→st s (rep c l.length) (und l)=und (l.map (st s c))
 | [],_=>by simp[st,rep,und]
 | d :: r,h=>by
  rw[und,List.length_cons,rep,ZkT (h d (by simp)) hc hs,ZjP hc hs r (fun x hx=>h x (by simp[hx])),List.map_cons,und]
theorem land15 (x:Nat):x &&& 15=x % 16:=Nat.and_two_pow_sub_one_eq_mod x 4
theorem ZjG {d a m:Nat} (hd:d≤68) (ha:a % 16≤4):st3 (256*m+15) (256*a+d)=256*st3 m a+st3 15 d:=by
 unfold st3
 have e:(256*a+d) >>> 4+(256*a+d)=256*((a >>> 4)+a)+((a % 16)*16+d / 16+d):=by
  simp only[Nat.shiftRight_eq_div_pow]
  omega
 have h:=shland (s:=0) (a:=(a >>> 4)+a) (m:=m) (c:=15) (d:=(a % 16)*16+d / 16+d) (by omega) (by decide) (by decide)
 simp only[Nat.shiftRight_zero] at h
 rw[e,h,land15,land15,Nat.shiftRight_eq_div_pow d]
 omega
theorem Zki:∀l:List Nat,(∀d∈l,d≤68∧d % 16≤4)→st3 (rep 15 l.length) (und l)=und (l.map (st3 15))
 | [],_=>by simp[st3,rep,und]
 | d :: r,h=>by
  have hr:und r % 16≤4:=by
   cases r with
   | nil=>simp[und]
   | cons x r=>rw[und];have:=(h x (by simp)).2;omega
  rw[und,List.length_cons,rep,ZjG (h d (by simp)).1 hr,Zki r (fun x hx=>h x (by simp[hx])),List.map_cons,und]
def pop8 (d:Nat):Nat:=st3 15 (st 2 51 (st 1 85 d))
theorem Zj8:∀d,d < 256→pop8 d=(List.range 8).countP (fun i=>d.testBit i):=by decide+kernel
theorem dig2:∀d,d < 256→st 1 85 d < 256∧st 2 51 (st 1 85 d)≤68∧st 2 51 (st 1 85 d) % 16≤4:=by decide+kernel
def lastS (y:Nat):Nat:=
 let y1:=y+y >>> 8
 let y2:=y1+y1 >>> 16
 let y3:=y2+y2 >>> 32
 y3 % 128
def three (x:Nat):Nat:=st3 (rep 15 8) (st 2 (rep 51 8) (st 1 (rep 85 8) x))
theorem ZkN {x:Nat} (h:x < 2 ^ 64):three x=und ((digs 8 x).map pop8):=by
 unfold three
 have h0:und (digs 8 x)=x:=ZiQ 8 x (by simpa using h)
 have hl:=Zd3 8 x
 have hd:=Zil 8 x
 generalize digs 8 x=l at*
 rw[←h0,←hl,ZjP (by decide) (by decide) l hd]
 have e1:l.length=(l.map (st 1 85)).length:=by simp
 rw[e1,ZjP (by decide) (by decide) _ (fun d h=>by obtain ⟨x,hx,rfl⟩:=List.mem_map.1 h;exact (dig2 x (hd x hx)).1)]
 have e2:(l.map (st 1 85)).length=((l.map (st 1 85)).map (st 2 51)).length:=by simp
 rw[e2,Zki _ (fun d h=>by
  obtain ⟨y,hy,rfl⟩:=List.mem_map.1 h
  obtain ⟨x,hx,rfl⟩:=List.mem_map.1 hy
  exact (dig2 x (hd x hx)).2)]
 simp only[List.map_map]
 rfl
theorem Zlp {d:Nat} (h:d < 256):pop8 d≤8:=by
 rw[Zj8 d h]
 have:=List.countP_le_length (p:=fun i=>d.testBit i) (l:=List.range 8)
 simpa using this
theorem ZkS {a b c d e f g h:Nat} (h1:a≤8) (h2:b≤8) (h3:c≤8) (h4:d≤8) (h5:e≤8) (h6:f≤8) (h7:g≤8) (h8:h≤8):
  lastS (und [a,b,c,d,e,f,g,h])=a+b+c+d+e+f+g+h:=by
 have e1:(und [a,b,c,d,e,f,g,h]) >>> 8=und [b,c,d,e,f,g,h]:=by
  rw[Nat.shiftRight_eq_div_pow,und];omega
 have e2:und [a,b,c,d,e,f,g,h]+und [b,c,d,e,f,g,h]=und [a+b,b+c,c+d,d+e,e+f,f+g,g+h,h]:=by
  simp only[und];omega
 have e3:(und [a+b,b+c,c+d,d+e,e+f,f+g,g+h,h]) >>> 16=und [c+d,d+e,e+f,f+g,g+h,h]:=by
  rw[Nat.shiftRight_eq_div_pow,und,und];omega
 have e4:und [a+b,b+c,c+d,d+e,e+f,f+g,g+h,h]+und [c+d,d+e,e+f,f+g,g+h,h]=und [a+b+c+d,b+c+d+e,c+d+e+f,d+e+f+g,e+f+g+h,f+g+h,g+h,h]:=by
  simp only[und];omega
 have e5:(und [a+b+c+d,b+c+d+e,c+d+e+f,d+e+f+g,e+f+g+h,f+g+h,g+h,h]) >>> 32=und [e+f+g+h,f+g+h,g+h,h]:=by
  rw[Nat.shiftRight_eq_div_pow,und,und,und,und];omega
 unfold lastS
 simp only[e1,e2,e3,e4,e5]
 have f1:und [a+b+c+d,b+c+d+e,c+d+e+f,d+e+f+g,e+f+g+h,f+g+h,g+h,h]=256*und [b+c+d+e,c+d+e+f,d+e+f+g,e+f+g+h,f+g+h,g+h,h]+(a+b+c+d):=rfl
 have f2:und [e+f+g+h,f+g+h,g+h,h]=256*und [f+g+h,g+h,h]+(e+f+g+h):=rfl
 omega
def popN (x:Nat):Nat:=(List.range 64).countP fun i=>x.testBit i
theorem ZfK (p:Nat→Bool) (m n:Nat):(List.range (m+n)).countP p=(List.range m).countP p+(List.range n).countP fun i=>p (m+i):=by
 rw[List.range_add,List.countP_append,List.countP_map]
 rfl
theorem ZiX:∀(n x:Nat),(List.range (8*n)).countP (fun i=>x.testBit i)=((digs n x).map pop8).sum
 | 0,x=>rfl
 | n+1,x=>by
  rw[show 8*(n+1)=8+8*n by omega,ZfK,digs,List.map_cons,List.sum_cons,←ZiX n,Zj8 _ (Nat.mod_lt _ (by decide))]
  congr 1
  ·refine List.countP_congr fun i hi=>?_
   have:=List.mem_range.1 hi
   rw[show 256=2 ^ 8 from rfl,Nat.testBit_mod_two_pow]
   simp[this]
  ·refine List.countP_congr fun i hi=>?_
   rw[show 256=2 ^ 8 from rfl,Nat.testBit_div_two_pow]
   rw[Nat.add_comm]
theorem pop_eq {x:Nat} (h:x < 2 ^ 64):lastS (three x)=popN x:=by
 rw[ZkN h]
 unfold popN
 rw[show 64=8*8 from rfl,ZiX]
 have hd:=Zil 8 x
 have hl:=Zd3 8 x
 generalize digs 8 x=l at*
 match l,hl with
 | [a,b,c,d,e,f,g,i],_=>
  have k:∀y∈[a,b,c,d,e,f,g,i],pop8 y≤8:=fun y hy=>Zlp (hd y hy)
  simp only[List.map_cons,List.map_nil]
  rw[ZkS (k a (by simp)) (k b (by simp)) (k c (by simp)) (k d (by simp)) (k e (by simp)) (k f (by simp)) (k g (by simp)) (k i (by simp))]
  simp only[List.sum_cons,List.sum_nil]
  omega
end Pop
end Go.Ev
end

section
open Go
namespace Go.Ev
theorem ZdG {n:Nat} (h:n < 2 ^ 64):IntKind.u64.wrap (n:Int)=(n:Int):=by
 unfold IntKind.wrap
 simp only[IntKind.signed,IntKind.bits,Bool.false_and,Bool.false_eq_true,if_false]
 exact Int.emod_eq_of_lt (by omega) (by exact_mod_cast h)
theorem ofIntU {n:Nat} :BitVec.ofInt 64 (n:Int)=BitVec.ofNat 64 n:=BitVec.ofInt_natCast 64 n
theorem ZeF {a b:Nat} (ha:a < 2 ^ 64) (hb:b < 2 ^ 64):bitAnd IntKind.u64 (a:Int) (b:Int)=((a &&& b:Nat):Int):=by
 unfold bitAnd
 show IntKind.u64.wrap (((BitVec.ofInt 64 (a:Int) &&& BitVec.ofInt 64 (b:Int)).toNat:Nat):Int)=_
 rw[ofIntU,ofIntU,BitVec.toNat_and,BitVec.toNat_ofNat,BitVec.toNat_ofNat,Nat.mod_eq_of_lt ha,Nat.mod_eq_of_lt hb]
 exact ZdG (Nat.lt_of_le_of_lt Nat.and_le_left ha)
theorem Zkz {a b:Nat} (ha:a < 2 ^ 64) (hb:b < 2 ^ 64):bitOr IntKind.u64 (a:Int) (b:Int)=((a ||| b:Nat):Int):=by
 unfold bitOr
 show IntKind.u64.wrap (((BitVec.ofInt 64 (a:Int) ||| BitVec.ofInt 64 (b:Int)).toNat:Nat):Int)=_
 rw[ofIntU,ofIntU,BitVec.toNat_or,BitVec.toNat_ofNat,BitVec.toNat_ofNat,Nat.mod_eq_of_lt ha,Nat.mod_eq_of_lt hb]
 exact ZdG (Nat.or_lt_two_pow ha hb)
theorem ZdY (j:Nat):(2:Int) ^ j=((2 ^ j:Nat):Int):=by simp
theorem ZiA {w j:Nat} (hw:w < 2 ^ 64) (hj:j < 64):bitE (w:Int) (j:Int)=w.testBit j:=by
 unfold bitE
 rw[Zeg hj,Int.toNat_natCast,show min j (IntKind.u64).bits=j from Nat.min_eq_left (by show j≤64;omega),ZdY,Int.fdiv_eq_ediv_of_nonneg _ (Int.natCast_nonneg _),←Int.natCast_ediv]
 rw[show (1:Int)=((1:Nat):Int) from rfl,ZeF (Nat.lt_of_le_of_lt (Nat.div_le_self _ _) hw) (by decide),Nat.and_one_is_mod,Nat.testBit_eq_decide_div_mod_eq]
 by_cases h:w / 2 ^ j % 2=1
 ·rw[h];simp
 ·have:w / 2 ^ j % 2=0:=by omega
  rw[this];simp
theorem Zjb {w j:Nat} (hw:w < 2 ^ 64) (hj:j < 64):withBit (w:Int) (j:Int)=((w ||| 2 ^ j:Nat):Int):=by
 unfold withBit
 have hp:2 ^ j < 2 ^ 64:=Nat.pow_lt_pow_right (by decide) hj
 rw[Zeg hj,Int.toNat_natCast,show min j (IntKind.u64).bits=j from Nat.min_eq_left (by show j≤64;omega),ZdY,Int.one_mul,ZdG hp,Zkz hw hp]
theorem ZdT (k v:Int):∀m:List (Int×Int),mget (kt:=.int .i64) k (mput (kt:=.int .i64) k v m)=some v
 | []=>by simp[mput,mget,keyEq]
 | (x,u) :: r=>by
  by_cases h:k=x
  ·subst h;simp[mput,mget,keyEq]
  ·have hb:keyEq (.int .i64) k x=false:=by show (k==x)=false;simpa using h
   simp only[mput,hb,cond_false,mget]
   exact ZdT k v r
theorem Zdl {k k':Int} (v:Int) (h:k'≠k):∀m:List (Int×Int),mget (kt:=.int .i64) k' (mput (kt:=.int .i64) k v m)=mget (kt:=.int .i64) k' m
 | []=>by
  have hb:keyEq (.int .i64) k' k=false:=by show (k'==k)=false;simpa using h
  simp[mput,mget,hb]
 | (x,u) :: r=>by
  by_cases hx:k=x
  ·subst hx
   have hb:keyEq (.int .i64) k' k=false:=by show (k'==k)=false;simpa using h
   have hb2:keyEq (.int .i64) k k=true:=by show (k==k)=true;simp
   simp only[mput,hb2,cond_true,mget,hb,cond_false]
  ·have hb:keyEq (.int .i64) k x=false:=by show (k==x)=false;simpa using hx
   simp only[mput,hb,cond_false,mget,Zdl v h r]
theorem Zdh {k v:Int} :∀ {m:List (Int×Int)},mget (kt:=.int .i64) k m=some v→(k,v)∈m
 | [],h=>by cases h
 | (x,u) :: r,h=>by
  by_cases hx:k=x
  ·subst hx
   have hb2:keyEq (.int .i64) k k=true:=by show (k==k)=true;simp
   simp only[mget,hb2,cond_true,Option.some.injEq] at h
   subst h
   simp
  ·have hb:keyEq (.int .i64) k x=false:=by show (k==x)=false;simpa using hx
   simp only[mget,hb,cond_false] at h
   exact List.mem_cons_of_mem _ (Zdh h)
theorem Zi2 {k v:Int} {p:Int×Int} :∀ {m:List (Int×Int)},p∈mput (kt:=.int .i64) k v m→p=(k,v)∨p∈m
 | [],h=>by simp[mput] at h;exact .inl h
 | (x,u) :: r,h=>by
  by_cases hx:k=x
  ·subst hx
   have hb2:keyEq (.int .i64) k k=true:=by show (k==k)=true;simp
   simp only[mput,hb2,cond_true] at h
   rcases List.mem_cons.1 h with h | h
   ·exact .inl h
   ·exact .inr (List.mem_cons_of_mem _ h)
  ·have hb:keyEq (.int .i64) k x=false:=by show (k==x)=false;simpa using hx
   simp only[mput,hb,cond_false] at h
   rcases List.mem_cons.1 h with h | h
   ·exact .inr (by rw[h];simp)
   ·exact (Zi2 h).imp id (List.mem_cons_of_mem _)
theorem Zex {k v:Int} :∀ {m:List (Int×Int)},(mput (kt:=.int .i64) k v m).map Prod.fst=if k∈m.map Prod.fst then m.map Prod.fst else m.map Prod.fst++[k]
 | []=>by simp[mput]
 | (x,u) :: r=>by
  by_cases hx:k=x
  ·subst hx
   have hb2:keyEq (.int .i64) k k=true:=by show (k==k)=true;simp
   simp only[mput,hb2,cond_true]
   simp
  ·have hb:keyEq (.int .i64) k x=false:=by show (k==x)=false;simpa using hx
   simp only[mput,hb,cond_false,List.map_cons,List.mem_cons,hx,false_or]
   rw[@Zex k v r]
   by_cases h:k∈r.map Prod.fst
   ·rw[if_pos h,if_pos h]
   ·rw[if_neg h,if_neg h];rfl
theorem ZgH {k v:Int} {m:List (Int×Int)} (h:(m.map Prod.fst).Nodup):((mput (kt:=.int .i64) k v m).map Prod.fst).Nodup:=by
 rw[Zex]
 split
 ·exact h
 ·rename_i hk
  rw[List.nodup_append]
  exact ⟨h,by simp,fun a ha b hb e=>by simp at hb;subst hb;subst e;exact hk ha⟩
theorem ZgO:∀ {l:List Int} {a b:Int},l.Pairwise (· < ·)→(∀x∈l,a≤x∧x < b)→a≤b→(l.length:Int)≤b - a
 | [],a,b,_,_,h=>by simp;omega
 | y :: l,a,b,hp,hb,h=>by
  rw[List.pairwise_cons] at hp
  have hy:=hb y (by simp)
  have:=ZgO (l:=l) (a:=y+1) (b:=b) hp.2 (fun x hx=>⟨hp.1 x hx,(hb x (List.mem_cons_of_mem _ hx)).2⟩) (by omega)
  simp
  omega
structure SetOK (s:Int×List (Int×Int)) (n:Nat) (M:Nat→Bool):Prop where
 size:s.1=n
 nodup:(s.2.map Prod.fst).Nodup
 words:∀p∈s.2,∃k w:Nat,p=((k:Int),(w:Int))∧k*64 < n∧w < 2 ^ 64
 bits:∀k j:Nat,j < 64→(wordAt s.2 (k:Int)).toNat.testBit j=M (k*64+j)
 lt:∀i,M i=true→i < n
theorem SetOK.new (n:Nat):SetOK ((n:Int),[]) n fun _=>false:=⟨rfl,List.nodup_nil,fun p hp=>by simp at hp,fun k j _=>by simp[wordAt,mget],fun i h=>by cases h⟩
variable {s:Int×List (Int×Int)} {n:Nat} {M:Nat→Bool}
theorem SetOK.word (h:SetOK s n M) (k:Nat):∃w:Nat,wordAt s.2 (k:Int)=(w:Int)∧w < 2 ^ 64:=by
 unfold wordAt
 cases hg:mget (kt:=.int .i64) (k:Int) s.2 with
 | none=>exact ⟨0,rfl,by decide⟩
 | some v=>
  obtain ⟨k',w,e,_,hw⟩:=h.words _ (Zdh hg)
  simp only[Prod.mk.injEq] at e
  exact ⟨w,e.2,hw⟩
theorem Zgp {i:Nat} (hi:i < 4611686018427387904):placeOf (i:Int)=((i / 64:Nat):Int):=by
 unfold placeOf
 rw[show Int.tdiv (i:Int) 64=((i / 64:Nat):Int) from rfl,wrap_i64 (by omega) (by omega)]
theorem SetOK.has (h:SetOK s n M) (hn:n < 4611686018427387904) (i:Int):hasS s i=(decide (0≤i)&&M i.toNat):=by
 unfold hasS
 rw[h.size]
 by_cases h0:0≤i
 ·obtain ⟨j,rfl⟩:=Int.eq_ofNat_of_zero_le h0
  by_cases h1:j < n
  ·rw[decide_eq_true (show (j:Int)≥0 from h0),decide_eq_true (show (j:Int) < (n:Int) by omega),Bool.true_and,Bool.true_and,Bool.true_and,Zgp (by omega)]
   obtain ⟨w,hw,hlt⟩:=h.word (j / 64)
   have hb:=h.bits (j / 64) (j % 64) (Nat.mod_lt _ (by decide))
   rw[hw,show Int.tmod (j:Int) 64=((j % 64:Nat):Int) from rfl,ZiA hlt (Nat.mod_lt _ (by decide))]
   rw[hw,Int.toNat_natCast] at hb
   rw[hb,Int.toNat_natCast,Nat.div_add_mod' j 64]
  ·rw[decide_eq_false (show ¬(j:Int) < (n:Int) by omega),Bool.false_and,Bool.and_false]
   have:M (j:Int).toNat=false:=by
    rw[Int.toNat_natCast]
    cases hm:M j with
    | true=>exact absurd (h.lt j hm) h1
    | false=>rfl
   rw[this,Bool.and_false]
 ·rw[decide_eq_false (show ¬i≥0 from h0),Bool.false_and,Bool.false_and]
theorem SetOK.put (h:SetOK s n M) (hn:n < 4611686018427387904) {i:Nat} (hi:i < n) (hM:M i=false):
  (putS s i).1=true∧SetOK (putS s i).2 n fun j=>M j || (j==i):=by
 have hno:¬((i:Int) < 0∨s.1≤(i:Int)∨hasS s (i:Int)=true):=by
  rw[h.has hn,h.size,Int.toNat_natCast,hM]
  simp
  omega
 unfold putS
 rw[if_neg hno,Zgp (by omega),show Int.tmod (i:Int) 64=((i % 64:Nat):Int) from rfl]
 refine ⟨rfl,?_⟩
 obtain ⟨w,hw,hlt⟩:=h.word (i / 64)
 have hj:i % 64 < 64:=Nat.mod_lt _ (by decide)
 have hp:2 ^ (i % 64) < 2 ^ 64:=Nat.pow_lt_pow_right (by decide) hj
 rw[hw,Zjb hlt hj]
 have hw2:w ||| 2 ^ (i % 64) < 2 ^ 64:=Nat.or_lt_two_pow hlt hp
 refine ⟨h.size,ZgH h.nodup,fun p hp=>?_,fun k j hj2=>?_,fun k hk=>?_⟩
 ·rcases Zi2 hp with rfl | hp
  ·exact ⟨i / 64,_,rfl,by omega,hw2⟩
  ·exact h.words p hp
 ·unfold wordAt
  by_cases hk:k=i / 64
  ·subst hk
   simp only
   rw[ZdT,Option.getD_some,Int.toNat_natCast,Nat.testBit_or,Nat.testBit_two_pow]
   have hb:=h.bits (i / 64) j hj2
   rw[hw,Int.toNat_natCast] at hb
   rw[hb]
   congr 1
   rw[Bool.eq_iff_iff]
   simp
   omega
  ·simp only
   rw[Zdl _ (by omega)]
   have hb:=h.bits k j hj2
   unfold wordAt at hb
   rw[hb]
   have:(k*64+j==i)=false:=by simp;omega
   rw[this,Bool.or_false]
 ·simp only[Bool.or_eq_true,beq_iff_eq] at hk
  rcases hk with hk | hk
  ·exact h.lt k hk
  ·omega
theorem SetOK.put_no (h:SetOK s n M) (hn:n < 4611686018427387904) {i:Int} (hi:¬(0≤i∧i < n∧M i.toNat=false)):putS s i=(false,s):=by
 unfold putS
 rw[if_pos]
 rw[h.has hn,h.size]
 by_cases h0:i < 0
 ·exact .inl h0
 ·by_cases h1:(n:Int)≤i
  ·exact .inr (.inl h1)
  ·refine .inr (.inr ?_)
   have:¬M i.toNat=false:=fun hf=>hi ⟨by omega,by omega,hf⟩
   rw[Bool.not_eq_false] at this
   rw[this,decide_eq_true (by omega)];rfl
theorem ZgU:∀ {l m:List Int},l.Pairwise (· < ·)→m.Pairwise (· < ·)→(∀x,x∈l↔x∈m)→l=m
 | [],[],_,_,_=>rfl
 | [],b :: m,_,_,h=>by have:=(h b).2 (by simp);simp at this
 | a :: l,[],_,_,h=>by have:=(h a).1 (by simp);simp at this
 | a :: l,b :: m,hl,hm,h=>by
  rw[List.pairwise_cons] at hl hm
  have hab:a=b:=by
   have h1:=(h a).1 (by simp)
   have h2:=(h b).2 (by simp)
   rcases List.mem_cons.1 h1 with h1 | h1
   ·exact h1
   ·rcases List.mem_cons.1 h2 with h2 | h2
    ·exact h2.symm
    ·have:=hm.1 a h1;have:=hl.1 b h2;omega
  subst hab
  rw[ZgU hl.2 hm.2 fun x=>⟨fun hx=>?_,fun hx=>?_⟩]
  ·have:=hl.1 x hx
   rcases List.mem_cons.1 ((h x).1 (List.mem_cons_of_mem _ hx)) with e | e
   ·omega
   ·exact e
  ·have:=hm.1 x hx
   rcases List.mem_cons.1 ((h x).2 (List.mem_cons_of_mem _ hx)) with e | e
   ·omega
   ·exact e
def listOf (n:Nat) (M:Nat→Bool):List Int:=((List.range n).filter M).map Int.ofNat
theorem Zjw {x:Int} :x∈listOf n M↔∃i:Nat,i < n∧M i=true∧x=(i:Int):=by
 unfold listOf
 simp only[List.mem_map,List.mem_filter,List.mem_range]
 constructor
 ·rintro ⟨i,⟨h1,h2⟩,rfl⟩;exact ⟨i,h1,h2,rfl⟩
 ·rintro ⟨i,h1,h2,rfl⟩;exact ⟨i,⟨h1,h2⟩,rfl⟩
theorem Zht:(listOf n M).Pairwise (· < ·):=by
 unfold listOf
 rw[List.pairwise_map]
 refine (List.Pairwise.filter M List.pairwise_lt_range).imp fun {a b} h=>?_
 show (a:Int) < (b:Int)
 omega
theorem SetOK.list (h:SetOK s n M) (hn:n < 4611686018427387904):listS s=listOf n M:=by
 have hkey:∀k∈s.2.map Prod.fst,∃k':Nat,k=(k':Int)∧k'*64 < n:=fun k hk=>by
  obtain ⟨p,hp,rfl⟩:=List.mem_map.1 hk
  obtain ⟨k',w,e,h1,_⟩:=h.words p hp
  exact ⟨k',by rw[e],h1⟩
 have hwl:∀k:Nat,k*64 < n→∀x,x∈wordList s.2 (k:Int) 0 64↔∃j:Nat,j < 64∧M (k*64+j)=true∧x=((k*64+j:Nat):Int):=fun k hk x=>by
  obtain ⟨w,hw,hlt⟩:=h.word k
  unfold wordList
  rw[hw]
  simp only[List.mem_map,List.mem_filter,List.mem_range'_1]
  have hnum:∀j:Nat,j < 64→numE (k:Int) (j:Int)=((k*64+j:Nat):Int):=fun j hj=>by
   unfold numE
   rw[wrap_i64 (n:=(k:Int)*64) (by omega) (by omega),wrap_i64 (by omega) (by omega)]
   omega
  have hbit:∀j:Nat,j < 64→bitE (w:Int) (j:Int)=M (k*64+j):=fun j hj=>by
   rw[ZiA hlt hj]
   have:=h.bits k j hj
   rwa[hw,Int.toNat_natCast] at this
  constructor
  ·rintro ⟨j,⟨hj,hb⟩,rfl⟩
   exact ⟨j,by omega,by rw[←hbit j (by omega)];exact hb,hnum j (by omega)⟩
  ·rintro ⟨j,hj,hb,rfl⟩
   exact ⟨j,⟨by omega,by rw[hbit j hj];exact hb⟩,hnum j hj⟩
 have hmem:∀ {k:Int},k∈(s.2.map Prod.fst).mergeSort (fun x y=>decide (x≤y))↔k∈s.2.map Prod.fst:=List.mem_mergeSort
 have tr:∀a b c:Int,decide (a≤b)=true→decide (b≤c)=true→decide (a≤c)=true:=fun a b c h1 h2=>by simp at*;omega
 have to:∀a b:Int,(decide (a≤b) || decide (b≤a))=true:=fun a b=>by simp;omega
 have hs1:=List.pairwise_mergeSort tr to (s.2.map Prod.fst)
 have hs2:((s.2.map Prod.fst).mergeSort (fun x y=>decide (x≤y))).Nodup:=(List.mergeSort_perm _ _).nodup_iff.2 h.nodup
 have hst:((s.2.map Prod.fst).mergeSort (fun x y=>decide (x≤y))).Pairwise (· < ·):=(hs1.and hs2).imp fun {a b} h=>by
  have h1:=h.1;have h2:=h.2;simp at h1;omega
 refine ZgU ?_ Zht fun x=>?_
 ·unfold listS listAt
  rw[List.pairwise_flatMap]
  refine ⟨fun k hk=>?_,?_⟩
  ·obtain ⟨k',rfl,hk'⟩:=hkey k (hmem.1 hk)
   unfold wordList
   rw[List.pairwise_map]
   have hp:((List.range' 0 64).filter fun i=>bitE (wordAt s.2 (k':Int)) (i:Nat)).Pairwise (· < ·):=List.Pairwise.filter _ (List.pairwise_lt_range' (step:=1) (s:=0) (n:=64) (by omega))
   refine (List.Pairwise.and_mem.1 hp).imp fun {a b} h=>?_
   obtain ⟨ha,hb,hab⟩:=h
   have ha':=(List.mem_range'_1.1 (List.mem_filter.1 ha).1)
   have hb':=(List.mem_range'_1.1 (List.mem_filter.1 hb).1)
   unfold numE
   rw[wrap_i64 (n:=(k':Int)*64) (by omega) (by omega),wrap_i64 (by omega) (by omega),wrap_i64 (by omega) (by omega)]
   omega
  ·refine (List.Pairwise.and_mem.1 hst).imp fun {a b} hab=>?_
   obtain ⟨ha,hb,hlt⟩:=hab
   obtain ⟨a',rfl,ha'⟩:=hkey a (hmem.1 ha)
   obtain ⟨b',rfl,hb'⟩:=hkey b (hmem.1 hb)
   intro x hx y hy
   obtain ⟨j,hj,_,rfl⟩:=(hwl a' ha' x).1 hx
   obtain ⟨j',hj',_,rfl⟩:=(hwl b' hb' y).1 hy
   omega
 ·unfold listS listAt
  rw[Zjw,List.mem_flatMap]
  constructor
  ·rintro ⟨k,hk,hx⟩
   obtain ⟨k',rfl,hk'⟩:=hkey k (hmem.1 hk)
   obtain ⟨j,hj,hM,rfl⟩:=(hwl k' hk' x).1 hx
   exact ⟨_,h.lt _ hM,hM,rfl⟩
  ·rintro ⟨i,hi,hM,rfl⟩
   have hb:=h.bits (i / 64) (i % 64) (Nat.mod_lt _ (by decide))
   rw[Nat.div_add_mod' i 64,hM] at hb
   refine ⟨((i / 64:Nat):Int),hmem.2 ?_,(hwl (i / 64) (by omega) _).2 ⟨i % 64,Nat.mod_lt _ (by decide),by rw[Nat.div_add_mod' i 64];exact hM,by rw[Nat.div_add_mod' i 64]⟩⟩
   unfold wordAt at hb
   cases hg:mget (kt:=.int .i64) ((i / 64:Nat):Int) s.2 with
   | none=>rw[hg] at hb;simp at hb
   | some v=>exact List.mem_map.2 ⟨_,Zdh hg,rfl⟩
theorem SetOK.few (h:SetOK s n M):s.2.length≤(n+63) / 64:=by
 have tr:∀a b c:Int,decide (a≤b)=true→decide (b≤c)=true→decide (a≤c)=true:=fun a b c h1 h2=>by simp at*;omega
 have to:∀a b:Int,(decide (a≤b) || decide (b≤a))=true:=fun a b=>by simp;omega
 have hs1:=List.pairwise_mergeSort tr to (s.2.map Prod.fst)
 have hs2:((s.2.map Prod.fst).mergeSort (fun x y=>decide (x≤y))).Nodup:=(List.mergeSort_perm _ _).nodup_iff.2 h.nodup
 have hst:((s.2.map Prod.fst).mergeSort (fun x y=>decide (x≤y))).Pairwise (· < ·):=(hs1.and hs2).imp fun {a b} h=>by
  have h1:=h.1;have h2:=h.2;simp at h1;omega
 have:=ZgO (a:=0) (b:=(((n+63) / 64:Nat):Int)) hst (fun x hx=>by
  obtain ⟨p,hp,rfl⟩:=List.mem_map.1 (List.mem_mergeSort.1 hx)
  obtain ⟨k',w,e,h1,_⟩:=h.words p hp
  rw[e]
  exact ⟨by simp,by simp;omega⟩) (by omega)
 simp at this
 omega
end Go.Ev
end

section
open Go
namespace Go.Ev
def onesI (x:Int):Int:=
 let x1:=IntKind.u64.wrap (bitAnd IntKind.u64 (Int.fdiv x (2 ^ (min 1 (IntKind.u64).bits))) 6148914691236517205+bitAnd IntKind.u64 x 6148914691236517205)
 let x2:=IntKind.u64.wrap (bitAnd IntKind.u64 (Int.fdiv x1 (2 ^ (min 2 (IntKind.u64).bits))) 3689348814741910323+bitAnd IntKind.u64 x1 3689348814741910323)
 let x3:=bitAnd IntKind.u64 (IntKind.u64.wrap (Int.fdiv x2 (2 ^ (min 4 (IntKind.u64).bits))+x2)) 1085102592571150095
 let x4:=IntKind.u64.wrap (x3+Int.fdiv x3 (2 ^ (min 8 (IntKind.u64).bits)))
 let x5:=IntKind.u64.wrap (x4+Int.fdiv x4 (2 ^ (min 16 (IntKind.u64).bits)))
 let x6:=IntKind.u64.wrap (x5+Int.fdiv x5 (2 ^ (min 32 (IntKind.u64).bits)))
 bitAnd IntKind.i64 (IntKind.i64.wrap x6) 127
theorem Zjn (x:Int):Zh x=onesI x:=by
 unfold Zh onesI
 rfl
theorem Zfn (x s:Nat) (h:s≤64):Int.fdiv (x:Int) (2 ^ (min s (IntKind.u64).bits))=((x >>> s:Nat):Int):=by
 rw[show min s (IntKind.u64).bits=s from Nat.min_eq_left h,ZdY,Int.fdiv_eq_ediv_of_nonneg _ (Int.natCast_nonneg _),←Int.natCast_ediv,Nat.shiftRight_eq_div_pow]
theorem ZiU (x s:Nat):x >>> s≤x:=by rw[Nat.shiftRight_eq_div_pow];exact Nat.div_le_self _ _
theorem Zjr {a:Nat} (ha:a < 2 ^ 63):bitAnd IntKind.i64 (a:Int) 127=((a % 128:Nat):Int):=by
 unfold bitAnd
 show IntKind.i64.wrap (((BitVec.ofInt 64 (a:Int) &&& BitVec.ofInt 64 ((127:Nat):Int)).toNat:Nat):Int)=_
 rw[ofIntU,ofIntU,BitVec.toNat_and,BitVec.toNat_ofNat,BitVec.toNat_ofNat,Nat.mod_eq_of_lt (show a < 2 ^ 64 by omega),Nat.mod_eq_of_lt (by decide),show (127:Nat)=2 ^ 7 - 1 from rfl,Nat.and_two_pow_sub_one_eq_mod]
 rw[wrap_i64 (by omega) (by omega)]
theorem Zhp (s c x:Nat) (hc:2*c < 2 ^ 64):Pop.st s c x < 2 ^ 64:=by
 unfold Pop.st
 have h1:(x >>> s) &&& c≤c:=Nat.and_le_right
 have h2:x &&& c≤c:=Nat.and_le_right
 omega
theorem Zk5 {s c x:Nat} (hx:x < 2 ^ 64) (hs:s≤64) (hc:2*c < 2 ^ 64):IntKind.u64.wrap (bitAnd IntKind.u64 (Int.fdiv (x:Int) (2 ^ (min s (IntKind.u64).bits))) (c:Int)+bitAnd IntKind.u64 (x:Int) (c:Int))=((Pop.st s c x:Nat):Int):=by
 have:=ZiU x s
 have h3:=Zhp s c x hc
 rw[Zfn _ _ hs,ZeF (by omega) (by omega),ZeF hx (by omega),←Int.natCast_add]
 exact ZdG h3
theorem Zkf {x s:Nat} (hs:s≤64) (h:x+x >>> s < 2 ^ 64):IntKind.u64.wrap ((x:Int)+Int.fdiv (x:Int) (2 ^ (min s (IntKind.u64).bits)))=((x+x >>> s:Nat):Int):=by
 rw[Zfn _ _ hs,←Int.natCast_add,ZdG h]
theorem Zld {x:Nat} (hx:x < 2 ^ 64):Zh (x:Int)=((Pop.popN x:Nat):Int):=by
 rw[Zjn,←Pop.pop_eq hx]
 unfold onesI
 have e1:=Zk5 (s:=1) (c:=6148914691236517205) hx (by decide) (by decide)
 have l1:=Zhp 1 6148914691236517205 x (by decide)
 have e2:=Zk5 (s:=2) (c:=3689348814741910323) l1 (by decide) (by decide)
 have l2:=Zhp 2 3689348814741910323 (Pop.st 1 6148914691236517205 x) (by decide)
 simp only
 rw[show ((6148914691236517205:Nat):Int)=6148914691236517205 from rfl] at e1
 rw[show ((3689348814741910323:Nat):Int)=3689348814741910323 from rfl] at e2
 rw[e1,e2]
 have hy:Pop.st 2 3689348814741910323 (Pop.st 1 6148914691236517205 x)≤3689348814741910323+3689348814741910323:=by
  unfold Pop.st
  exact Nat.add_le_add Nat.and_le_right Nat.and_le_right
 have hr0:Pop.three x=Pop.st3 1085102592571150095 (Pop.st 2 3689348814741910323 (Pop.st 1 6148914691236517205 x)):=rfl
 generalize Pop.st 2 3689348814741910323 (Pop.st 1 6148914691236517205 x)=y at*
 have hsy:=ZiU y 4
 have hy16:y >>> 4≤y / 16:=by rw[Nat.shiftRight_eq_div_pow];exact Nat.le_refl _
 have e3:bitAnd IntKind.u64 (IntKind.u64.wrap (Int.fdiv (y:Int) (2 ^ (min 4 (IntKind.u64).bits))+(y:Int))) 1085102592571150095=((Pop.three x:Nat):Int):=by
  rw[Zfn _ _ (by decide),←Int.natCast_add,ZdG (by omega),show (1085102592571150095:Int)=((1085102592571150095:Nat):Int) from rfl,ZeF (by omega) (by decide),hr0]
  rfl
 rw[e3]
 have hz:Pop.three x≤1085102592571150095:=by rw[hr0];unfold Pop.st3;exact Nat.and_le_right
 generalize Pop.three x=z at*
 have s1:z >>> 8≤z / 256:=by rw[Nat.shiftRight_eq_div_pow];exact Nat.le_refl _
 have f1:(z+z >>> 8) >>> 16≤(z+z >>> 8) / 65536:=by rw[Nat.shiftRight_eq_div_pow];exact Nat.le_refl _
 have g1:(z+z >>> 8+(z+z >>> 8) >>> 16) >>> 32≤(z+z >>> 8+(z+z >>> 8) >>> 16) / 4294967296:=by rw[Nat.shiftRight_eq_div_pow];exact Nat.le_refl _
 rw[Zkf (by decide) (by omega),Zkf (by decide) (by omega),Zkf (by decide) (by omega),wrap_i64 (by omega) (by omega),Zjr (by omega)]
 rfl
theorem ZgC {m:List (Int×Int)} {k:Int} {w:Nat} (hw:wordAt m k=(w:Int)) (hl:w < 2 ^ 64):(wordList m k 0 64).length=Pop.popN w:=by
 unfold wordList Pop.popN
 rw[List.length_map,←List.countP_eq_length_filter,List.range_eq_range']
 refine List.countP_congr fun i hi=>?_
 have:i < 64:=by simpa using hi
 rw[hw,ZiA hl this]
theorem SetOK.count {s:Int×List (Int×Int)} {n:Nat} {M:Nat→Bool} (h:SetOK s n M) (hn:n < 1000000000):cntF s.2=((listOf n M).length:Int):=by
 rw[←h.list (by omega)]
 have e1:((listS s).length:Int)=(s.2.map fun e=>Zh e.2).sum:=by
  have key:∀(keys:List Int),(((listAt s.2 keys).length:Nat):Int)=(keys.map fun k=>((wordList s.2 k 0 64).length:Int)).sum:=fun keys=>by
   induction keys with
   | nil=>rfl
   | cons k r ih=>
    have:listAt s.2 (k :: r)=wordList s.2 k 0 64++listAt s.2 r:=by unfold listAt;rw[List.flatMap_cons]
    rw[this,List.length_append,Int.natCast_add,ih,List.map_cons,List.sum_cons]
  show (((listAt s.2 _).length:Nat):Int)=_
  rw[key,ZiW ((List.mergeSort_perm _ _).map _),List.map_map]
  congr 1
  refine List.map_congr_left fun p hp=>?_
  obtain ⟨k,w,rfl,_,hw⟩:=h.words p hp
  have hg:wordAt s.2 (k:Int)=(w:Int):=by
   unfold wordAt
   rw[ZfR (kt:=.int .i64) rfl h.nodup hp]
   rfl
  show ((wordList s.2 (k:Int) 0 64).length:Int)=Zh (w:Int)
  rw[ZgC hg hw,Zld hw]
 rw[ZiO,←e1]
 have hl:(listS s).length≤n:=by
  rw[h.list (by omega)]
  unfold listOf
  rw[List.length_map]
  exact Nat.le_trans (List.length_filter_le _ _) (by simp)
 exact wrap_i64 (by omega) (by omega)
end Go.Ev
end

section
namespace Go.Ev
open Go
theorem Zg3 {n m:Int} (h1:0 < m) (h2:m < 9223372036854775808):ZX n m=true∧0≤Zc n m∧Zc n m < m:=by
 have h0:(m==0)=false:=by simp;omega
 have hl:Int.tmod n m < m:=Int.tmod_lt_of_pos n h1
 have hg: -m < Int.tmod n m:=by have:=Int.tmod_lt_of_pos (-n) h1;rw[Int.neg_tmod] at this;omega
 unfold ZX Zc
 simp only[h0,cond_false,Bool.cond_self,true_and]
 by_cases hn:Int.tmod n m < 0
 ·simp only[hn,decide_true,cond_true]
  rw[wrap_i64 (by omega) (by omega)]
  omega
 ·simp only[hn,decide_false,cond_false]
  omega
end Go.Ev
end

section
open Go
namespace Go.Ev
structure SetRow (s:Int×List (Int×Int)) (n:Nat) (is:List Bool):Prop where
 len:is.length=n
 ok:SetOK s n fun j=>is.getD j false
theorem SetRow.new (n:Nat):SetRow ((n:Int),[]) n (List.replicate n false):=by
 refine ⟨by simp,?_⟩
 have:(fun j=>(List.replicate n false).getD j false)=fun _=>false:=by
  funext j
  rw[List.getD_eq_getElem?_getD,List.getElem?_replicate]
  split <;> rfl
 rw[this]
 exact SetOK.new n
variable {s:Int×List (Int×Int)} {n:Nat} {is:List Bool}
theorem SetRow.has (h:SetRow s n is) (hn:n < 1000000) (i:Int):hasS s i=(decide (0≤i∧i < (n:Int))&&is.getD i.toNat false):=by
 rw[h.ok.has (by omega)]
 by_cases h0:0≤i
 ·by_cases h1:i < (n:Int)
  ·rw[decide_eq_true h0,decide_eq_true ⟨h0,h1⟩]
  ·rw[decide_eq_true h0,decide_eq_false (fun h=>h1 h.2),List.getD_eq_getElem?_getD,List.getElem?_eq_none (by have:=h.len;omega)]
   rfl
 ·rw[decide_eq_false h0,decide_eq_false (fun h=>h0 h.1)]
theorem SetRow.out (h:SetRow s n is) (hn:n < 1000000) {i:Int} (hi:¬(0≤i∧i < (n:Int))):hasS s i=false∧putS s i=(false,s):=by
 refine ⟨by rw[h.has hn,decide_eq_false hi];rfl,h.ok.put_no (by omega) fun hh=>hi ⟨hh.1,hh.2.1⟩⟩
theorem SetRow.put (h:SetRow s n is) (hn:n < 1000000) {j:Nat} (hj:j < n):(putS s (j:Int)).1=(!is.getD j false)∧SetRow (putS s (j:Int)).2 n (is.set j true):=by
 have hl:=h.len
 have hset:∀k,(is.set j true).getD k false=(is.getD k false || (k==j)):=fun k=>by
  rw[List.getD_eq_getElem?_getD,List.getElem?_set,List.getD_eq_getElem?_getD]
  by_cases hk:j=k
  ·subst hk
   rw[if_pos rfl,if_pos (by omega)]
   simp
  ·rw[if_neg hk]
   have:(k==j)=false:=by simp;omega
   rw[this,Bool.or_false]
 cases hb:is.getD j false with
 | false=>
  obtain ⟨p1,p2⟩:=h.ok.put (by omega) hj hb
  refine ⟨by rw[p1];rfl,by simpa using hl,?_⟩
  rw[show (fun k=>(is.set j true).getD k false)=fun k=>is.getD k false || (k==j) from funext hset]
  exact p2
 | true=>
  have hno:=h.ok.put_no (by omega) (i:=(j:Int)) fun hh=>by rw[Int.toNat_natCast,hb] at hh;cases hh.2.2
  rw[hno]
  refine ⟨rfl,by simpa using hl,?_⟩
  rw[show (fun k=>(is.set j true).getD k false)=fun k=>is.getD k false from funext fun k=>by
   rw[hset k]
   by_cases hk:k=j
   ·subst hk;rw[hb];rfl
   ·have:(k==j)=false:=by simp;omega
    rw[this,Bool.or_false]]
  exact h.ok
theorem ZcZ:∀(is:List Bool) (k:Nat),listFrom k is=((List.range' k is.length).filter fun j=>is.getD (j - k) false).map Int.ofNat
 | [],k=>rfl
 | b :: r,k=>by
  unfold listFrom
  rw[ZcZ r (k+1),List.length_cons,List.range'_succ,List.filter_cons]
  have e:(List.range' (k+1) r.length).filter (fun j=>(b :: r).getD (j - k) false)=(List.range' (k+1) r.length).filter fun j=>r.getD (j - (k+1)) false:=by
   refine List.filter_congr fun j hj=>?_
   have:=List.mem_range'_1.1 hj
   rw[show j - k=(j - (k+1))+1 by omega]
   rfl
  rw[e,Nat.sub_self]
  show (if b then _ else _)=_
  cases b <;> simp
theorem SetRow.list (h:SetRow s n is) (hn:n < 1000000):listS s=listFrom 0 is:=by
 rw[h.ok.list (by omega),ZcZ,h.len]
 unfold listOf
 rw[List.range_eq_range']
 rfl
theorem SetRow.count (h:SetRow s n is) (hn:n < 1000000):cntF s.2=((listFrom 0 is).length:Int):=by
 rw[h.ok.count (by omega),←h.ok.list (by omega),h.list hn]
theorem SetRow.klist (h:SetRow s n is) (hn:n < 1000000):Zf s=true:=by
 have:=h.ok.few
 exact Nat.ble_eq_true_of_le (by unfold limit;omega)
theorem SetRow.same (h:SetRow s n is) (hn:n < 1000000):Za1 is=true∧Z3 (listFrom 0 is) (listFrom 0 is)=true∧ZO (listFrom 0 is) (listFrom 0 is)=true:=by
 have hl:(listFrom 0 is).length≤n:=by
  rw[ZcZ,List.length_map]
  have:=List.length_filter_le (fun j=>is.getD (j - 0) false) (List.range' 0 is.length)
  rw[List.length_range'] at this
  have:=h.len
  omega
 refine ⟨decide_eq_true (by have:=h.len;omega),decide_eq_true (by omega),decide_eq_true rfl⟩
theorem ZiD {n:Int} (h:0≤n):Zi n=(((n.toNat:Nat):Int),[]):=by
 unfold Zi
 show (maxI n 0,[])=_
 unfold maxI
 rw[Int.toNat_of_nonneg h]
 split
 ·have:n=0:=by omega
  rw[this]
 ·rfl
theorem alive19:Za6=true:=by
 have h0:=SetRow.new 70
 have hn:Zi 70=(((70:Nat):Int),[]):=ZiD (by decide)
 obtain ⟨p1,p2⟩:=h0.put (by decide) (j:=69) (by decide)
 have e1:∀x:Int×List (Int×Int),∀i,Zb x i=putS x i:=fun _ _=>rfl
 have e2:∀x:Int×List (Int×Int),∀i,Zj x i=(hasS x i,x):=fun _ _=>rfl
 have e3:∀x:Int×List (Int×Int),ZG x=(cntF x.2,x):=fun _=>rfl
 have q1:=(p2.put (by decide) (j:=69) (by decide)).1
 have q2:=(p2.put (by decide) (j:=69) (by decide)).2
 have c69:((69:Nat):Int)=69:=rfl
 rw[c69] at p1 p2 q1 q2
 obtain ⟨o1,o2⟩:=q2.out (by decide) (i:=70) (by decide)
 have hh:=q2.has (by decide) 69
 have hc:=q2.count (by decide)
 have hs:=q2.ok.size
 unfold Za6
 simp only[hn,e1,e2,e3,p1,q1,o2,hh,hc,hs]
 decide+kernel
end Go.Ev
end

section
open Go
namespace Go.Ev
theorem Zfu {n:Nat} (hn:n < 1000000):∀(L:List Int),(∀x∈L,(0:Int)≤x)→∀(more:Bool) (s:Int×List (Int×Int)) (is:List Bool),SetRow s n is→
  ∃is',SetRow (putAll more s L).2 n is'∧(∀j,j < n→is'.getD j false=(is.getD j false || L.contains (j:Int)))∧(putAll more s L).1=(more || L.any fun x=>decide (x < (n:Int))&& !is.getD x.toNat false)
 | [],_,more,s,is,h=>⟨is,h,fun j hj=>by simp,by simp[putAll]⟩
 | x :: r,hL,more,s,is,h=>by
  have hr:∀y∈r,(0:Int)≤y:=fun y hy=>hL y (by simp[hy])
  obtain ⟨k,rfl⟩:=Int.eq_ofNat_of_zero_le (hL x (by simp))
  unfold putAll
  by_cases hk:k < n
  ·obtain ⟨p1,p2⟩:=h.put hn hk
   obtain ⟨is',q1,q2,q3⟩:=Zfu hn r hr (more || (putS s (k:Int)).1) (putS s (k:Int)).2 (is.set k true) p2
   have hget:∀j,(is.set k true).getD j false=(is.getD j false || (j==k)):=fun j=>by
    rw[List.getD_eq_getElem?_getD,List.getElem?_set,List.getD_eq_getElem?_getD]
    by_cases e:k=j
    ·subst e
     rw[if_pos rfl,if_pos (by have:=h.len;omega)]
     simp
    ·rw[if_neg e]
     have:(j==k)=false:=by simp;omega
     rw[this,Bool.or_false]
   refine ⟨is',q1,fun j hj=>?_,?_⟩
   ·rw[q2 j hj,hget,List.contains_cons]
    have:((j:Int)==(k:Int))=(j==k):=by rw[Bool.eq_iff_iff];simp;omega
    rw[this,Bool.or_assoc]
   ·rw[q3,p1,List.any_cons,decide_eq_true (show (k:Int) < (n:Int) by omega),Bool.true_and,Int.toNat_natCast]
    cases hb:is.getD k false with
    | false=>simp
    | true=>
     have e:(r.any fun x=>decide (x < (n:Int))&& !(is.set k true).getD x.toNat false)=r.any fun x=>decide (x < (n:Int))&& !is.getD x.toNat false:=by
      congr 1
      funext y
      rw[hget]
      by_cases e:y.toNat=k
      ·rw[e,hb];simp
      ·have:(y.toNat==k)=false:=by simp;exact e
       rw[this,Bool.or_false]
     rw[e]
     simp
  ·obtain ⟨_,o2⟩:=h.out hn (i:=(k:Int)) (by omega)
   obtain ⟨is',q1,q2,q3⟩:=Zfu hn r hr more s is h
   rw[o2]
   refine ⟨is',by simpa using q1,fun j hj=>?_,?_⟩
   ·rw[q2 j hj,List.contains_cons]
    have:((j:Int)==(k:Int))=false:=by rw[beq_eq_false_iff_ne];omega
    rw[this,Bool.false_or]
   ·rw[List.any_cons,decide_eq_false (show ¬(k:Int) < (n:Int) by omega),Bool.false_and,Bool.false_or,Bool.or_false,q3]
def rowU (n:Nat) (is was:List Bool) (k:Nat):List Bool:=(List.range n).map fun j=>is.getD j false || (decide (j < k)&&was.getD j false)
def moreU (is was:List Bool) (k:Nat):Bool:=(List.range k).any fun j=>was.getD j false&& !is.getD j false
theorem ZcQ {n:Nat} {is was:List Bool} {k:Nat} :(rowU n is was k).length=n:=by simp[rowU]
theorem Zc0 {n:Nat} {is was:List Bool} {k j:Nat} (hj:j < n):(rowU n is was k).getD j false=(is.getD j false || (decide (j < k)&&was.getD j false)):=by
 rw[List.getD_eq_getElem?_getD]
 simp[rowU,List.getElem?_range hj]
theorem Zhq {n:Nat} {a b:List Bool} (ha:a.length=n) (hb:b.length=n) (h:∀j,j < n→a.getD j false=b.getD j false):a=b:=by
 refine List.ext_getElem (by omega) fun j h1 h2=>?_
 have:=h j (by omega)
 rw[ZcA h1,ZcA h2] at this
 exact this
theorem ZkE {n:Nat} {is was:List Bool} {k:Nat} (hk:k < n):(rowU n is was k).set k (is.getD k false || was.getD k false)=rowU n is was (k+1):=by
 refine Zhq (n:=n) (by rw[List.length_set,ZcQ]) ZcQ fun j hj=>?_
 rw[Zc0 hj,List.getD_eq_getElem?_getD,List.getElem?_set,ZcQ]
 by_cases e:k=j
 ·subst e
  rw[if_pos rfl,if_pos hk,decide_eq_true (show k < k+1 by omega)]
  simp
 ·rw[if_neg e,←List.getD_eq_getElem?_getD,Zc0 hj]
  have:decide (j < k+1)=decide (j < k):=by rw[Bool.eq_iff_iff];simp;omega
  rw[this]
theorem Zj3 {n:Nat} {is was:List Bool} (h:is.length=n):rowU n is was 0=is:=Zhq ZcQ h fun j hj=>by rw[Zc0 hj];simp
theorem Zjq {is was:List Bool} {k:Nat} :moreU is was (k+1)=(moreU is was k || (was.getD k false&& !is.getD k false)):=by
 unfold moreU
 rw[List.range_succ,List.any_append]
 simp
theorem Zg1 {was:List Bool} {j:Nat} :(listFrom 0 was).contains (j:Int)=was.getD j false:=by
 rw[Bool.eq_iff_iff,List.contains_iff_mem,Zcq,List.getD_eq_getElem?_getD]
 constructor
 ·rintro ⟨i,h1,h2⟩
  have:i=j:=by omega
  subst this
  rw[h1];rfl
 ·intro h
  refine ⟨j,?_,by omega⟩
  cases hg:was[j]? with
  | none=>rw[hg] at h;cases h
  | some b=>rw[hg] at h;rw[show b=true from h]
theorem Zji {n m:Nat} {is was:List Bool} (hw:was.length=m):((listFrom 0 was).any fun x=>decide (x < (n:Int))&& !is.getD x.toNat false)=moreU is was (min n m):=by
 rw[Bool.eq_iff_iff]
 unfold moreU
 rw[List.any_eq_true,List.any_eq_true]
 constructor
 ·rintro ⟨x,hx,h⟩
  rw[Bool.and_eq_true,decide_eq_true_eq] at h
  obtain ⟨i,h1,rfl⟩:=Zcq.1 hx
  have hi:=(List.getElem?_eq_some_iff.1 h1).1
  refine ⟨i,List.mem_range.2 (by omega),?_⟩
  rw[Bool.and_eq_true]
  refine ⟨by rw[List.getD_eq_getElem?_getD,h1];rfl,?_⟩
  have e:(((0+i:Nat):Int)).toNat=i:=by omega
  rw[e] at h
  exact h.2
 ·rintro ⟨i,hi,h⟩
  rw[Bool.and_eq_true] at h
  have hi:=List.mem_range.1 hi
  refine ⟨(i:Int),by rw[←List.contains_iff_mem,Zg1];exact h.1,?_⟩
  rw[Bool.and_eq_true,decide_eq_true_eq,Int.toNat_natCast]
  exact ⟨by omega,h.2⟩
section
variable {s o:Int×List (Int×Int)} {n m:Nat} {is was:List Bool} (h:SetRow s n is) (g:SetRow o m was) (hn:n < 1000000) (hm:m < 1000000)
include h g hn hm
theorem Zk7:SetRow (putAll false s (listS o)).2 n (rowU n is was (min n m))∧(putAll false s (listS o)).1=moreU is was (min n m):=by
 rw[g.list hm]
 obtain ⟨is',q1,q2,q3⟩:=Zfu hn (listFrom 0 was) (fun x hx=>by obtain ⟨i,_,rfl⟩:=Zcq.1 hx;omega) false s is h
 refine ⟨?_,by rw[q3,Bool.false_or];exact Zji g.len⟩
 have:is'=rowU n is was (min n m):=Zhq q1.len ZcQ fun j hj=>by
  rw[q2 j hj,Zc0 hj,Zg1]
  by_cases e:j < m
  ·rw[decide_eq_true (show j < min n m by omega),Bool.true_and]
  ·have:was.getD j false=false:=by rw[List.getD_eq_getElem?_getD,List.getElem?_eq_none (by have:=g.len;omega)];rfl
   rw[this,Bool.and_false]
 rw[←this]
 exact q1
theorem ZiT (hsub:∀j,j < n→was.getD j false=true→is.getD j false=true):SetRow (putAll false s (listS o)).2 n is∧(putAll false s (listS o)).1=false:=by
 obtain ⟨a,b⟩:=Zk7 h g hn hm
 have e:rowU n is was (min n m)=is:=Zhq ZcQ h.len fun j hj=>by
  rw[Zc0 hj]
  cases hw:was.getD j false with
  | false=>simp
  | true=>rw[hsub j hj hw];simp
 rw[e] at a
 refine ⟨a,?_⟩
 rw[b]
 unfold moreU
 rw[List.any_eq_false]
 intro j hj
 have hj:=List.mem_range.1 hj
 cases hw:was.getD j false with
 | false=>simp
 | true=>rw[hsub j (by omega) hw];simp
end
end Go.Ev
end

section
open Go
namespace Go.Ev
def Zcz (n:Int) (m:Int) (a:List Int) (b:List Int):Bool:=true
def ZdO (n:Int) (m:Int) (a:List Int) (b:List Int):Bool:=true
theorem Zgy (n:Int) (m:Int) (a:List Int) (b:List Int) (hk:ZdO n m a b=true):Goes (Zr n m a b) (ZbX n m a b) (Zcz n m a b):=by
 obtain ⟨k1,n0,n1⟩:=Zg3 (n:=n) (m:=150) (by decide) (by decide)
 obtain ⟨k2,m0,m1⟩:=Zg3 (n:=m) (m:=150) (by decide) (by decide)
 obtain ⟨T,hT⟩:∃T,T=Zr n m a b:=⟨_,rfl⟩
 unfold ZbX Zcz
 rw[←hT,Ze,if_pos k1,Ze,if_pos k2]
 obtain ⟨N,hN⟩:∃N,Zc n 150=N:=⟨_,rfl⟩
 obtain ⟨M,hM⟩:∃M,Zc m 150=M:=⟨_,rfl⟩
 rw[hN] at n0 n1
 rw[hM] at m0 m1
 obtain ⟨u,rfl⟩:=Int.eq_ofNat_of_zero_le n0
 obtain ⟨v,rfl⟩:=Int.eq_ofNat_of_zero_le m0
 have hu:u < 150:=by omega
 have hv:v < 150:=by omega
 have e1:∀x:Int×List (Int×Int),∀i,Zb x i=putS x i:=fun _ _=>rfl
 have e4:∀x:Int×List (Int×Int),Za x=(listS x,x):=fun _=>rfl
 have e5:∀is,ZJ is=listFrom 0 is:=fun _=>rfl
 have e6:∀s o:Int×List (Int×Int),Zd s o=((putAll false s (listS o)).1,(putAll false s (listS o)).2,o):=fun _ _=>rfl
 have e7:∀s:Int×List (Int×Int),Zs s ()=(false,s):=fun _=>rfl
 have e8:∀s:Int×List (Int×Int),Zy s ()=putAll false s (listS s):=fun _=>rfl
 have fin:∀(s o:Int×List (Int×Int)) (is0 was:List Bool),SetRow s u is0→SetRow o v was→∀i:Int,
   Goes T (.jmp (.l26 false s.1 (rowU u is0 was (min u v)) s.2 o.1 was o.2 (moreU is0 was (min u v)) i)) true:=by
  intro s o is0 was hs ho i
  obtain ⟨r1,r2⟩:=Zk7 hs ho (by omega) (by omega)
  obtain ⟨F,hF⟩:∃F,rowU u is0 was (min u v)=F:=⟨_,rfl⟩
  obtain ⟨s',hs'⟩:∃s',(putAll false s (listS o)).2=s':=⟨_,rfl⟩
  rw[hs',hF] at r1
  have hsub:∀j,j < u→was.getD j false=true→F.getD j false=true:=fun j hj hw=>by
   rw[←hF,Zc0 hj,hw]
   by_cases e:j < v
   ·rw[decide_eq_true (show j < min u v by omega)];simp
   ·rw[List.getD_eq_getElem?_getD,List.getElem?_eq_none (by have:=ho.len;omega)] at hw
    cases hw
  obtain ⟨t1,t2⟩:=ZiT r1 ho (by omega) (by omega) hsub
  obtain ⟨s2,hs2⟩:∃s2,(putAll false s' (listS o)).2=s2:=⟨_,rfl⟩
  rw[hs2] at t1
  obtain ⟨w1,w2⟩:=ZiT t1 t1 (by omega) (by omega) fun j _ h=>h
  obtain ⟨s3,hs3⟩:∃s3,(putAll false s2 (listS s2)).2=s3:=⟨_,rfl⟩
  rw[hs3] at w1
  obtain ⟨a1,a2,a3⟩:=r1.same (by omega)
  obtain ⟨b1,b2,b3⟩:=ho.same (by omega)
  have l1:=r1.list (by omega)
  have l2:=ho.list (by omega)
  have l3:=w1.list (by omega)
  have c1:Zaa (s.1,s.2) (o.1,o.2)=true:=ho.klist (by omega)
  have c2:Zaa s' o=true:=ho.klist (by omega)
  have c3:ZbZ s2 ()=true:=t1.klist (by omega)
  rw[Zz,hT,Zr,←hT,Ze,if_neg (by decide),Ze,if_pos c1]
  simp only[e6,e4,e5,e7,e8]
  rw[hs',r2,hF,Ze,if_pos (beq_self_eq_true _),Ze,if_pos (r1.klist (by omega)),Ze,if_pos a1,l1,Ze,if_pos a2,Ze,if_pos a3,Ze,if_pos (show Zf (o.1,o.2)=true from ho.klist (by omega)),Ze,if_pos b1]
  rw[show listS (o.1,o.2)=listFrom 0 was from l2,Ze,if_pos b2,Ze,if_pos b3,Ze,if_pos (show Zaa s' (o.1,o.2)=true from c2)]
  have hl2:listFrom 0 was=listS o:=l2.symm
  rw[hl2,t2,hs2,Ze,if_pos (by decide),Ze,if_pos (by decide),Ze,if_pos c3,w2,hs3,Ze,if_pos (by decide),Ze,if_pos (w1.klist (by omega)),Ze,if_pos a1,l3,Ze,if_pos a2,Ze,if_pos a3,alive19]
  exact .leaf
 have third:∀(s o:Int×List (Int×Int)) (is0 was:List Bool),SetRow s u is0→SetRow o v was→∀k,k≤min u v→
   Goes T (.jmp (.l24 s.1 (rowU u is0 was k) s.2 o.1 was o.2 (moreU is0 was k) (k:Int))) true:=by
  intro s o is0 was hs ho
  refine down ?_ fun k hk ih=>?_
  ·rw[Zz,hT,Zr,←hT,Ze,hN,hM]
   by_cases c:((min u v:Nat):Int) < (u:Int)
   ·rw[if_pos (decide_eq_true c),decide_eq_false (show ¬((min u v:Nat):Int) < (v:Int) by omega)]
    exact fin s o is0 was hs ho _
   ·rw[if_neg (by rw[decide_eq_false c];decide)]
    exact fin s o is0 was hs ho _
  ·have hku:k < u:=by omega
   have hkv:k < v:=by omega
   have i1:(decide ((0:Int)≤(k:Int))&&decide ((k:Int) < Int.ofNat (rowU u is0 was k).length))=true:=ZaG (by rw[ZcQ];exact hku)
   have i2:(decide ((0:Int)≤(k:Int))&&decide ((k:Int) < Int.ofNat was.length))=true:=ZaG (by rw[ho.len];exact hkv)
   have d1:List.getD (rowU u is0 was k) k (dflt .bool)=is0.getD k false:=by
    show (rowU u is0 was k).getD k false=_
    rw[Zc0 hku,decide_eq_false (Nat.lt_irrefl _),Bool.false_and,Bool.or_false]
   have d2:List.getD was k (dflt .bool)=was.getD k false:=rfl
   have hset:=ZkE (is:=is0) (was:=was) hku
   have hmore:=Zjq (is:=is0) (was:=was) (k:=k)
   rw[Zz,hT,Zr,←hT,Ze,hN,hM,if_pos (decide_eq_true (show (k:Int) < (u:Int) by omega)),decide_eq_true (show (k:Int) < (v:Int) by omega),Zz,hT,Zr,←hT,Ze,if_pos rfl]
   simp only[Ze,i1,i2,Int.toNat_natCast,d1,d2,ZaO (k:=k) (by omega),if_true]
   cases hm1:moreU is0 was k <;> cases hw:was.getD k false <;> cases hi:is0.getD k false <;>
    (rw[hm1,hw,hi] at hmore;rw[hw,hi] at hset;rw[←hset,hmore] at ih;simpa using ih)
 have second:∀(s:Int×List (Int×Int)) (is0:List Bool),SetRow s u is0→∀k,k≤b.length→∀(o:Int×List (Int×Int)) (was:List Bool),SetRow o v was→
   Goes T (.jmp (.l16 s.1 is0 s.2 (k:Int) o.1 was o.2)) true:=by
  intro s is0 hs
  have out:∀(o:Int×List (Int×Int)) (was:List Bool),SetRow o v was→Goes T (.jmp (.l24 s.1 is0 s.2 o.1 was o.2 false (0:Int))) true:=fun o was ho=>by
   have:=third s o is0 was hs ho 0 (Nat.zero_le _)
   rw[Zj3 hs.len] at this
   exact this
  refine down ?_ fun k hk ih=>?_
  ·intro o was ho
   rw[Zz,hT,Zr,←hT,Ze,if_neg (by rw[Zbu (Nat.lt_irrefl _)];decide)]
   exact out o was ho
  ·intro o was ho
   rw[Zz,hT,Zr,←hT,Ze,if_pos (ZeD hk),Ze]
   by_cases c1:(k:Int) < 40
   ·rw[if_pos (decide_eq_true c1),Ze,hM]
    by_cases c2:(v:Int) > 0
    ·obtain ⟨q1,q2,q3⟩:=Zg3 (n:=b[k]) (m:=(v:Int)) (by omega) (by omega)
     rw[if_pos (decide_eq_true c2),Ze,if_pos (ZaG hk),Int.toNat_natCast,ZcA hk,Ze,if_pos q1,Ze,if_pos (ZaG hk),Ze,if_pos q1]
     obtain ⟨j,hj⟩:∃j:Nat,Zc b[k] (v:Int)=(j:Int):=⟨(Zc b[k] (v:Int)).toNat,by omega⟩
     rw[hj] at q3 ⊢
     have hjv:j < v:=by omega
     rw[Ze,if_pos (ZaG (by rw[ho.len];exact hjv)),Int.toNat_natCast,ZaO (by omega)]
     exact ih _ _ (ho.put (by omega) hjv).2
    ·rw[if_neg (by rw[decide_eq_false c2];decide)]
     exact out o was ho
   ·rw[if_neg (by rw[decide_eq_false c1];decide)]
    exact out o was ho
 have first:∀k,k≤a.length→∀(s:Int×List (Int×Int)) (is:List Bool),SetRow s u is→Goes T (.jmp (.l9 (k:Int) s.1 is s.2)) true:=by
  have out:∀(s:Int×List (Int×Int)) (is:List Bool),SetRow s u is→Goes T (.jmp (.l16 s.1 is s.2 (0:Int) (Zi (v:Int)).1 (List.replicate (Int.toNat (v:Int)) false) (Zi (v:Int)).2)) true:=fun s is hs=>by
   rw[ZiD (by omega),Int.toNat_natCast]
   exact second s is hs 0 (Nat.zero_le _) _ _ (SetRow.new v)
  refine down ?_ fun k hk ih=>?_
  ·intro s is hs
   rw[Zz,hT,Zr,←hT,hM,Ze,if_neg (by rw[Zbu (Nat.lt_irrefl _)];decide)]
   exact out s is hs
  ·intro s is hs
   rw[Zz,hT,Zr,←hT,hM,Ze,if_pos (ZeD hk),Ze]
   by_cases c1:(k:Int) < 40
   ·rw[if_pos (decide_eq_true c1),Ze,hN]
    by_cases c2:(u:Int) > 0
    ·obtain ⟨q1,q2,q3⟩:=Zg3 (n:=a[k]) (m:=(u:Int)) (by omega) (by omega)
     rw[if_pos (decide_eq_true c2),Ze,if_pos (ZaG hk),Int.toNat_natCast,ZcA hk,Ze,if_pos q1,Ze,if_pos (ZaG hk),Ze,if_pos q1]
     obtain ⟨j,hj⟩:∃j:Nat,Zc a[k] (u:Int)=(j:Int):=⟨(Zc a[k] (u:Int)).toNat,by omega⟩
     rw[hj] at q3 ⊢
     have hju:j < u:=by omega
     rw[Ze,if_pos (ZaG (by rw[hs.len];exact hju)),Int.toNat_natCast,ZaO (by omega)]
     exact ih _ _ (hs.put (by omega) hju).2
    ·rw[if_neg (by rw[decide_eq_false c2];decide)]
     exact out s is hs
   ·rw[if_neg (by rw[decide_eq_false c1];decide)]
    exact out s is hs
 have hmk:∀x:Nat,x < 150→((((x:Int)==(x:Int))&&(decide ((0:Int)≤(x:Int))))&&(decide (((x:Int)*(1:Int))≤(limit:Int))))=true:=fun x hx=>by
  rw[beq_self_eq_true,decide_eq_true (show (0:Int)≤(x:Int) by omega),Bool.true_and,Bool.true_and]
  refine decide_eq_true ?_
  show (x:Int)*1≤((35184372088832:Nat):Int)
  omega
 rw[hN,hM,Ze,if_pos (hmk u hu),Ze,if_pos (hmk v hv),ZiD (by omega),Int.toNat_natCast]
 exact first 0 (Nat.zero_le _) _ _ (SetRow.new u)
end Go.Ev
end

section
open Go Go.Ev
namespace Go.Ev
noncomputable section
theorem Zgs (n:Int) (m:Int) (a:List Int) (b:List Int) (hk:ZdO n m a b=true):CallOK Go.Proofs.Try.prog 3 (toForms Zn (n,m,a,b,())) (Zbx (Zcz n m a b),tps (toForms Zn (n,m,a,b,()))):=by
 obtain ⟨h1,h2⟩:=Zdc Zgn
 obtain ⟨n,hn⟩:=ZY (c:=Zbv) (K:=fun v=>(Zbx v,tps (toForms Zn (n,m,a,b,())))) (S:=ZT n m a b) (by kernel_rfl) (Zf0 n m a b) (Zgm n m a b) (Zgy n m a b hk)
 exact Zew (f:=3) (c:=Zbv) h1 h2 (by kernel_rfl) (by kernel_rfl) (by kernel_rfl) hn
end
end Go.Ev
end

section
namespace Go.Ev
open Go
theorem Zfj (a:Args Zn) (ha:smallArgs Zn a):CallOK Go.Proofs.Try.prog ZfC (toForms Zn a) (.d .bool true,tps (toForms Zn a)):=by
 obtain ⟨n,m,x,y,_⟩:=a
 exact Zgs n m x y rfl
end Go.Ev
end

/- Part of the proof of: A program that the book makes, with one thing of it changed and then another one, may be by the code exactly when it may be by the document: for every input the law answers true. -/
import Derived.Below
import Derived.Laws.BytesString
import Derived.Laws.OwnMore
import Derived.Laws.StructEq
import Derived.Lib.AppendZerosOnto
import Derived.Orders
import Derived.WalkKit
set_option maxRecDepth 100000
set_option linter.unusedSectionVars false
set_option linter.unusedVariables false
set_option linter.unusedSimpArgs false
section
namespace Go.Ev
open Go
inductive Ty where
 | int (k:IntKind) | bool | str | sl (t:Ty) | pr (a b:Ty) | un
 deriving DecidableEq,Repr
@[reducible] def El:Ty→Type
 |.int _=>Int
 |.bool=>Bool
 |.str=>ByteArray
 |.sl t=>List (El t)
 |.pr a b=>El a×El b
 |.un=>Unit
def dflt:(t:Ty)→El t
 |.int _=>(0:Int)
 |.bool=>false
 |.str=>ByteArray.empty
 |.sl _=>[]
 |.pr a b=>(dflt a,dflt b)
 |.un=>()
def Ty.cells:Ty→Nat
 |.pr a b=>a.cells+b.cells
 |.un=>0
 | _=>1
inductive DTy where
 | leaf (t:Ty) | ro (d:DTy) | pr (a b:DTy)
 deriving DecidableEq,Repr
@[reducible] def DTy.ty:DTy→Ty
 |.leaf t=>t
 |.ro d=>.sl d.ty
 |.pr a b=>.pr a.ty b.ty
abbrev Path:=List (Nat×Nat)
abbrev DRw:=(d:DTy)×List (El d.ty)
def roAt:(d:DTy)→El d.ty→Nat→Option DRw
 |.leaf _,_,_=>none
 |.ro d,l,k=>bif Nat.beq k 0 then some ⟨d,l⟩ else none
 |.pr a b,x,k=>bif Nat.blt k a.ty.cells then roAt a x.1 k else roAt b x.2 (k - a.ty.cells)
def rowAt (d:DTy) (l:List (El d.ty)):Path→Option DRw
 | []=>some ⟨d,l⟩
 | (i,k) :: r=>match roAt d (l.getD i (dflt d.ty)) k with
  | some q=>rowAt q.1 q.2 r
  | none=>none
def roSet:(d:DTy)→El d.ty→Nat→((d:DTy)→List (El d.ty)→Option (List (El d.ty)))→Option (El d.ty)
 |.leaf _,_,_,_=>none
 |.ro d,l,k,f=>bif Nat.beq k 0 then f d l else none
 |.pr a b,x,k,f=>bif Nat.blt k a.ty.cells then (roSet a x.1 k f).map fun y=>(y,x.2) else (roSet b x.2 (k - a.ty.cells) f).map fun y=>(x.1,y)
def rowSet (d:DTy) (l:List (El d.ty)):Path→((d:DTy)→List (El d.ty)→Option (List (El d.ty)))→Option (List (El d.ty))
 | [],f=>f d l
 | (i,k) :: r,f=>(roSet d (l.getD i (dflt d.ty)) k fun d' l'=>rowSet d' l' r f).map fun y=>l.set i y
abbrev Id:=Nat
inductive AV where
 | top
 | d (t:Ty) (v:El t) -- a cell of data
 | nil -- a nil slice
 | cst (v:Value) -- just this value
 | ag (cs:List AV) -- a struct or an array,cell by cell
 | tu (vs:List AV) -- several results
 | pt (id:Id) (ver off:Nat) -- the address of a cell of a box
 | pe (id:Id) (ver:Nat) (i j:Nat) -- the address of cell j of element i of a row of one's own
 | rp (t:Ty) (x:El t) (j:Nat) -- the address of cell j of an element of data
 | own (id:Id) (ver:Nat) (pre:Option Nat) -- a row of one's own;its first elements
 | mp (id:Id) (ver:Nat) -- a map of one's own
 | it (id:Id) (ver:Nat) -- an iterator
 | ifc (t:TypeId) (x:AV) -- an interface value
 | stp (id:Id) (ver:Nat) (i:Nat) -- the stamp of a map's entry
 | fn (f:FuncId) (cs:List AV) -- a function value,with what it captured
 | dn (id:Id) (ver:Nat) (p:Path) -- a row in rows of one's own
 | da (id:Id) (ver:Nat) (p:Path) (i j:Nat) -- the address of cell j of element i of such a row
 | bx (T:TypeId) (cs:List AV)
 | rw (E:TypeId) (t:Ty) (l:List (El t))
 | mv (kt vt:Ty) (l:List (El kt×El vt))
 | dw (E:TypeId) (d:DTy) (l:List (El d.ty))
inductive Obj where
 | box (T:TypeId) (cs:List AV) (tg:Option Nat)
 | row (E:TypeId) (t:Ty) (l:List (El t)) (lock:Bool)
 | map (kt vt:Ty) (l:List (El kt×El vt))
 | sit (s:ByteArray) (pos:Nat)
 | gone (tg:Option Nat)
 | deep (E:TypeId) (d:DTy) (l:List (El d.ty))
structure St where
 tm:List AV
 ob:List (Id×Nat×Obj)
def find (id:Id):List (Id×Nat×Obj)→Option (Nat×Obj)
 | []=>none
 | (x,p) :: r=>bif Nat.beq x id then some p else find id r
def ins (id:Id) (p:Nat×Obj):List (Id×Nat×Obj)→List (Id×Nat×Obj)
 | []=>[(id,p)]
 | (x,q) :: r=>bif Nat.beq x id then (id,p) :: r else bif Nat.ble id x then (id,p) :: (x,q) :: r else (x,q) :: ins id p r
def St.obj (st:St) (id:Id) (ver:Nat):Option Obj:=
 match find id st.ob with
 | some (v,o)=>bif Nat.beq v ver then some o else none
 | none=>none
def St.nextVer (st:St) (id:Id):Nat:=match find id st.ob with | some (v,_)=>v+1 | none=>0
def St.setOb (st:St) (id:Id) (ver:Nat) (o:Obj):St:= { st with ob:=ins id (ver,o) st.ob }
def St.put (st:St) (dst:Option Nat) (v:AV):St:=match dst with | some d=> { st with tm:=st.tm.set d v } | none=>st
def rootId (d:Nat):Id:=d+1
def childId (id:Id) (j:Nat):Id:=id*1024+(j+1)
abbrev Ans:=AV×List AV
abbrev M (α:Type):=(α→Option Ans)→Option Ans
@[inline] def M.pure {α:Type} (a:α):M α:=fun k=>k a
@[inline] def M.bind {α β:Type} (m:M α) (f:α→M β):M β:=fun k=>m fun a=>f a k
instance:Monad M where
 pure:=M.pure
 bind:=M.bind
def fail {α:Type} :M α:=fun _=>none
def branch (b:Bool):M Bool:=fun k=>bif b then k true else k false
def ofVal:Value→AV
 |.int k n=>.d (.int k) n
 |.bool b=>.d .bool b
 |.string s=>.d .str s
 |.slice none 0 0=>.nil
 | v=>.cst v
def St.ev (st:St):Operand→AV
 |.tmp t=>st.tm.getD t .top
 |.const v=>ofVal v
 |.global g=>.cst (.pointer (some ⟨g,0,none⟩))
 |.func f=>.cst (.func (.func f) #[] #[])
def toB:AV→M Bool
 |.d .bool b=>M.pure b
 | _=>fail
def toI:AV→M (IntKind×Int)
 |.d (.int k) n=>M.pure (k,n)
 | _=>fail
def mkI (n:Int):AV:=.d (.int .i64) n
def mkB (b:Bool):AV:=.d .bool b
def tyOf (P:Program):Nat→TypeId→Option Ty
 | 0,_=>none
 | n+1,t=>
  match P.underlying t with
  | some (.int k)=>some (.int k)
  | some .bool=>some .bool
  | some .string=>some .str
  | some (.slice e)=>(tyOf P n e).map .sl
  | some (.struct fs)=>tys (fs.toList.map fun f=>tyOf P n f.type)
  | some (.array m e)=>if m≤16 then tys (List.replicate m (tyOf P n e)) else none
  | _=>none
where
 tys:List (Option Ty)→Option Ty
  | []=>some .un
  | [t]=>t
  | t :: r=>t.bind fun a=>(tys r).map fun b=>.pr a b
def flat:(t:Ty)→El t→List AV
 |.int k,v=>[.d (.int k) v]
 |.bool,v=>[.d .bool v]
 |.str,v=>[.d .str v]
 |.sl t,v=>[.d (.sl t) v]
 |.pr a b,v=>flat a v.1++flat b v.2
 |.un,_=>[]
def pack:(t:Ty)→List AV→Option (El t×List AV)
 |.int k,.d (.int k') v :: r=>if k'=k then some (v,r) else none
 |.bool,.d .bool v :: r=>some (v,r)
 |.str,.d .str v :: r=>some (v,r)
 |.sl _,.nil :: r=>some ([],r)
 |.sl t,.d (.sl t') v :: r=>if h:t'=t then some (h▸v,r) else none
 |.pr a b,cs=>(pack a cs).bind fun (x,r)=>(pack b r).map fun (y,r')=>((x,y),r')
 |.un,cs=>some ((),cs)
 | _,_=>none
def packAll (t:Ty) (cs:List AV):Option (El t):=
 match pack t cs with
 | some (v,[])=>some v
 | _=>none
def packN (t:Ty):Nat→List AV→Option (List (El t))
 | 0,[]=>some []
 | n+1,cs=>(pack t cs).bind fun (x,r)=>(packN t n r).map fun xs=>x :: xs
 | _,_=>none
def szOf (P:Program) (t:TypeId):Option Nat:=(P.info? t).map (·.size)
def isAgg (P:Program) (t:TypeId):Option Bool:=
 match P.underlying t with
 | some (.struct _) | some (.array _ _)=>some true
 | some _=>some false
 | none=>none
def AV.one:AV→Bool
 |.d t _=>match t with |.pr _ _ |.un=>false | _=>true
 |.nil |.pt _ _ _ |.pe _ _ _ _ |.rp _ _ _ |.own _ _ _ |.mp _ _ |.it _ _ |.ifc _ _ |.dn _ _ _ |.da _ _ _ _ _=>true
 |.cst v=>match v with |.agg _ |.tuple _=>false | _=>true
 | _=>false
def AV.cells:AV→Option (List AV)
 |.ag cs=>some cs
 | x=>if x.one then some [x] else none
def zeroAV (P:Program) (t:TypeId):Option (List AV):=(((P.info? t).bind (·.zero))).map fun z=>z.cells.toList.map ofVal
def setRange (cs:List AV) (off:Nat) (vs:List AV):List AV:=cs.take off++(vs++cs.drop (off+vs.length))
def fillA (place:Nat→Option (Nat×Nat)):List AV→List (Nat×AV)→Option (List AV)
 | cs,[]=>some cs
 | cs,(i,v) :: r=>
  (place i).bind fun (off,size)=>v.cells.bind fun vs=>
   if vs.length≠size || off+vs.length > cs.length then none else fillA place (setRange cs off vs) r
def preL {α:Type} (pre:Option Nat) (l:List α):List α:=match pre with | none=>l | some n=>l.take n
def preN {α:Type} (pre:Option Nat) (l:List α):Int:=match pre with | none=>(l.length:Int) | some n=>(n:Int)
def toData (st:St):AV→Option (AV×List Id)
 |.own id ver pre=>match st.obj id ver with
  | some (.row _ t l _)=>some (.d (.sl t) (preL pre l),[id])
  | _=>none
 |.dn id ver p=>match st.obj id ver with
  | some (.deep _ d l)=>match rowAt d l p with
   | some q=>some (.d (.sl q.1.ty) q.2,[id])
   | none=>none
  | _=>none
 | x=>some (x,[])
def toDatas (st:St):List AV→Option (List AV×List Id)
 | []=>some ([],[])
 | x :: r=>(toData st x).bind fun (y,i)=>(toDatas st r).map fun (ys,is)=>(y :: ys,i++is)
def St.lock (st:St):List Id→St
 | []=>st
 | id :: r=>match find id st.ob with
  | some (v,.row E t l _)=>(st.setOb id v (.row E t l true)).lock r
  | some (v,.deep _ _ _)=>(st.setOb id v (.gone none)).lock r
  | some (v,.gone tg)=>(st.setOb id v (.gone tg)).lock r
  | _=>st.lock r
def fieldOff (P:Program) (s:TypeId) (j:Nat):Option (Nat×Nat):=
 match P.underlying s with
 | some (.struct fs)=>(fs[j]?).bind fun f=>(szOf P f.type).bind fun z=>if z=0 then none else some (f.offset,z)
 | _=>none
def flatD (id:Id) (ver:Nat) (p:Path) (i:Nat):(d:DTy)→El d.ty→Nat→List AV
 |.leaf t,x,_=>flat t x
 |.ro _,_,k=>[.dn id ver (p++[(i,k)])]
 |.pr a b,x,k=>flatD id ver p i a x.1 k++flatD id ver p i b x.2 (k+a.ty.cells)
def setD:(d:DTy)→El d.ty→Nat→List AV→Option (El d.ty)
 |.leaf t,x,j,vs=>packAll t (setRange (flat t x) j vs)
 |.ro _,_,_,_=>none
 |.pr a b,x,j,vs=>bif Nat.ble (j+vs.length) a.ty.cells then (setD a x.1 j vs).map fun y=>(y,x.2)
   else bif Nat.ble a.ty.cells j then (setD b x.2 (j - a.ty.cells) vs).map fun y=>(x.1,y) else none
def behind (st:St):AV→Option (List AV)
 |.pt id ver off=>match st.obj id ver with
  | some (.box _ cs _)=>some (cs.drop off)
  | _=>none
 |.pe id ver i j=>match st.obj id ver with
  | some (.row _ t l _)=>some ((flat t (l.getD i (dflt t))).drop j)
  | _=>none
 |.da id ver p i j=>match st.obj id ver with
  | some (.deep _ d l)=>match rowAt d l p with
   | some q=>some ((flatD id ver p i q.1 (q.2.getD i (dflt q.1.ty)) 0).drop j)
   | none=>none
  | _=>none
 |.rp t x j=>some ((flat t x).drop j)
 | _=>none
def caseNat (i:Int):Nat→M Nat
 | 0=>fail
 | n+1=>fun k=>bif i==(n:Int) then k n else caseNat i n k
def live (st:St):AV→Bool
 |.pt id ver _=>match st.obj id ver with | some (.box _ _ _)=>true | _=>false
 |.pe id ver _ _=>match st.obj id ver with | some (.row _ _ _ _)=>true | _=>false
 |.da id ver _ _ _=>match st.obj id ver with | some (.deep _ _ _)=>true | _=>false
 |.rp _ _ _=>true
 | _=>false
def addA (off:Nat):AV→AV
 |.pt id ver o=>.pt id ver (o+off)
 |.pe id ver i c=>.pe id ver i (c+off)
 |.da id ver p i c=>.da id ver p i (c+off)
 |.rp t x c=>.rp t x (c+off)
 | _=>.top
def okSize (P:Program) (e:TypeId) (t:Ty):Bool:=match szOf P e with | some z=>Nat.beq z t.cells | none=>false
def zeroOne (P:Program) (t:TypeId):Option AV:=
 match (P.info? t).bind (·.zero) with
 | some (.agg cs)=>some (.ag (cs.toList.map ofVal))
 | some v=>some (ofVal v)
 | none=>none
def leafUnder (P:Program) (K:TypeId) (kt:Ty):Bool:=
 match P.underlying K,kt with
 | some (.int k),.int k'=>decide (k=k')
 | some .string,.str | some .bool,.bool=>true
 | _,_=>false
def isOne:Operand→Bool
 |.const (.int .i64 n)=>n==1
 | _=>false
def isPop (lo:Operand) (hi:Option Operand) (pre:Option Nat) (lk:Bool):Bool:=isOne lo&&hi.isNone&&pre.isNone&& !lk
def cmpI (op:BinOp) (a b:Int):Option Bool:=
 match op with
 |.eql=>some (a==b)
 |.neq=>some (a !=b)
 |.lss=>some (decide (a < b))
 |.leq=>some (decide (a≤b))
 |.gtr=>some (decide (a > b))
 |.geq=>some (decide (a≥b))
 | _=>none
def bitI (op:BinOp) (k:IntKind) (a b:Int):Option Int:=
 let x:=BitVec.ofInt k.bits a
 let y:=BitVec.ofInt k.bits b
 match op with
 |.and=>some (k.wrap (x &&& y).toNat)
 |.or=>some (k.wrap (x ||| y).toNat)
 |.xor=>some (k.wrap (x ^^^ y).toNat)
 |.andNot=>some (k.wrap (x &&& ~~~y).toNat)
 | _=>none
def binI (op:BinOp) (k k':IntKind) (a b:Int):M AV:=
 match op with
 |.shl=>fun c=>bif decide (b < 0) then none else c (.d (.int k) (k.wrap (a*2 ^ (min b.toNat k.bits))))
 |.shr=>fun c=>bif decide (b < 0) then none else c (.d (.int k) (a.fdiv (2 ^ (min b.toNat k.bits))))
 |.add=>if k=k' then M.pure (.d (.int k) (k.wrap (a+b))) else fail
 |.sub=>if k=k' then M.pure (.d (.int k) (k.wrap (a - b))) else fail
 |.mul=>if k=k' then M.pure (.d (.int k) (k.wrap (a*b))) else fail
 |.quo=>if k=k' then (fun c=>bif b==0 then none else c (.d (.int k) (k.wrap (a.tdiv b)))) else fail
 |.rem=>if k=k' then (fun c=>bif b==0 then none else c (.d (.int k) (a.tmod b))) else fail
 |.and |.or |.xor |.andNot=>if k=k' then (match bitI op k a b with | some r=>M.pure (.d (.int k) r) | none=>fail) else fail
 | _=>if k=k' then (match cmpI op a b with | some r=>M.pure (mkB r) | none=>fail) else fail
def lessB:List UInt8→List UInt8→Bool:=Op.bytesLess
def binS (op:BinOp) (a b:ByteArray):M AV:=
 match op with
 |.add=>fun c=>bif decide (((a.size+b.size:Nat):Int) > 9223372036854775807) then none else c (.d .str (a++b))
 |.eql=>M.pure (mkB (a.data.toList==b.data.toList))
 |.neq=>M.pure (mkB (!(a.data.toList==b.data.toList)))
 |.lss=>M.pure (mkB (lessB a.data.toList b.data.toList))
 |.leq=>M.pure (mkB (lessB a.data.toList b.data.toList || a.data.toList==b.data.toList))
 |.gtr=>M.pure (mkB (!(lessB a.data.toList b.data.toList || a.data.toList==b.data.toList)))
 |.geq=>M.pure (mkB (!(lessB a.data.toList b.data.toList)))
 | _=>fail
def partA (P:Program) (t:TypeId) (cs:List AV) (off:Nat):Option AV:=
 (isAgg P t).bind fun g=>if g then (szOf P t).bind fun z=>if off+z≤cs.length then some (.ag ((cs.drop off).take z)) else none else cs[off]?
def eqT (P:Program):Nat→TypeId→AV→AV→Option Bool
 | 0,_,_,_=>none
 | n+1,t,x,y=>
  match P.underlying t,x,y with
  | some (.struct fs),.ag xs,.ag ys=>bif P.stoodInHeld t then none else eqFs P (eqT P n) xs ys fs.toList
  | some (.array m e),.ag xs,.ag ys=>bif Nat.ble m 16 then (szOf P e).bind fun z=>eqIs P (eqT P n) e z xs ys (List.range m) else none
  | some (.int _),.d (.int k) a,.d (.int k') b=>if k=k' then some (a==b) else none
  | some .bool,.d .bool a,.d .bool b=>some (a==b)
  | some .string,.d .str a,.d .str b=>some (a.data.toList==b.data.toList)
  | _,_,_=>none
where
 eqIs (P:Program) (eq:TypeId→AV→AV→Option Bool) (e:TypeId) (z:Nat) (xs ys:List AV):List Nat→Option Bool
  | []=>some true
  | i :: is=>(partA P e xs (i*z)).bind fun a=>(partA P e ys (i*z)).bind fun b=>
    (eq e a b).bind fun r=>match is with
     | []=>some r
     | _=>(eqIs P eq e z xs ys is).map fun s=>r&&s
 eqFs (P:Program) (eq:TypeId→AV→AV→Option Bool) (xs ys:List AV):List Field→Option Bool
  | []=>some true
  | f :: fs=>bif f.name== "_" then eqFs P eq xs ys fs else
   (partA P f.type xs f.offset).bind fun a=>(partA P f.type ys f.offset).bind fun b=>
    (eq f.type a b).bind fun r=>match fs with
     | []=>some r
     | _=>(eqFs P eq xs ys fs).map fun s=>r&&s
def isNil (P:Program) (t:TypeId) (st:St) (x y:AV):Option Bool:=
 match P.underlying t,x,y with
 | some (.pointer _),.cst (.pointer none),.cst (.pointer none)=>some true
 | some (.pointer _),.pt id ver off,.cst (.pointer none)=>bif liveBox st id ver then some false else none
 | some (.map _ _),.cst (.map none),.cst (.map none)=>some true
 | some (.map _ _),.mp id ver,.cst (.map none)=>match st.obj id ver with | some (.map _ _ _)=>some false | _=>none
 | some (.slice _),.nil,.nil=>some true
 | some (.interface _),.ifc _ _,.cst .nilIface=>some false
 | _,_,_=>none
where
 liveBox (st:St) (id:Id) (ver:Nat):Bool:=match st.obj id ver with | some (.box _ _ _)=>true | _=>false
def binA (P:Program) (st:St) (op:BinOp) (t:TypeId) (x y:AV):M AV:=
 match x,y with
 |.d (.int k) a,.d (.int k') b=>binI op k k' a b
 |.d .str a,.d .str b=>binS op a b
 |.d .bool a,.d .bool b=>match op,P.underlying t with
  |.eql,some .bool=>M.pure (mkB (a==b))
  |.neq,some .bool=>M.pure (mkB (!(a==b)))
  | _,_=>fail
 |.ag xs,.ag ys=>bif P.eqGuardType P.depth t then fail else match op,eqT P 20 t (.ag xs) (.ag ys) with
  |.eql,some r=>M.pure (mkB r)
  |.neq,some r=>M.pure (mkB (!r))
  | _,_=>fail
 | x,y=>match op,isNil P t st x y with
  |.eql,some r=>M.pure (mkB r)
  |.neq,some r=>M.pure (mkB (!r))
  | _,_=>fail
def unA (op:UnOp) (x:AV):M AV:=
 match op,x with
 |.not,.d .bool b=>M.pure (mkB (!b))
 |.neg,.d (.int k) n=>M.pure (.d (.int k) (k.wrap (0 - n)))
 | _,_=>fail
def lenA (st:St):AV→M AV
 |.d (.sl _) l=>M.pure (mkI l.length)
 |.d .str s=>M.pure (mkI s.size)
 |.nil=>M.pure (mkI 0)
 |.own id ver pre=>match st.obj id ver with
  | some (.row _ _ l _)=>M.pure (mkI (preN pre l))
  | _=>fail
 |.mp id ver=>match st.obj id ver with
  | some (.map _ _ l)=>M.pure (mkI l.length)
  | _=>fail
 |.dn id ver p=>match st.obj id ver with
  | some (.deep _ d l)=>match rowAt d l p with
   | some q=>M.pure (mkI q.2.length)
   | none=>fail
  | _=>fail
 | _=>fail
def lenTy (P:Program) (T:TypeId) (x:AV):Bool:=
 match P.underlying T,x with
 | some (.slice _),.d (.sl _) _ | some (.slice _),.nil | some (.slice _),.own _ _ _ | some (.slice _),.dn _ _ _=>true
 | some .string,.d .str _=>true
 | some (.map _ _),.mp _ _=>true
 | _,_=>false
def extra (st:St) (t:Ty):AV→Option (List (El t)×List Id)
 |.nil=>some ([],[])
 |.d (.sl t') l=>if h:t'=t then some (h▸l,[]) else none
 |.own id ver pre=>match st.obj id ver with
  | some (.row _ t' l _)=>if h:t'=t then some (h▸(preL pre l),[]) else none
  | _=>none
 | _=>none
def bytesText (l:List (El (.int .u8))):ByteArray:=List.foldl (fun (r:ByteArray) (n:Int)=>r.push (UInt8.ofNat n.toNat)) ByteArray.empty l
def elemOf (P:Program) (t:TypeId):Option (TypeId×Ty×Nat):=
 match P.underlying t with
 | some (.slice e)=>(tyOf P 20 e).bind fun ty=>(P.info? e).bind fun i=>i.zero.bind fun z=>if i.size=ty.cells∧0 < i.size∧z.cells.size=i.size∧0 < i.bytes then some (e,ty,i.bytes) else none
 | _=>none
def limit:Nat:=35184372088832 -- 2^45
def appendB (st:St) (d:Nat) (E:TypeId) (t:Ty) (bytes:Nat) (s:AV) (ys:List (El t)):M St:=
 match s with
 |.nil=>fun k=>bif Nat.ble (ys.length*bytes) limit then
    k ((st.setOb (rootId d) (st.nextVer (rootId d)) (.row E t ys false)).put (some d) (.own (rootId d) (st.nextVer (rootId d)) none))
   else none
 |.own id ver pre=>match st.obj id ver with
  | some (.row E' t' l false)=>if h:t'=t then
    if E'=E then
     let l0:List (El t):=h▸(preL pre l)
     (fun k=>bif Nat.ble ((l0.length+ys.length)*bytes) limit then
      k ((st.setOb id (ver+1) (.row E t (l0++ys) false)).put (some d) (.own id (ver+1) none))
     else none)
    else fail
   else fail
  | _=>fail
 | _=>fail
def appendA (P:Program) (st:St) (d:Nat) (T:TypeId) (s x:AV):M St:=
 match elemOf P T with
 | none=>fail
 | some (E,t,bytes)=>
  match extra st t x with
  | none=>fail
  | some (ys,_)=>appendB st d E t bytes s ys
def appendZ (P:Program) (st:St) (d:Nat) (T:TypeId) (s:AV) (n:Int):M St:=
 match elemOf P T with
 | none=>fail
 | some (E,t,bytes)=>match (zeroAV P E).bind (packAll t) with
  | none=>fail
  | some z=>fun k=>bif decide (0≤n)&&decide (n*bytes≤limit) then appendB st d E t bytes s (List.replicate n.toNat z) k else none
def keyEq:(t:Ty)→El t→El t→Bool
 |.int _,a,b=>(show Int from a)==b
 |.str,a,b=>(show ByteArray from a)==b
 |.bool,a,b=>(show Bool from a)==b
 | _,_,_=>false
def mget {kt:Ty} {V:Type} (k:El kt):List (El kt×V)→Option V
 | []=>none
 | (x,v) :: r=>bif keyEq kt k x then some v else mget k r
def mput {kt:Ty} {V:Type} (k:El kt) (v:V):List (El kt×V)→List (El kt×V)
 | []=>[(k,v)]
 | (x,u) :: r=>bif keyEq kt k x then (k,v) :: r else (x,u) :: mput k v r
def leafTy:Ty→Bool
 |.int _ |.bool |.str=>true
 | _=>false
def asKey (kt:Ty) (x:AV):Option (El kt):=if leafTy kt then packAll kt [x] else none
abbrev Cl:=FuncId→List AV→M Ans
def tySl:Ty→Bool
 |.sl _=>true
 |.pr a b=>tySl a || tySl b
 | _=>false
def hasSl:Nat→AV→Bool
 | 0,_=>true
 | n+1,x=>match x with
  |.d t _=>tySl t
  |.rw _ t _=>tySl t
  |.mv _ vt _=>tySl vt
  |.dw _ _ _=>true
  |.ag cs |.tu cs |.bx _ cs=>anyB (hasSl n) cs
  |.nil |.cst _ |.top=>false
  |.ifc _ x=>hasSl n x
  | _=>true
where
 anyB (f:AV→Bool):List AV→Bool
  | []=>false
  | x :: r=>f x || anyB f r
abbrev Given:=AV×List Id×List Id
def allG (g:AV→Option Given):List AV→Option (List AV×List Id×List Id)
 | []=>some ([],[],[])
 | x :: r=>(g x).bind fun (y,i,o)=>(allG g r).map fun (ys,is,os)=>(y :: ys,i++is,o++os)
def leafB:AV→Bool
 |.d _ _ |.nil |.cst _=>true
 | _=>false
def flatB:AV→Bool
 |.d _ _ |.nil |.cst _=>true
 |.ifc _ (.ag cs)=>cs.all leafB
 |.ifc _ x=>leafB x
 | _=>false
def give (st:St) (rows:Bool):Nat→AV→Option Given
 | 0,_=>none
 | n+1,x=>
  match x with
  |.pt id ver 0=>match st.obj id ver with
   | some (.box T cs _)=>(allG (give st true n) cs).map fun (vs,is,os)=>(.bx T vs,is,id :: os)
   | _=>none
  |.mp id ver=>match st.obj id ver with
   | some (.map kt vt l)=>some (.mv kt vt l,[],[id])
   | _=>none
  |.ag cs=>(allG (give st rows n) cs).map fun (vs,is,os)=>(.ag vs,is,os)
  |.tu cs=>(allG (give st rows n) cs).map fun (vs,is,os)=>(.tu vs,is,os)
  |.own id ver pre=>match st.obj id ver with
   | some (.row E t l lock)=>
    bif rows&& !lock then some (.rw E t (preL pre l),[],[id])
    else some (.d (.sl t) (preL pre l),[id],[])
   | _=>none
  |.dn id ver p=>match st.obj id ver with
   | some (.deep E d l)=>match p with
    | []=>bif rows then some (.dw E d l,[],[id]) else some (.d (.sl d.ty) l,[id],[])
    | i :: r=>bif rows then none else match rowAt d l (i :: r) with
     | some q=>some (.d (.sl q.1.ty) q.2,[id],[])
     | none=>none
   | _=>none
  | x=>bif flatB x then some (x,[],[]) else none
def impA (imp:St→Id→AV→Option (AV×St)) (st:St) (id:Id):Nat→List AV→Option (List AV×St)
 | _,[]=>some ([],st)
 | j,x :: r=>(imp st (childId id j) x).bind fun (y,st)=>(impA imp st id (j+1) r).map fun (ys,st)=>(y :: ys,st)
def imp:Nat→St→Id→AV→Option (AV×St)
 | 0,_,_,_=>none
 | n+1,st,id,x=>
  match x with
  |.bx T cs=>(impA (imp n) st id 0 cs).map fun (vs,st)=>(.pt id (st.nextVer id) 0,st.setOb id (st.nextVer id) (.box T vs none))
  |.rw E t l=>some (.own id (st.nextVer id) none,st.setOb id (st.nextVer id) (.row E t l false))
  |.mv kt vt l=>some (.mp id (st.nextVer id),st.setOb id (st.nextVer id) (.map kt vt l))
  |.dw E d l=>some (.dn id (st.nextVer id) [],st.setOb id (st.nextVer id) (.deep E d l))
  |.ag cs=>(impA (imp n) st id 0 cs).map fun (vs,st)=>(.ag vs,st)
  |.tu cs=>(impA (imp n) st id 0 cs).map fun (vs,st)=>(.tu vs,st)
  | x=>bif flatB x then some (x,st) else none
def Obj.tag:Obj→Option Nat
 |.box _ _ tg |.gone tg=>tg
 | _=>none
def dropIds:List Id→St→St
 | [],st=>st
 | id :: r,st=>match find id st.ob with
  | some (v,o)=>dropIds r (st.setOb id v (.gone o.tag))
  | none=>dropIds r st
def backA:St→List (AV×AV)→Option St
 | st,[]=>some st
 | st,(a,o) :: r=>
  match a,o with
  |.pt id ver 0,.bx T cs=>(impA (imp 6) st id 0 cs).bind fun (vs,st)=>match st.obj id ver with
   | some (.gone tg)=>backA (st.setOb id ver (.box T vs tg)) r
   | _=>none
  |.mp id ver,.mv kt vt l=>match st.obj id ver with
   | some (.gone _)=>backA (st.setOb id ver (.map kt vt l)) r
   | _=>none
  | _,.top=>backA st r
  | _,_=>none
def nodupB:List Id→Bool
 | []=>true
 | x :: r=>!(r.any (Nat.beq x))&&nodupB r
def apartB (is os:List Id):Bool:=os.all fun x=>!(is.any (Nat.beq x))
def takes (cl:Cl) (f:FuncId):Bool:=(cl f [.pt 0 0 0] fun _=>some (.top,[])).isSome
def callA (cl:Cl) (f:FuncId) (args:List AV) (dst:Option Nat) (st:St):M St:=
 match allG (give st (takes cl f) 6) args with
 | none=>fail
 | some (forms,is,os)=>
  bif nodupB os&&apartB is os then
   M.bind (cl f forms) fun (r,outs)=>
    match backA (dropIds os (bif hasSl 6 r || hasSl.anyB (hasSl 6) outs then st.lock is else st)) (args.zip outs) with
    | none=>fail
    | some st2=>match dst with
     | none=>M.pure st2
     | some d=>match imp 6 st2 (rootId d) r with
      | some (v,st3)=>M.pure (st3.put (some d) v)
      | none=>fail
  else fail
def same2:List AV→Option AV
 | [.pt i v 0,.pt j u 0]=>bif Nat.beq i j&&Nat.beq v u then some (.pt i v 0) else none
 | _=>none
def sameCl (cl:Cl):Cl:=fun f forms=>cl f (.pt 0 0 1 :: forms)
def callX (cl:Cl) (f:FuncId) (args:List AV) (dst:Option Nat) (st:St):M St:=match same2 args with
 | some x=>callA (sameCl cl) f [x] dst st
 | none=>callA cl f args dst st
def asArg (st:St):List Operand→List AV
 | []=>[]
 | x :: r=>st.ev x :: asArg st r
def boundI (i:Int) (n:Int):M Nat:=fun k=>bif decide (0≤i)&&decide (i < n) then k i.toNat else none
def upto (x:Option Operand) (st:St) (dfl:Int):M Int:=match x with | none=>M.pure dfl | some o=>M.bind (toI (st.ev o)) fun p=>M.pure p.2
def makeObj (st:St) (dst:Option Nat) (o:Obj) (ref:Id→Nat→AV):M St:=
 match dst with
 | some d=>M.pure ((st.setOb (rootId d) (st.nextVer (rootId d)) o).put (some d) (ref (rootId d) (st.nextVer (rootId d))))
 | none=>fail
def opA (P:Program) (cl:Cl) (o:Oper) (st:St):M St:=
 let pr:AV→M St:=fun v=>M.pure (st.put o.dst v)
 let prO:Option AV→M St:=fun v=>match v with | some v=>pr v | none=>fail
 match o.op with
 |.move x |.assign x=>pr (st.ev x)
 |.pick c a b=>M.bind (toB (st.ev c)) fun c=>M.bind (branch c) fun c=>match c with | true=>pr (st.ev a) | false=>pr (st.ev b)
 |.box T x=>match (st.ev x).cells with
  | some cs=>makeObj st o.dst (.box T cs none) fun id ver=>.pt id ver 0
  | none=>fail
 |.alloc T=>match zeroAV P T with
  | some cs=>makeObj st o.dst (.box T cs none) fun id ver=>.pt id ver 0
  | none=>fail
 |.build T parts=>match zeroAV P T,P.underlying T with
  | some z,some (.struct fs)=>bif !(fs.all fun f=>(szOf P f.type).isSome) then fail else prO ((fillA (fun i=>(fs[i]?).bind fun f=>(szOf P f.type).map fun s=>(f.offset,s)) z (parts.toList.map fun p=>(p.1,st.ev p.2))).map .ag)
  | some z,some (.array _ e)=>match szOf P e with
   | some s=>prO ((fillA (fun i=>some (i*s,s)) z (parts.toList.map fun p=>(p.1,st.ev p.2))).map .ag)
   | none=>fail
  | _,_=>fail
 |.buildSlice T len parts=>match elemOf P T with
  | none=>fail
  | some (E,t,_)=>match szOf P E,zeroAV P E with
   | some s,some z=>
    bif Nat.ble (len*s) 16777216 then
     match fillA (fun i=>some (i*s,s)) ((List.range (len*s)).map fun i=>z.getD (i % z.length) .top) (parts.toList.map fun p=>(p.1,st.ev p.2)) with
     | none=>fail
     | some cs=>match toDatas st cs with
      | none=>fail
      | some (cs,is)=>match packN t len cs with
       | none=>fail
       | some l=>makeObj (st.lock is) o.dst (.row E t l false) fun id ver=>.own id ver none
    else fail
   | _,_=>fail
 |.load T x=>match behind st (st.ev x),isAgg P T,szOf P T with
  | some cs,some true,some z=>bif Nat.ble z cs.length then pr (.ag (cs.take z)) else fail
  | some cs,some false,some _=>prO (cs[0]?)
  | _,_,_=>fail
 |.store T x v=>match (st.ev v).cells,szOf P T with
  | some vs,some z=>bif Nat.beq vs.length z&&vs.all AV.one then
    match st.ev x with
    |.pt id ver off=>match st.obj id ver with
     | some (.box T' cs tg)=>bif Nat.ble (off+z) cs.length then M.pure ((st.setOb id ver (.box T' (setRange cs off vs) tg)).put o.dst .top) else fail
     | _=>fail
    |.pe id ver i j=>match toDatas st vs with
     | none=>fail
     | some (vs,is)=>match (st.lock is).obj id ver with
      | some (.row E t l false)=>bif Nat.ble (j+z) (flat t (l.getD i (dflt t))).length&& !(is.any (Nat.beq id)) then
        match packAll t (setRange (flat t (l.getD i (dflt t))) j vs) with
        | some e=>M.pure (((st.lock is).setOb id ver (.row E t (l.set i e) false)).put o.dst .top)
        | none=>fail
       else fail
      | _=>fail
    |.da id ver p i j=>match toDatas st vs with
     | none=>fail
     | some (vs,is)=>match (st.lock is).obj id ver with
      | some (.deep E d l)=>match rowAt d l p with
       | some q=>bif Nat.ble (j+z) q.1.ty.cells&& !(is.any (Nat.beq id)) then
        match rowSet d l p (fun d' l'=>(setD d' (l'.getD i (dflt d'.ty)) j vs).map fun e=>l'.set i e) with
        | some l2=>M.pure (((st.lock is).setOb id ver (.deep E d l2)).put o.dst .top)
        | none=>fail
        else fail
       | none=>fail
      | _=>fail
    | _=>fail
   else fail
  | _,_=>fail
 |.nilCheck x=>bif live st (st.ev x) then pr (st.ev x) else fail
 |.binOp op T x y _=>M.bind (binA P st op T (st.ev x) (st.ev y)) pr
 |.unOp op _ x=>M.bind (unA op (st.ev x)) pr
 |.convert src dst x=>match P.underlying src,P.underlying dst,st.ev x with
  | some _,some (.int k),.d (.int _) n=>pr (.d (.int k) (k.wrap n))
  | some .string,some .string,.d .str s=>pr (.d .str s)
  | some (.slice e),some .string,x=>match P.underlying e with
   | some (.int .u8)=>match extra st (.int .u8) x with
    | some (l,_)=>pr (.d .str (bytesText l))
    | none=>fail
   | _=>fail
  | _,_,_=>fail
 |.makeInterface T x=>match P.underlying T,st.ev x with
  | some (.interface _),_=>fail
  | some _,.d t v=>pr (.ifc T (.d t v))
  | some _,.ag cs=>pr (.ifc T (.ag cs))
  | _,_=>fail
 |.makeFunc (.func f) first caps=>bif first.isEmpty then pr (.fn f (asArg st caps.toList)) else fail
 |.typeAssert x _ T ok=>match P.underlying T,st.ev x with
  | some (.interface _),_=>fail
  | none,_=>fail
  | some _,.ifc t v=>bif Nat.beq t T then pr (bif ok then .tu [v,mkB true] else v)
    else (bif ok then match zeroOne P T with
     | some z=>pr (.tu [z,mkB false])
     | _=>fail
    else fail)
  | _,_=>fail
 |.makeMap T none=>match P.underlying T with
  | some (.map K V)=>match tyOf P 20 K,tyOf P 20 V with
   | some kt,some vt=>bif leafTy kt&&leafTy vt then makeObj st o.dst (.map kt vt []) fun id ver=>.mp id ver else fail
   | _,_=>fail
  | _=>fail
 |.makeSlice T n c=>M.bind (toI (st.ev n)) fun (_,n)=>M.bind (toI (st.ev c)) fun (_,c)=>
  match elemOf P T with
  | none=>fail
  | some (E,t,bytes)=>match (zeroAV P E).bind (packAll t) with
   | none=>fail
   | some z=>fun k=>bif (n==c)&&decide (0≤n)&&decide (n*bytes≤limit) then makeObj st o.dst (.row E t (List.replicate n.toNat z) false) (fun id ver=>.own id ver none) k else none
 |.slice T x lo hi none=>match st.ev x,P.underlying T with
  |.d .str s,some .string=>M.bind (upto lo st 0) fun l=>M.bind (upto hi st s.size) fun h=>fun k=>
    bif decide (0≤h)&&decide (h≤s.size)&&decide (0≤l)&&decide (l≤h) then pr (.d .str (s.extract l.toNat h.toNat)) k else none
  |.d (.sl t) s,some (.slice e)=>bif okSize P e t then M.bind (upto lo st 0) fun l=>M.bind (upto hi st (List.length s)) fun h=>fun k=>
    bif decide (0≤h)&&decide (h≤(List.length s:Int))&&decide (0≤l)&&decide (l≤h) then pr (.d (.sl t) (List.drop l.toNat (List.take h.toNat s))) k else none
    else fail
  |.own id ver pre,some (.slice e)=>match st.obj id ver,lo with
   | some (.row _ t l _),none=>bif okSize P e t then M.bind (upto hi st (preN pre l)) fun h=>fun k=>
     bif decide (0≤h)&&decide (h≤preN pre l) then pr (.own id ver (some h.toNat)) k else none
     else fail
   | some (.row E t l lk),some lo=>bif okSize P e t then
     (bif isPop lo hi pre lk then (fun k=>bif Nat.ble 1 (List.length l) then ((M.pure ((st.setOb id (ver+1) (.row E t (l.drop 1) false)).put o.dst (.own id (ver+1) none)):M St) k) else none)
     else M.bind (upto (some lo) st 0) fun a=>M.bind (upto hi st (preN pre l)) fun h=>fun k=>
     bif decide (0≤h)&&decide (h≤preN pre l)&&decide (0≤a)&&decide (a≤h) then
      ((M.pure ((st.lock [id]).put o.dst (.d (.sl t) ((l.take h.toNat).drop a.toNat))):M St) k) else none)
     else fail
   | _,_=>fail
  | _,_=>fail
 |.fieldAddr S x j=>match fieldOff P S j with
  | none=>fail
  | some (off,_)=>bif live st (st.ev x) then pr (addA off (st.ev x)) else fail
 |.field T x j=>match P.underlying T,st.ev x with
  | some (.struct fs),.ag cs=>match fs[j]? with
   | some f=>prO (partA P f.type cs f.offset)
   | none=>fail
  | _,_=>fail
 |.indexAddr T x i=>M.bind (toI (st.ev i)) fun (_,i)=>
  match P.underlying T,st.ev x with
  | some (.slice e),.d (.sl t) l=>match szOf P e with
   | some z=>bif Nat.beq z t.cells then M.bind (boundI i l.length) fun n=>pr (.rp t (l.getD n (dflt t)) 0) else fail
   | none=>fail
  | some (.slice e),.own id ver pre=>match st.obj id ver,szOf P e with
   | some (.row _ t l _),some z=>bif Nat.beq z t.cells then M.bind (boundI i (preN pre l)) fun n=>pr (.pe id ver n 0) else fail
   | _,_=>fail
  | some (.slice e),.dn id ver p=>match st.obj id ver,szOf P e with
   | some (.deep _ d l),some z=>match rowAt d l p with
    | some q=>bif Nat.beq z q.1.ty.cells then M.bind (boundI i q.2.length) fun n=>pr (.da id ver p n 0) else fail
    | none=>fail
   | _,_=>fail
  | some (.array m e),x=>bif live st x&&Nat.ble 2 m then match szOf P e with
   | some z=>M.bind (caseNat i m) fun n=>pr (addA (n*z) x)
   | _=>fail
   else fail
  | _,_=>fail
 |.index T x i=>M.bind (toI (st.ev i)) fun (_,i)=>
  match P.underlying T,st.ev x with
  | some .string,.d .str s=>M.bind (boundI i s.size) fun n=>pr (.d (.int .u8) ((s.get! n).toNat:Int))
  | some (.array m e),.ag cs=>match szOf P e with
   | some z=>M.bind (caseNat i m) fun n=>prO (partA P e cs (n*z))
   | none=>fail
  | _,_=>fail
 |.lookup T x k ok=>match P.underlying T,st.ev x with
  | some (.map K V),.mp id ver=>match st.obj id ver with
   | some (.map kt vt l)=>match asKey kt (st.ev k),(zeroOne P V).bind fun z=>packAll vt [z] with
    | some key,some z=>bif leafTy vt&&leafUnder P K kt then
      (bif ok then (fun c=>Option.elim (mget key l) (pr (.tu [.d vt z,mkB false]) c) (fun v=>pr (.tu [.d vt v,mkB true]) c))
      else pr (.d vt ((mget key l).getD z)))
     else fail
    | _,_=>fail
   | _=>fail
  | _,_=>fail
 |.mapUpdate T x k v=>match P.underlying T,st.ev x with
  | some (.map K _),.mp id ver=>match st.obj id ver with
   | some (.map kt vt l)=>match asKey kt (st.ev k),(if leafTy vt&&leafUnder P K kt then packAll vt [st.ev v] else none) with
    | some key,some v=>M.pure ((st.setOb id ver (.map kt vt (mput key v l))).put o.dst .top)
    | _,_=>fail
   | _=>fail
  | _,_=>fail
 |.range T x=>match P.underlying T,st.ev x with
  | some .string,.d .str s=>makeObj st o.dst (.sit s 0) fun id ver=>.it id ver
  | _,_=>fail
 |.next x true=>match st.ev x with
  |.it id ver=>match st.obj id ver with
   | some (.sit s pos)=>M.bind (branch (decide (pos < s.size))) fun b=>match b with
    | true=>M.pure ((st.setOb id ver (.sit s (pos+(Utf8.decode s pos).2))).put o.dst (.tu [mkB true,mkI pos,.d (.int .i32) ((Utf8.decode s pos).1:Int)]))
    | false=>M.pure (st.put o.dst (.tu [mkB false]))
   | _=>fail
  | _=>fail
 |.extract x j=>match st.ev x with
  |.tu vs=>prO (vs[j]?)
  | _=>fail
 |.call c=>match c.callee with
  |.builtin .len=>match asArg st c.args.toList,c.argTypes[0]? with
   | [x],some T=>bif lenTy P T x then M.bind (lenA st x) pr else fail
   | _,_=>fail
  |.builtin .append=>match asArg st c.args.toList,c.argTypes.toList,o.dst with
   | [s,x],[T,T'],some d=>bif Nat.beq T T' then appendA P st d T s x else
     match P.underlying T',x with
     | some (.int _),.d (.int .i64) n=>appendZ P st d T s n
     | _,_=>fail
   | _,_,_=>fail
  |.builtin .min=>match asArg st c.args.toList with
   | [x,y]=>M.bind (toI x) fun (k,a)=>M.bind (toI y) fun (_,b)=>pr (.d (.int k) (if b < a then b else a))
   | _=>fail
  |.builtin .max=>match asArg st c.args.toList with
   | [x,y]=>M.bind (toI x) fun (k,a)=>M.bind (toI y) fun (_,b)=>pr (.d (.int k) (if a < b then b else a))
   | _=>fail
  |.value f=>match st.ev f with
   |.cst (.func (.func f) first caps)=>bif first.isEmpty&&caps.isEmpty then callX cl f (asArg st c.args.toList) o.dst st else fail
   |.fn f cs=>callA cl f (asArg st c.args.toList++cs) o.dst st
   | _=>fail
  | _=>fail
 | _=>fail
def notBool:Value→Bool
 |.bool _=>false
 | _=>true
def sk:AV:=.cst undef
def opsG (op:Oper→St→M St) (ops:Array Oper):List Oper→St→M St
 | [],st=>M.pure st
 | o :: r,st=>
  match o.guard with
  | none=>M.bind (op o st) (opsG op ops r)
  | some (j,want)=>
   match (ops[j]?).bind (·.dst) with
   | none=>fail
   | some t=>match st.tm.getD t .top with
    |.d .bool b=>M.bind (branch b) fun b=>
      let st:= { st with tm:=st.tm.set t (.d .bool b) }
      match b,want with
      | true,true | false,false=>M.bind (op o st) (opsG op ops r)
      | _,_=>opsG op ops r (st.put o.dst sk)
    |.cst v=>bif notBool v then opsG op ops r (st.put o.dst sk) else fail
    | _=>fail
@[reducible] def opsA (P:Program) (cl:Cl) (ops:Array Oper):List Oper→St→M St:=opsG (opA P cl) ops
def dtOf (P:Program) (own:TypeId→Bool):Nat→TypeId→Option DTy
 | 0,_=>none
 | n+1,t=>
  match P.underlying t with
  | some (.slice e)=>bif own e then (dtOf P own n e).map .ro else (tyOf P n e).map fun t=>.leaf (.sl t)
  | some (.struct fs)=>tys (fs.toList.map fun f=>dtOf P own n f.type)
  | _=>(tyOf P (n+1) t).map .leaf
where
 mk:DTy→DTy→DTy
  |.leaf a,.leaf b=>.leaf (.pr a b)
  | a,b=>.pr a b
 tys:List (Option DTy)→Option DTy
  | []=>some (.leaf .un)
  | [t]=>t
  | t :: r=>t.bind fun a=>(tys r).map fun b=>mk a b
def elemD (P:Program) (own:TypeId→Bool) (T:TypeId):Option (TypeId×DTy×Nat):=
 (elemOf P T).bind fun (E,t,bytes)=>bif own E then (dtOf P own 20 E).bind fun d=>match d with
  |.leaf _=>none
  | d=>if d.ty=t then some (E,d,bytes) else none
 else none
def packD (st:St):(d:DTy)→List AV→Option (El d.ty×List AV×List Id×List Id)
 |.leaf t,cs=>(toDatas st (cs.take t.cells)).bind fun (vs,is)=>(packAll t vs).map fun x=>(x,cs.drop t.cells,is,[])
 |.ro d,c :: cs=>match c with
  |.nil=>some ([],cs,[],[])
  |.own id ver none=>match st.obj id ver with
   | some (.row _ t l false)=>if h: .leaf t=d then some (h▸l,cs,[],[id]) else none
   | _=>none
  |.dn id ver []=>match st.obj id ver with
   | some (.deep _ d' l)=>if h:d'=d then some (h▸l,cs,[],[id]) else none
   | _=>none
  | _=>none
 |.ro _,[]=>none
 |.pr a b,cs=>(packD st a cs).bind fun (x,cs,is,ms)=>(packD st b cs).map fun (y,cs,is',ms')=>((x,y),cs,is++is',ms++ms')
def packDN (st:St) (d:DTy):Nat→List AV→Option (List (El d.ty)×List Id×List Id)
 | 0,[]=>some ([],[],[])
 | n+1,cs=>(packD st d cs).bind fun (x,r,is,ms)=>(packDN st d n r).map fun (xs,is',ms')=>(x :: xs,is++is',ms++ms')
 | _,_=>none
def opX (P:Program) (own:TypeId→Bool) (cl:Cl) (o:Oper) (st:St):M St:=
 match o.op with
 |.buildSlice T len parts=>match elemD P own T with
  | none=>opA P cl o st
  | some (E,d,_)=>match szOf P E,zeroAV P E with
   | some s,some z=>
    bif Nat.ble (len*s) 16777216 then
     match fillA (fun i=>some (i*s,s)) ((List.range (len*s)).map fun i=>z.getD (i % z.length) .top) (parts.toList.map fun p=>(p.1,st.ev p.2)) with
     | none=>fail
     | some cs=>match packDN st d len cs with
      | none=>fail
      | some (l,is,ms)=>bif nodupB ms&&apartB is ms then
        makeObj (dropIds ms (st.lock is)) o.dst (.deep E d l) fun id ver=>.dn id ver []
       else fail
    else fail
   | _,_=>fail
 |.call c=>match c.callee with
  |.builtin .append=>match asArg st c.args.toList,c.argTypes.toList,o.dst with
   | [s,.dn idx verx []],[T,T'],some dd=>bif Nat.beq T T' then
     match elemD P own T,st.obj idx verx with
     | some (E,d,bytes),some (.deep E2 d2 l2)=>if h:d2=d then bif Nat.beq E2 E then
       match s with
       |.nil=>fun k=>bif Nat.ble (List.length l2*bytes) limit then
         k (((dropIds [idx] st).setOb (rootId dd) ((dropIds [idx] st).nextVer (rootId dd)) (.deep E d (h▸l2))).put (some dd) (.dn (rootId dd) ((dropIds [idx] st).nextVer (rootId dd)) [])) else none
       |.dn id ver []=>match st.obj id ver with
        | some (.deep E1 d1 l1)=>if h1:d1=d then bif Nat.beq E1 E&& !Nat.beq id idx then
          fun k=>bif Nat.ble ((List.length l1+List.length l2)*bytes) limit then
           k (((dropIds [idx] st).setOb id (ver+1) (.deep E d ((h1▸l1:List (El d.ty))++(h▸l2:List (El d.ty))))).put (some dd) (.dn id (ver+1) [])) else none
         else fail
         else fail
        | _=>fail
       | _=>fail
      else fail
      else fail
     | _,_=>fail
    else fail
   | _,_,_=>opA P cl o st
  | _=>opA P cl o st
 | _=>opA P cl o st
def putE (st:St):(d:DTy)→El d.ty→Nat→List AV→Option (El d.ty×List Id×List Id)
 |.pr a b,x,j,as=>bif Nat.beq j 0&&Nat.beq as.length (a.ty.cells+b.ty.cells) then (packD st (.pr a b) as).map fun (y,_,is,ms)=>(y,is,ms)
   else bif Nat.ble (j+as.length) a.ty.cells then (putE st a x.1 j as).map fun (y,is,ms)=>((y,x.2),is,ms)
   else bif Nat.ble a.ty.cells j then (putE st b x.2 (j - a.ty.cells) as).map fun (y,is,ms)=>((x.1,y),is,ms)
   else none
 |.leaf t,_,j,as=>bif Nat.beq j 0&&Nat.beq as.length t.cells then (packD st (.leaf t) as).map fun (y,_,is,ms)=>(y,is,ms) else none
 |.ro d,_,j,as=>bif Nat.beq j 0&&Nat.beq as.length 1 then (packD st (.ro d) as).map fun (y,_,is,ms)=>(y,is,ms) else none
def hasRo:DTy→Nat→Nat→Bool
 |.leaf _,_,_=>false
 |.ro _,j,z=>Nat.beq j 0&&Nat.ble 1 z
 |.pr a b,j,z=>bif Nat.ble a.ty.cells j then hasRo b (j - a.ty.cells) z else hasRo a j z || (Nat.blt a.ty.cells (j+z)&&hasRo b 0 (j+z - a.ty.cells))
def reA (id ver n:Nat):AV→AV
 |.dn i v p=>bif Nat.beq i id&&(Nat.beq v ver&&Nat.ble p.length n) then .dn i (ver+1) p else .dn i v p
 |.da i v p a b=>bif Nat.beq i id&&(Nat.beq v ver&&Nat.ble p.length n) then .da i (ver+1) p a b else .da i v p a b
 | x=>x
def mapO (f:AV→AV):Obj→Obj
 |.box T cs tg=>.box T (cs.map f) tg
 | o=>o
def mapSt (f:AV→AV) (st:St):St:=⟨st.tm.map f,st.ob.map fun p=>(p.1,p.2.1,mapO f p.2.2)⟩
def storeR (st:St) (dst:Option Nat) (id ver:Nat) (p:Path) (i j:Nat) (vs:List AV):M St:=
 match st.obj id ver with
 | some (.deep E d l)=>match rowAt d l p with
  | some q=>match putE st q.1 (q.2.getD i (dflt q.1.ty)) j vs with
   | some (_,is,ms)=>bif (nodupB ms&&apartB is ms)&&(!(is.any (Nat.beq id))&& !(ms.any (Nat.beq id))) then
     match rowSet d l p (fun d' l'=>(putE st d' (l'.getD i (dflt d'.ty)) j vs).map fun e=>l'.set i e.1) with
     | some l2=>M.pure ((mapSt (reA id ver p.length) ((dropIds ms (st.lock is)).setOb id (ver+1) (.deep E d l2))).put dst .top)
     | none=>fail
    else fail
   | none=>fail
  | none=>fail
 | _=>fail
def toRo (st:St) (T:TypeId) (x:AV) (z:Nat):Bool:=match x with
 |.da id ver p _ j=>match st.obj id ver with
  | some (.deep _ d l)=>match rowAt d l p with
   | some q=>hasRo q.1 j z
   | none=>false
  | _=>false
 | _=>false
def opY (P:Program) (own:TypeId→Bool) (cl:Cl) (o:Oper) (st:St):M St:=
 match o.op with
 |.store T x v=>match (st.ev v).cells,szOf P T with
  | some vs,some z=>bif toRo st T (st.ev x) z then
    (bif Nat.beq vs.length z&&vs.all AV.one then match st.ev x with
     |.da id ver p i j=>storeR st o.dst id ver p i j vs
     | _=>fail
    else fail)
   else opX P own cl o st
  | _,_=>opX P own cl o st
 | _=>opX P own cl o st
def needP:Path→Path→M Unit
 | [],[]=>M.pure ()
 | (i,k) :: p,(j,m) :: q=>fun c=>bif Nat.beq k m then (bif Nat.beq i j then needP p q c else none) else none
 | _,_=>fail
def noTmp (d:Nat) (x:Operand):Bool:=match x with |.tmp t=>!(Nat.beq t d) | _=>true
def fuse (P:Program) (o1 o2 o3 o4:Oper) (st:St):Option (M St):=
 match o1.op,o1.dst,o2.op,o2.dst,o3.op,o3.dst,o4.op with
 |.call c,some d1,.indexAddr T2 X I,some d2,.fieldAddr S (.tmp a3) f,some d3,.store T4 (.tmp a) (.tmp b)=>match c.callee,asArg st c.args.toList,c.argTypes.toList,st.ev X,st.ev I with
  |.builtin .append,[.dn id ver (e :: r),x],[T,T'],.dn id2 ver2 p,.d (.int _) n=>
   bif ((o1.guard.isNone&&o2.guard.isNone)&&(o3.guard.isNone&&o4.guard.isNone))&&((Nat.beq T T'&&Nat.beq T4 T)&&((Nat.beq a d3&&(Nat.beq b d1&&Nat.beq a3 d2))&&((!(Nat.beq d1 d2)&&(!(Nat.beq d1 d3)&& !(Nat.beq d2 d3)))&&
    ((noTmp d1 X&&noTmp d1 I)&&((Nat.beq id2 id&&Nat.beq ver2 ver)&&(Nat.blt d1 st.tm.length&&(Nat.blt d2 st.tm.length&&Nat.blt d3 st.tm.length))))))) then
    some (match st.obj id ver,elemOf P T,szOf P T4,P.underlying T2,fieldOff P S f with
     | some (.deep E d l),some (_,t,bytes),some 1,some (.slice e2),some (off,_)=>match szOf P e2,rowAt d l p,rowAt d l (e :: r),extra st t x with
      | some z2,some q,some ⟨.leaf t',li⟩,some (ys,_)=>bif Nat.beq z2 q.1.ty.cells then M.bind (boundI n q.2.length) fun i=>M.bind (needP (e :: r) (p++[(i,0+off)])) fun _=>
        if t'=t then fun k=>bif Nat.ble ((List.length li+ys.length)*bytes) limit then
          (match rowSet d l (e :: r) (fun d' l'=>match d',l' with |.leaf t2,l'=>if h2:t=t2 then some (show List (El t2) from (show List (El t2) from l')++(h2▸ys)) else none | _,_=>none) with
          | some l2=>k (((mapSt (reA id ver r.length) (((st.put (some d2) (.da id ver p i 0)).put (some d3) (.da id ver p i (0+off))).setOb id (ver+1) (.deep E d l2))).put (some d1) .top).put o4.dst .top)
          | none=>none) else none
        else fail
       else fail
      | _,_,_,_=>fail
     | _,_,_,_,_=>fail)
   else none
  | _,_,_,_,_=>none
 | _,_,_,_,_,_,_=>none
def fuse3 (P:Program) (cl:Cl) (o:Oper) (r:List Oper) (st:St):Option (M St):=match r with
 | [o2,o3,o4]=>fuse P o o2 o3 o4 st
 | _=>none
def opsH (op:Oper→St→M St) (fz:Oper→List Oper→St→Option (M St)) (ops:Array Oper):List Oper→St→M St
 | [],st=>M.pure st
 | o :: r,st=>match fz o r st with
  | some m=>m
  | none=>match o.guard with
   | none=>M.bind (op o st) (opsH op fz ops r)
   | some (j,want)=>
    match (ops[j]?).bind (·.dst) with
    | none=>fail
    | some t=>match st.tm.getD t .top with
     |.d .bool b=>M.bind (branch b) fun b=>
       let st:= { st with tm:=st.tm.set t (.d .bool b) }
       match b,want with
       | true,true | false,false=>M.bind (op o st) (opsH op fz ops r)
       | _,_=>opsH op fz ops r (st.put o.dst sk)
     |.cst v=>bif notBool v then opsH op fz ops r (st.put o.dst sk) else fail
     | _=>fail
def ownK:Nat:=99998
def ownOf (lab:List Nat) (e:TypeId):Bool:=lab.any (Nat.beq e)
def isV:Op→Bool
 |.move _ |.assign _ |.pick _ _ _ |.load _ _ |.nilCheck _ |.binOp _ _ _ _ _ |.unOp _ _ _ |.convert _ _ _ |.makeInterface _ _ |.fieldAddr _ _ _ |.field _ _ _ |.indexAddr _ _ _ |.index _ _ _ |.extract _ _
 |.lookup _ _ _ _ |.typeAssert _ _ _ _=>true
 | _=>false
def isTop:AV→Bool
 |.top=>true
 | _=>false
def callD (cl:Cl) (f:FuncId) (args:List AV) (dst:Option Nat) (st:St):M St:=
 match allG (give st (takes cl f) 6) args with
 | some (forms,_,[])=>M.bind (cl f forms) fun ans=>bif flatB ans.1&& !(hasSl 6 ans.1)&&ans.2.all isTop then M.pure (st.put dst ans.1) else fail
 | _=>fail
def slX (x:AV) (lo:Option Operand):Bool:=match x,lo with
 |.own _ _ _,some _=>false
 | _,_=>true
def opD (P:Program) (cl:Cl) (o:Oper) (st:St):M St:=
 bif isV o.op then opA P cl o st else
 match o.op with
 |.slice _ x lo _ none=>bif slX (st.ev x) lo then opA P cl o st else fail
 |.call c=>match c.callee with
  |.value f=>match st.ev f with
   |.cst (.func (.func f) first caps)=>bif first.isEmpty&&caps.isEmpty then callD cl f (asArg st c.args.toList) o.dst st else fail
   | _=>fail
  |.builtin .len |.builtin .min |.builtin .max=>opA P cl o st
  | _=>fail
 | _=>fail
def opsD (P:Program) (cl:Cl) (ops:Array Oper):List Oper→St→M St
 | [],st=>M.pure st
 | o :: r,st=>
  match o.guard with
  | none=>M.bind (opD P cl o st) (opsD P cl ops r)
  | some (j,want)=>
   match (ops[j]?).bind (·.dst) with
   | none=>fail
   | some t=>match st.tm.getD t .top with
    |.d .bool b=>M.bind (branch b) fun b=>
      let st:= { st with tm:=st.tm.set t (.d .bool b) }
      match b,want with
      | true,true | false,false=>M.bind (opD P cl o st) (opsD P cl ops r)
      | _,_=>opsD P cl ops r (st.put o.dst sk)
    |.cst v=>bif notBool v then opsD P cl ops r (st.put o.dst sk) else fail
    | _=>fail
def aheads (ops:List Oper) (acc:List Nat):List Nat:=
 match ops with
 | []=>acc
 | o :: r=>aheads r (acc++[o.after.toList.foldl (fun s e=>bif Region.binds .any e then s ||| 2 ^ e.on ||| acc.getD e.on 0 else s) 0])
def drawOK (ops:Array Oper):Bool:=
 (List.range ops.size).all fun j=>match ops[j]? with
  | none=>false
  | some o=>o.after.toList.all (fun e=>!Region.binds .any e || Nat.blt e.on j)&&
   (List.range j).all fun i=>match ops[i]? with
    | none=>false
    | some p=>Nat.testBit ((aheads ops.toList []).getD j 0) i || (p.apart ops o)
def men1:AV→List Id
 |.pt id _ _ |.pe id _ _ _ |.own id _ _ |.mp id _ |.it id _ |.dn id _ _ |.da id _ _ _ _=>[id]
 | _=>[]
def menL:List AV→List Id
 | []=>[]
 | x :: r=>men1 x++menL r
def men:AV→List Id
 |.ag cs=>menL cs
 |.tu cs=>menL cs
 | x=>men1 x
def menOps (st:St):List Operand→List Id
 | []=>[]
 | x :: r=>men (st.ev x)++menOps st r
def isE:Op→Bool
 |.alloc _ |.box _ _ |.buildSlice _ _ _ |.store _ _ _ |.makeSlice _ _ _ |.makeMap _ _=>true
 |.call c=>match c.callee with
  |.builtin .append |.value _=>true
  | _=>false
 | _=>false
def kids (o:Oper) (d:Nat):List Id:=match o.op with
 |.call c=>match c.callee with
  |.value _=>(List.range 16).map (childId (rootId d))++(List.range 4).flatMap fun i=>(List.range 16).map (childId (childId (rootId d) i))
  | _=>[]
 | _=>[]
def touE (o:Oper) (st:St):List Id:=menOps st o.op.operands.toList
def rootE (o:Oper):List Id:=match o.dst with | some d=>rootId d :: kids o d | none=>[]
def wrE (o:Oper) (st:St):List Id:=bif isE o.op then rootE o++touE o st else []
def argE1 (x:AV):Bool:=match x with |.own _ _ _=>true |.dn _ _ _=>true | x=>flatB x
def argE (x:AV):Bool:=match x with |.ag cs=>cs.all argE1 | x=>argE1 x
def ansE1 (x:AV):Bool:=match x with |.rw _ _ _=>true |.mv _ _ _=>true |.dw _ _ _=>true | x=>flatB x
def ansE2 (x:AV):Bool:=match x with
 |.ag cs=>cs.all ansE1&&Nat.ble cs.length 16
 | x=>ansE1 x
def ansE (x:AV):Bool:=match x with
 |.ag cs=>cs.all ansE1&&Nat.ble cs.length 16
 |.tu cs=>cs.all ansE2&&Nat.ble cs.length 4
 |.bx _ cs=>cs.all ansE1&&Nat.ble cs.length 16
 | x=>ansE1 x
def callE (cl:Cl) (f:FuncId) (args:List AV) (dst:Option Nat) (st:St):M St:=
 match allG (give st (takes cl f) 6) args with
 | some (forms,is,[])=>bif args.all argE then M.bind (cl f forms) fun ans=>
   bif ansE ans.1&&ans.2.all isTop then
    match dst with
    | none=>M.pure (bif hasSl 6 ans.1 then st.lock is else st)
    | some d=>match imp 6 (bif hasSl 6 ans.1 then st.lock is else st) (rootId d) ans.1 with
     | some (v,st3)=>M.pure (st3.put (some d) v)
     | none=>fail
   else fail
  else fail
 | _=>fail
def opE (P:Program) (cl:Cl) (o:Oper) (st:St):M St:=
 bif isV o.op then opA P cl o st else
 match o.op with
 |.call c=>match c.callee with
  |.value f=>match st.ev f with
   |.cst (.func (.func f) first caps)=>bif first.isEmpty&&caps.isEmpty then callE cl f (asArg st c.args.toList) o.dst st else fail
   | _=>fail
  |.builtin .len |.builtin .append |.builtin .min |.builtin .max=>opA P cl o st
  | _=>fail
 |.slice _ x lo _ none=>bif slX (st.ev x) lo then opA P cl o st else fail
 |.alloc _ |.box _ _ |.build _ _ |.buildSlice _ _ _ |.store _ _ _ |.makeSlice _ _ _ |.makeMap _ _=>opA P cl o st
 | _=>fail
abbrev LogE:=List (List Id×List Id)
def opsE (P:Program) (cl:Cl) (ops:Array Oper):List Oper→St→LogE→M (St×LogE)
 | [],st,log=>M.pure (st,log)
 | o :: r,st,log=>
  match o.guard with
  | none=>M.bind (opE P cl o st) fun st'=>opsE P cl ops r st' (log++[(wrE o st,touE o st)])
  | some (j,want)=>
   match (ops[j]?).bind (·.dst) with
   | none=>fail
   | some t=>match st.tm.getD t .top with
    |.d .bool b=>M.bind (branch b) fun b=>
      let st:= { st with tm:=st.tm.set t (.d .bool b) }
      match b,want with
      | true,true | false,false=>M.bind (opE P cl o st) fun st'=>opsE P cl ops r st' (log++[(wrE o st,touE o st)])
      | _,_=>opsE P cl ops r (st.put o.dst sk) (log++[([],[])])
    |.cst v=>bif notBool v then opsE P cl ops r (st.put o.dst sk) (log++[([],[])]) else fail
    | _=>fail
def disjB (a b:List Id):Bool:=a.all fun x=>!(b.any (Nat.beq x))
def okLog (ops:Array Oper) (log:LogE):Bool:=
 (List.range ops.size).all fun j=>(List.range j).all fun i=>
  Nat.testBit ((aheads ops.toList []).getD j 0) i ||
   (match log[i]?,log[j]? with
    | some (wi,ti),some (wj,tj)=>disjB wi (wj++tj)&&disjB wj ti
    | _,_=>false)
def sortedB:List (Id×Nat×Obj)→Bool
 | []=>true
 | (x,p) :: r=>match r with
  | []=>true
  | (y,q) :: r'=>Nat.blt x y&&sortedB r
def runE (P:Program) (cl:Cl) (ops:Array Oper) (st:St):M St:=
 M.bind (opsE P cl ops ops.toList st []) fun p=>bif sortedB st.ob&&okLog ops p.2 then M.pure p.1 else fail
def opO (P:Program) (own:TypeId→Bool) (cl:Cl) (o:Oper) (st:St):M St:=
 match o.op with
 |.buildSlice T len parts=>match elemD P own T with
  | none=>opE P cl o st
  | some (E,d,_)=>match szOf P E,zeroAV P E with
   | some s,some z=>
    bif Nat.ble (len*s) 16777216 then
     match fillA (fun i=>some (i*s,s)) ((List.range (len*s)).map fun i=>z.getD (i % z.length) .top) (parts.toList.map fun p=>(p.1,st.ev p.2)) with
     | none=>fail
     | some cs=>match packDN st d len cs with
      | some (l,is,[])=>makeObj (st.lock is) o.dst (.deep E d l) fun id ver=>.dn id ver []
      | _=>fail
    else fail
   | _,_=>fail
 | _=>opE P cl o st
def opsO (op:Oper→St→M St) (ops:Array Oper):List Oper→St→LogE→M (St×LogE)
 | [],st,log=>M.pure (st,log)
 | o :: r,st,log=>
  match o.guard with
  | none=>M.bind (op o st) fun st'=>opsO op ops r st' (log++[(wrE o st,touE o st)])
  | some (j,want)=>
   match (ops[j]?).bind (·.dst) with
   | none=>fail
   | some t=>match st.tm.getD t .top with
    |.d .bool b=>M.bind (branch b) fun b=>
      let st:= { st with tm:=st.tm.set t (.d .bool b) }
      match b,want with
      | true,true | false,false=>M.bind (op o st) fun st'=>opsO op ops r st' (log++[(wrE o st,touE o st)])
      | _,_=>opsO op ops r (st.put o.dst sk) (log++[([],[])])
    |.cst v=>bif notBool v then opsO op ops r (st.put o.dst sk) (log++[([],[])]) else fail
    | _=>fail
def okLogN (ops:Array Oper) (m:Nat) (log:LogE):Bool:=
 (List.range m).all fun j=>(List.range j).all fun i=>
  Nat.testBit ((aheads ops.toList []).getD j 0) i ||
   (match log[i]?,log[j]? with
    | some (wi,ti),some (wj,tj)=>disjB wi (wj++tj)&&disjB wj ti
    | _,_=>false)
def afterAll (ops:Array Oper) (m:Nat):Bool:=(List.range ops.size).all fun j=>Nat.blt j m || (List.range j).all fun i=>Nat.testBit ((aheads ops.toList []).getD j 0) i
def cutAt (ops:Array Oper):Nat→Nat
 | 0=>0
 | m+1=>bif (List.range m).all (fun i=>Nat.testBit ((aheads ops.toList []).getD m 0) i) then cutAt ops m else m+1
def runO (P:Program) (own:TypeId→Bool) (cl:Cl) (ops:Array Oper) (st:St):M St:=
 M.bind (opsO (opO P own cl) ops (ops.toList.take (cutAt ops ops.size)) st []) fun p=>
  bif sortedB st.ob&&(okLogN ops (cutAt ops ops.size) p.2&&afterAll ops (cutAt ops ops.size)) then opsG (opY P own cl) ops (ops.toList.drop (cutAt ops ops.size)) p.1 else fail
def isD (P:Program) (o:Oper):Bool:=isV o.op || (match o.op with
 |.slice _ _ _ _ none=>true
 |.call c=>match c.callee with
  |.value _=>match tyOf P 20 o.type with | some t=>!tySl t | none=>false
  |.builtin .len |.builtin .min |.builtin .max=>true
  | _=>false
 | _=>false)
structure Lab where
 live:List Nat
 hints:List (Id×TypeId):=[]
abbrev Ren:=List (Id×Id)×List (Id×Nat×Obj)
def mapd (m:List (Id×Id)) (id:Id):Option Id:=
 match m with
 | []=>none
 | (x,y) :: r=>bif Nat.beq x id then some y else mapd r id
def renA (ren:Ren→Id→AV→AV×Ren) (rn:Ren) (id:Id):Nat→List AV→List AV×Ren
 | _,[]=>([],rn)
 | j,x :: r=>match ren rn (childId id j) x with
  | (y,rn)=>match renA ren rn id (j+1) r with
   | (ys,rn)=>(y :: ys,rn)
def plainAV:AV→AV
 |.d t v=>.d t v
 |.nil=>.nil
 |.cst v=>.cst v
 |.ifc t (.d u v)=>.ifc t (.d u v)
 |.rp t x j=>.rp t x j
 | _=>.top
def hintK:Nat:=99999
def nilData (P:Program) (T:TypeId):AV:=match elemOf P T with | some (_,t,_)=>.d (.sl t) [] | none=>.nil
def nilRow (P:Program) (T:TypeId):AV:=match elemOf P T with | some (E,t,_)=>.rw E t [] | none=>.nil
def fixCs (f:Id→AV→AV) (id:Id):Nat→List AV→List AV
 | _,[]=>[]
 | j,x :: r=>f (childId id j) x :: fixCs f id (j+1) r
def fixA (P:Program) (hints:List (Id×TypeId)):Nat→Id→AV→AV
 | 0,_,x=>x
 | n+1,id,x=>
  match x with
  |.nil=>match mapd hints id with
   | some T=>bif Nat.beq (T % 2) 1 then nilData P (T / 2) else nilRow P (T / 2)
   | none=>.nil
  |.ag cs=>.ag (fixCs (fixA P hints n) id 0 cs)
  |.tu cs=>.tu (fixCs (fixA P hints n) id 0 cs)
  | x=>x
def addR (rn:Ren) (i id:Id) (o:Obj) (x:AV):AV×Ren:=
 match mapd rn.1 i,find id rn.2 with
 | none,none=>(x,((i,id) :: rn.1,ins id (0,o) rn.2))
 | _,_=>(.top,rn)
def preK:Nat:=10 ^ 60
def preOf (hints:List (Id×TypeId)) (id:Id) (pre:Option Nat) (n:Nat):Option Nat:=match pre with
 | some m=>some m
 | none=>match mapd hints (id+preK) with | some _=>some n | none=>none
def lockK:Nat:=10 ^ 61
def isLk (hints:List (Id×TypeId)) (id:Id):Bool:=match mapd hints (id+lockK) with | some _=>true | none=>false
def ownH (hints:List (Id×TypeId)) (e:TypeId):Bool:=hints.any fun p=>Nat.beq p.1 ownK&&Nat.beq p.2 e
def ren (P:Program) (hints:List (Id×TypeId)) (st:St):Nat→Ren→Id→AV→AV×Ren
 | 0,rn,_,_=>(.top,rn)
 | n+1,rn,id,x=>
  match x with
  |.pt i ver off=>match st.obj i ver with
   | some (.box T cs tg)=>match mapd rn.1 i with
    | some i'=>(.pt i' 0 off,rn)
    | none=>match renA (ren P hints st n) rn id 0 cs with
     | (vs,rn)=>addR rn i id (.box T vs tg) (.pt id 0 off)
   | _=>(.top,rn)
  |.own i ver pre=>match st.obj i ver with
   | some (.row E t l lock)=>bif lock&&isLk hints id then (.d (.sl t) (preL pre l),rn) else match mapd rn.1 i with
    | some i'=>(.own i' 0 (preOf hints id pre l.length),rn)
    | none=>addR rn i id (.row E t l lock) (.own id 0 (preOf hints id pre l.length))
   | _=>(.top,rn)
  |.mp i ver=>match st.obj i ver with
   | some (.map kt vt l)=>match mapd rn.1 i with
    | some i'=>(.mp i' 0,rn)
    | none=>addR rn i id (.map kt vt l) (.mp id 0)
   | some (.gone tg)=>match mapd rn.1 i with
    | some i'=>(.mp i' 0,rn)
    | none=>addR rn i id (.gone tg) (.mp id 0)
   | _=>(.top,rn)
  |.it i ver=>match st.obj i ver with
   | some (.sit s p)=>match mapd rn.1 i with
    | some i'=>(.it i' 0,rn)
    | none=>addR rn i id (.sit s p) (.it id 0)
   | _=>(.top,rn)
  |.nil=>match mapd hints id with
   | some T=>bif Nat.beq (T % 2) 1 then (nilData P (T / 2),rn) else match elemD P (ownH hints) (T / 2),find id rn.2 with
    | some (E,d,_),none=>(.dn id 0 [],(rn.1,ins id (0,.deep E d []) rn.2))
    | _,_=>match elemOf P (T / 2),find id rn.2 with
    | some (E,t,_),none=>(.own id 0 (preOf hints id none 0),(rn.1,ins id (0,.row E t [] false) rn.2))
    | _,_=>(.nil,rn)
   | none=>(.nil,rn)
  |.dn i ver p=>match st.obj i ver with
   | some (.deep E d l)=>match mapd rn.1 i with
    | some i'=>(.dn i' 0 p,rn)
    | none=>addR rn i id (.deep E d l) (.dn id 0 p)
   | _=>(.top,rn)
  |.ag cs=>(.ag (cs.map plainAV),rn)
  |.fn f cs=>match renA (ren P hints st n) rn id 0 cs with
   | (vs,rn)=>(.fn f vs,rn)
  | x=>(plainAV x,rn)
def renTm (P:Program) (hints:List (Id×TypeId)) (st:St):List Nat→Ren→List AV→List AV×Ren
 | [],rn,tm=>(tm,rn)
 | s :: r,rn,tm=>match ren P hints st 6 rn (rootId s) (st.tm.getD s .top) with
  | (v,rn)=>renTm P hints st r rn (tm.set s v)
def tops:Nat→List AV
 | 0=>[]
 | n+1=>.top :: tops n
def norm (P:Program) (lab:Lab) (st:St):St:=
 match renTm P lab.hints st lab.live ([],[]) (tops st.tm.length) with
 | (tm,rn)=>⟨tm,rn.2⟩
def ownsOf:List AV→List Id
 | []=>[]
 |.own i _ _ :: r=>i :: ownsOf r
 | _ :: r=>ownsOf r
def lockIds (lab:Lab) (st:St):List Id:=lab.live.flatMap fun s=>match st.tm.getD s .top with
 |.own i _ _=>bif isLk lab.hints (rootId s) then [i] else []
 |.pt i v _=>bif isLk lab.hints (rootId s) then (match st.obj i v with | some (.box _ cs _)=>ownsOf cs | _=>[]) else []
 | _=>[]
def normL (P:Program) (lab:Lab) (st:St):St:=norm P lab (st.lock (lockIds lab st))
abbrev Lt:=Nat→St→Option Ans
abbrev Kt:=St→Option Ans
def nn:Code→Nat
 |.seq a b=>1+nn a+nn b
 |.cond _ a b=>nn a+nn b
 |.block _ c=>nn c
 |.loop c=>1+nn c
 | _=>0
abbrev Tb:=List (Nat×Lab)
def labOf:Tb→Nat→Option Lab
 | [],_=>none
 | (j,l) :: r,i=>bif Nat.beq j i then some l else labOf r i
section
variable (P:Program) (cl:Cl) (tb:Tb)
def evC (L:Lt):Code→Nat→Kt→(Nat→Kt)→Kt→Kt
 |.skip,_,k,_,_,st=>k st
 |.region _ ops draw,_,k,_,_,st=>bif draw then (bif P.follows .mixedOrders&&drawOK ops then (bif ops.toList.all (isD P) then opsD P cl ops ops.toList st k else match labOf tb ownK with
   | none=>runE P cl ops st k
   | some lab=>runO P (ownOf lab.live) cl ops st k) else none) else match labOf tb ownK with
   | none=>opsA P cl ops ops.toList st k
   | some lab=>opsH (opY P (ownOf lab.live) cl) (fuse3 P cl) ops ops.toList st k
 |.seq a b,i,k,x,r,st=>
  evC L a (i+1) (match labOf tb i with
   | some lab=>fun st=>L i (normL P lab st)
   | none=>evC L b (i+1+nn a) k x r) x r st
 |.cond c a b,i,k,x,r,st=>M.bind (toB (st.ev c)) branch fun t=>match t with
  | true=>evC L a i k x r st
  | false=>evC L b (i+nn a) k x r st
 |.block id c,i,k,x,r,st=>evC L c i k (fun j st=>bif Nat.beq j id then k st else x j st) r st
 |.loop _,i,_,_,_,st=>match labOf tb i with
  | some lab=>L i (normL P lab st)
  | none=>none
 |.exit id,_,_,x,_,st=>x id st
 |.ret,_,_,_,r,st=>r st
 | _,_,_,_,_,_=>none
def procs:Code→Nat→(Lt→Kt)→(Lt→Nat→Kt)→(Lt→Kt)→List (Nat×(Lt→Kt))
 |.seq a b,i,k,x,r=>
  (match labOf tb i with
   | some _=>[(i,fun L=>evC P cl tb L b (i+1+nn a) (k L) (x L) (r L))]
   | none=>[])++
  procs a (i+1) (fun L=>match labOf tb i with
   | some lab=>fun st=>L i (normL P lab st)
   | none=>evC P cl tb L b (i+1+nn a) (k L) (x L) (r L)) x r++
  procs b (i+1+nn a) k x r
 |.cond _ a b,i,k,x,r=>procs a i k x r++procs b (i+nn a) k x r
 |.block id c,i,k,x,r=>procs c i k (fun L j st=>bif Nat.beq j id then k L st else x L j st) r
 |.loop c,i,_,x,r=>match labOf tb i with
  | some lab=>(i,fun L=>evC P cl tb L c (i+1) (fun st=>L i (normL P lab st)) (x L) (r L)) :: procs c (i+1) (fun L st=>L i (normL P lab st)) x r
  | none=>[]
 | _,_,_,_,_=>[]
def procOf:List (Nat×(Lt→Kt))→Nat→Lt→Kt
 | [],_,_,_=>none
 | (j,p) :: r,i,L,st=>bif Nat.beq j i then p L st else procOf r i L st
def Ls (ps:List (Nat×(Lt→Kt))):Nat→Lt
 | 0=>fun _ _=>none
 | n+1=>fun i st=>procOf ps i (Ls ps n) st
end
def resA (P:Program) (st:St):ResultVar→Option AV
 |.tmp t=>some (st.tm.getD t .top)
 |.cell a T=>match behind st (st.tm.getD a .top),isAgg P T,szOf P T with
  | some cs,some true,some z=>if z≤cs.length then some (.ag (cs.take z)) else none
  | some cs,some false,some _=>cs[0]?
  | _,_,_=>none
def resAll (P:Program) (st:St):List ResultVar→Option (List AV)
 | []=>some []
 | r :: rs=>(resA P st r).bind fun v=>(resAll P st rs).map fun vs=>v :: vs
def oneOrAll:List AV→AV
 | [v]=>v
 | vs=>.tu vs
def findTag (j:Nat):List (Id×Nat×Obj)→Option (Id×Nat)
 | []=>none
 | (id,v,.box _ _ (some k)) :: r=>bif Nat.beq j k then some (id,v) else findTag j r
 | _ :: r=>findTag j r
def outsG (st:St):Nat→List AV→Option (List AV×List Id)
 | _,[]=>some ([],[])
 | j,a :: r=>(outsG st (j+1) r).bind fun (os,ids)=>match a with
  |.bx _ _=>match findTag j st.ob with
   | some (id,ver)=>match st.obj id ver with
    | some (.box _ _ (some k))=>bif Nat.beq j k then (give st true 6 (.pt id ver 0)).map fun (o,_,i)=>(o :: os,i++ids) else none
    | _=>none
   | none=>some (.top :: os,ids)
  | _=>some (.top :: os,ids)
def rowsCs (f:Id→AV→List (Id×Id)) (id:Id):Nat→List AV→List (Id×Id)
 | _,[]=>[]
 | j,x :: r=>f (childId id j) x++rowsCs f id (j+1) r
def rowsAt:Nat→Id→AV→List (Id×Id)
 | 0,_,_=>[]
 | n+1,id,x=>match x with
  |.own i _ _=>[(id,i)]
  |.ag cs=>rowsCs (rowsAt n) id 0 cs
  |.tu cs=>rowsCs (rowsAt n) id 0 cs
  | _=>[]
def lockRes (tb:Tb) (x:AV) (st:St):St:=match labOf tb hintK with
 | some lab=>st.lock ((rowsAt 6 (childId 0 0) x).filterMap fun p=>bif lab.live.any (Nat.beq p.1) then some p.2 else none)
 | none=>st
def finA (P:Program) (tb:Tb) (fn:Func) (args:List AV) (st:St):Option Ans:=
 match resAll P st fn.results.toList with
 | none=>none
 | some vs=>match give (lockRes tb (oneOrAll vs) st) true 6 (oneOrAll vs) with
  | some (v,_,ids)=>match outsG (lockRes tb (oneOrAll vs) st) 0 args with
   | some (os,is)=>bif nodupB (ids++is) then some ((match labOf tb hintK with | some lab=>fixA P lab.hints 6 (childId 0 0) v | none=>v),os) else none
   | none=>none
  | _=>none
def impT (st:St) (i:Nat) (a:AV):Option (AV×St):=match a with
 |.bx T cs=>(impA (imp 5) st (rootId i) 0 cs).map fun (vs,st)=>(.pt (rootId i) (st.nextVer (rootId i)) 0,st.setOb (rootId i) (st.nextVer (rootId i)) (.box T vs (some i)))
 | a=>imp 6 st (rootId i) a
def initA:St→Nat→List AV→Option (List AV×St)
 | st,_,[]=>some ([],st)
 | st,i,a :: r=>(impT st i a).bind fun (v,st)=>(initA st (i+1) r).map fun (vs,st)=>(v :: vs,st)
def entryA (P:Program) (cl:Cl) (tb:Tb) (fn:Func) (c:Code) (L:Lt) (args:List AV):Option Ans:=
 match initA ⟨[],[]⟩ 0 args with
 | none=>none
 | some (vs,st)=>evC P cl tb L c 0 (finA P tb fn args) (fun _ _=>none) (finA P tb fn args) { st with tm:=vs++tops (fn.ntmps - vs.length) }
def procsF (P:Program) (cl:Cl) (tb:Tb) (fn:Func) (c:Code) (args:List AV):List (Nat×(Lt→Kt)):=
 procs P cl tb c 0 (fun _=>finA P tb fn args) (fun _ _ _=>none) (fun _=>finA P tb fn args)
def evF (P:Program) (cl:Cl) (tb:Tb) (fn:Func) (n:Nat) (args:List AV):Option Ans:=
 match fn.body with
 | none=>none
 | some c=>entryA P cl tb fn c (Ls (procsF P cl tb fn c args) n) args
end Go.Ev
end

section
namespace Go.Ev
open Go
theorem Zow {α:Type} {pre:Option Nat} {l:List α} :preL pre l=l.take (pre.getD l.length):=by cases pre <;> simp[preL]
theorem Zrr {α:Type} {pre:Option Nat} {l:List α} :preN pre l=((pre.getD l.length:Nat):Int):=by cases pre <;> simp[preN]
def cellsAt (w:World) (a:Addr) (vs:List Value):Prop:=∀j v,vs[j]? =some v→w.cell? (a.add j)=some v
def LRep (F:Nat→Prop) (w:World):(t:Ty)→El t→List Value→Prop
 |.int k,n,vs=>vs=[.int k n]
 |.bool,b,vs=>vs=[.bool b]
 |.str,s,vs=>vs=[.string s]
 |.sl t,l,vs=>∃A c,vs=[.slice A (List.length l) c]∧List.length l≤c∧∀i x,l[i]? =some x→∃ad cs,A=some ad∧F ad.block∧LRep F w t x cs∧cellsAt w (ad.add (i*t.cells)) cs
 |.pr a b,x,vs=>∃v1 v2,vs=v1++v2∧LRep F w a x.1 v1∧LRep F w b x.2 v2
 |.un,_,vs=>vs=[]
theorem Addr.add_add (a:Addr) (m n:Nat):(a.add m).add n=a.add (m+n):=by
 unfold Addr.add
 by_cases hm:m=0
 ·subst hm;simp
 ·by_cases hn:n=0
  ·subst hn;simp[hm]
  ·simp[hm,hn,Nat.add_assoc]
theorem Addr.add_block (a:Addr) (n:Nat):(a.add n).block=a.block:=by
 unfold Addr.add;split <;> rfl
theorem LRep.length {F:Nat→Prop} {w:World} :∀ {t:Ty} {x:El t} {vs:List Value},LRep F w t x vs→vs.length=t.cells
 |.int _,_,_,h=>by simp only[LRep] at h;subst h;rfl
 |.bool,_,_,h=>by simp only[LRep] at h;subst h;rfl
 |.str,_,_,h=>by simp only[LRep] at h;subst h;rfl
 |.sl _,_,_,h=>by simp only[LRep] at h;obtain ⟨A,c,rfl,_⟩:=h;rfl
 |.pr a b,_,_,h=>by
  simp only[LRep] at h
  obtain ⟨v1,v2,rfl,h1,h2⟩:=h
  simp[Ty.cells,h1.length,h2.length]
 |.un,_,_,h=>by simp only[LRep] at h;subst h;rfl
structure Keeps (F:Nat→Prop) (w:World) (F':Nat→Prop) (w':World):Prop where
 more:∀b,F b→F' b
 same:∀b,F b→w'.heap[b]? =w.heap[b]?
theorem Keeps.cell {F F':Nat→Prop} {w w':World} (h:Keeps F w F' w') {a:Addr} (ha:F a.block):w'.cell? a=w.cell? a:=World.cell?_of_block (h.same _ ha)
theorem LRep.keep {F F':Nat→Prop} {w w':World} (hk:Keeps F w F' w'):∀ {t:Ty} {x:El t} {vs:List Value},LRep F w t x vs→LRep F' w' t x vs
 |.int _,_,_,h=>h
 |.bool,_,_,h=>h
 |.str,_,_,h=>h
 |.sl t,l,vs,h=>by
  simp only[LRep] at h ⊢
  obtain ⟨A,c,e,hc,hl⟩:=h
  refine ⟨A,c,e,hc,fun i x hx=>?_⟩
  obtain ⟨ad,cs,hA,hF,hcs,hat⟩:=hl i x hx
  refine ⟨ad,cs,hA,hk.more _ hF,hcs.keep hk,fun j v hv=>?_⟩
  rw[hk.cell (by rw[Addr.add_block,Addr.add_block];exact hF)]
  exact hat j v hv
 |.pr a b,x,vs,h=>by
  simp only[LRep] at h ⊢
  obtain ⟨v1,v2,e,h1,h2⟩:=h
  exact ⟨v1,v2,e,h1.keep hk,h2.keep hk⟩
 |.un,_,_,h=>h
def bnd (st:St) (id:Id) (ver:Nat):Prop:=∃v o,find id st.ob=some (v,o)∧ver≤v
abbrev Rho:=Id→Value
def gv:Value→Value
 |.tuple a=>a.getD 0 undef
 | v=>v
def gk:Value→Nat→Value
 |.tuple a,k=>a.getD (k+1) undef
 | _,_=>undef
def gAt:Value→Path→Value
 | g,[]=>g
 | g,(i,k) :: r=>gAt (gk (gk g i) k) r
def okPath (d:DTy) (l:List (El d.ty)):Path→Prop
 | []=>True
 | (i,k) :: r=>i < l.length∧∃q,roAt d (l.getD i (dflt d.ty)) k=some q∧okPath q.1 q.2 r
inductive ARep (F:Nat→Prop) (ρ:Rho) (w:World) (st:St):AV→Value→Prop
 | top (v):ARep F ρ w st .top v
 | d (t x v):LRep F w t x [v]→ARep F ρ w st (.d t x) v
 | nil:ARep F ρ w st .nil (.slice none 0 0)
 | cst (v):ARep F ρ w st (.cst v) v
 | ag (cs:List AV) (vs:Array Value):cs.length=vs.size→(∀(i:Nat) (c:AV) (v:Value),cs[i]? =some c→vs[i]? =some v→ARep F ρ w st c v)→ARep F ρ w st (.ag cs) (.agg vs)
 | tu (cs:List AV) (vs:Array Value):cs.length=vs.size→(∀(i:Nat) (c:AV) (v:Value),cs[i]? =some c→vs[i]? =some v→ARep F ρ w st c v)→ARep F ρ w st (.tu cs) (.tuple vs)
 | pt (id ver off v):bnd st id ver→v.oneCell'=true→(∀o,st.obj id ver=some o→∃b,ρ id=.pointer (some ⟨b,0,none⟩)∧v=.pointer (some ⟨b,off,none⟩))→ARep F ρ w st (.pt id ver off) v
 | pe (id ver i j v):bnd st id ver→v.oneCell'=true→(∀E t l lk,st.obj id ver=some (.row E t l lk)→∃ad n c,ρ id=.slice (some ad) n c∧v=.pointer (some (ad.add (i*t.cells+j)))∧i < l.length)→ARep F ρ w st (.pe id ver i j) v
 | rp (t x j ad cs):LRep F w t x cs→F ad.block→cellsAt w ad cs→ARep F ρ w st (.rp t x j) (.pointer (some (ad.add j)))
 | own (id ver pre v):bnd st id ver→v.oneCell'=true→(∀E t l lk,st.obj id ver=some (.row E t l lk)→(∀n,pre=some n→n≤l.length)∧∃A c,ρ id=.slice A l.length c∧v=.slice A (pre.getD l.length) c)→ARep F ρ w st (.own id ver pre) v
 | mp (id ver v):bnd st id ver→v.oneCell'=true→(∀o,st.obj id ver=some o→v=ρ id)→ARep F ρ w st (.mp id ver) v
 | it (id ver v):bnd st id ver→v.oneCell'=true→(∀s p,st.obj id ver=some (.sit s p)→v=ρ id)→ARep F ρ w st (.it id ver) v
 | ifc (t x v):ARep F ρ w st x v→ARep F ρ w st (.ifc t x) (.iface t v)
 | dn (id ver p v):bnd st id ver→v.oneCell'=true→(∀E d l,st.obj id ver=some (.deep E d l)→okPath d l p∧v=gv (gAt (gv (ρ id)) p))→ARep F ρ w st (.dn id ver p) v
 | da (id ver p i j v):bnd st id ver→v.oneCell'=true→(∀E d l,st.obj id ver=some (.deep E d l)→okPath d l p∧∃q,rowAt d l p=some q∧i < q.2.length∧∃ad n c,gv (gAt (gv (ρ id)) p)=.slice (some ad) n c∧v=.pointer (some (ad.add (i*q.1.ty.cells+j))))→ARep F ρ w st (.da id ver p i j) v
 | fn (f:FuncId) (cs:List AV) (vs:Array Value):cs.length=vs.size→(∀(i:Nat) (c:AV) (v:Value),cs[i]? =some c→vs[i]? =some v→ARep F ρ w st c v)→ARep F ρ w st (.fn f cs) (.func (.func f) #[] vs)
def ownsAt (w : World) (e : TypeId) (size : Nat) (v : Value) (n : Nat) (xs : List Value) : Prop :=
  xs.length = n * size ∧
  ((v = .slice none 0 0 ∧ n = 0) ∨
   ∃ g off cap cur, v = .slice (some ⟨g, off, none⟩) n cap ∧ w.heap[g]? = some (.cells cur e (0, 0)) ∧ n ≤ cap ∧ cap ≤ maxLen ∧ off + cap * size ≤ cur.size ∧ (cur.toList.drop off).take (n * size) = xs)
theorem ownsAt.of {w:World} {e:TypeId} {size:Nat} {v:Value} {n:Nat} {xs:List Value} (h:w.ownsRow 0 e size v n xs):ownsAt w e size v n xs:=by
 refine ⟨h.1,?_⟩
 rcases h.2 with h | ⟨g,cap,cur,h1,_,h3,h4,h5,h6,h7⟩
 ·exact .inl h
 ·exact .inr ⟨g,0,cap,cur,h1,h3,h4,h5,by rw[Nat.zero_add];exact Nat.le_of_eq h6.symm,by rw[List.drop_zero];exact h7⟩
theorem Zj3 (w:World) (e:TypeId) (size:Nat):ownsAt w e size (.slice none 0 0) 0 []:=⟨by simp,.inl ⟨rfl,rfl⟩⟩
theorem ownsAt.lt {w:World} {e:TypeId} {size:Nat} {v:Value} {n:Nat} {xs:List Value} (h:ownsAt w e size v n xs):∀k,v.ownBlock=some k→k < w.heap.size:=by
 intro k hk
 rcases h.2 with ⟨rfl,_⟩ | ⟨g,off,cap,cur,rfl,hg,_⟩
 ·cases hk
 ·cases hk
  exact (Array.getElem?_eq_some_iff.1 hg).1
theorem ownsAt.cells {w:World} {e:TypeId} {size n g off cap:Nat} {xs:List Value} (h:ownsAt w e size (.slice (some ⟨g,off,none⟩) n cap) n xs) {j:Nat} {u:Value} (hu:xs[j]? =some u):w.cell? ⟨g,off+j,none⟩=some u:=by
 rcases h.2 with ⟨h1,_⟩ | ⟨g',off',cap',cur,h1,hg,_,_,_,htk⟩
 ·cases h1
 ·cases h1
  rw[←htk,List.getElem?_take] at hu
  split at hu
  ·rw[List.getElem?_drop] at hu
   simpa[World.cell?,hg] using hu
  ·cases hu
theorem Z7 (g off n:Nat):(⟨g,off,none⟩:Addr).add n=⟨g,off+n,none⟩:=by unfold Addr.add;split <;> simp_all
def RowRep (F:Nat→Prop) (w:World) (E:TypeId) (t:Ty) (l:List (El t)) (v:Value):Prop:=
 ∃cells,ownsAt w E t.cells v l.length cells∧∀i x,l[i]? =some x→∃cs,LRep F w t x cs∧∀j u,cs[j]? =some u→cells[i*t.cells+j]? =some u
def leafV:(t:Ty)→El t→Value
 |.int k,n=>.int k n
 |.bool,b=>.bool b
 |.str,s=>.string s
 | _,_=>undef
def Stamps (es:Array MapEntry) (clock:Nat):Prop:=(∀b∈es.toList.map (·.born),b < clock)∧(es.toList.map (·.born)).Nodup
def MapRep (w:World) (kt vt:Ty) (l:List (El kt×El vt)) (v:Value):Prop:=
 ∃(r:Nat) (es:Array MapEntry) (clock:Nat),v=.map (some r)∧w.heap[r]? =some (.map es clock)∧leafTy kt=true∧leafTy vt=true∧
  ∃l0:List (El kt×El vt),l0.Perm l∧(l.map Prod.fst).Nodup∧es.toList.map (fun e=>(e.key,e.val))=l0.map (fun x=>(leafV kt x.1,leafV vt x.2))∧Stamps es clock
def hb1:Value→List Nat
 |.pointer (some a)=>[a.block]
 |.slice (some a) _ _=>[a.block]
 |.map (some r)=>[r]
 | _=>[]
def hb:Value→List Nat
 |.pointer (some a)=>[a.block]
 |.slice (some a) _ _=>[a.block]
 |.map (some r)=>[r]
 |.tuple a=>match a.getD 1 undef with
  |.tuple b=>b.toList.flatMap hb1
  | _=>[]
 | _=>[]
def RowD {α:Type} (z:Nat) (P:Value→α→List Value→List Nat→Prop) (w:World) (E:TypeId) (g:Value) (l:List α) (B:List Nat):Prop:=
 ∃(cells:List Value) (Bs:List (List Nat)),ownsAt w E z (gv g) l.length cells∧Bs.length=l.length∧B=hb1 (gv g)++Bs.flatten∧
  ∀i x,l[i]? =some x→∃cs Bi,Bs[i]? =some Bi∧P (gk g i) x cs Bi∧∀j u,cs[j]? =some u→cells[i*z+j]? =some u
def ERep (F:Nat→Prop) (w:World):(d:DTy)→Value→Nat→El d.ty→List Value→List Nat→Prop
 |.leaf t,_,_,x,vs,B=>LRep F w t x vs∧B=[]
 |.ro d,g,k,l,vs,B=>vs=[gv (gk g k)]∧∃E,RowD d.ty.cells (fun g x vs B=>ERep F w d g 0 x vs B) w E (gk g k) l B
 |.pr a b,g,k,x,vs,B=>∃v1 v2 B1 B2,vs=v1++v2∧B=B1++B2∧ERep F w a g k x.1 v1 B1∧ERep F w b g (k+a.ty.cells) x.2 v2 B2
abbrev DRow (F:Nat→Prop) (w:World) (E:TypeId) (d:DTy) (g:Value) (l:List (El d.ty)) (B:List Nat):Prop:=RowD d.ty.cells (fun g x vs B=>ERep F w d g 0 x vs B) w E g l B
class Orgs where
 org:Nat→Value
variable [Orgs]
def ORep (F:Nat→Prop) (ρ:Rho) (w:World) (st:St) (v:Value):Obj→Prop
 |.box T cs tg=>(∀j,tg=some j→v=Orgs.org j)∧∃(b:Nat) (arr:Array Value),v=.pointer (some ⟨b,0,none⟩)∧w.heap[b]? =some (.cells arr T (0,0))∧arr.size=cs.length∧∀(i:Nat) (c:AV) (u:Value),cs[i]? =some c→arr[i]? =some u→ARep F ρ w st c u
 |.row E t l _=>RowRep F w E t l v
 |.map kt vt l=>MapRep w kt vt l v
 |.sit s p=>∃r,v=.pointer (some ⟨r,0,none⟩)∧w.heap[r]? =some (.stringIter s p)
 |.gone tg=>∀j,tg=some j→v=Orgs.org j
 |.deep E d l=>(hb v).Nodup∧DRow F w E d (gv v) l (hb v)
def Obj.free:Obj→Bool
 |.row _ _ _ lk=>!lk
 |.gone _=>false
 | _=>true
class Tabs where
 blocks:List Nat
 ok:World→Prop
 stable:∀ {w w':World},(∀b∈blocks,w'.heap[b]? =w.heap[b]?)→ok w→ok w'
variable [Tabs]
def TabOK (F:Nat→Prop) (w:World):Prop:=(∀b∈Tabs.blocks,F b)∧Tabs.ok w
theorem TabOK.keep {F F':Nat→Prop} {w w':World} (h:TabOK F w) (hk:Keeps F w F' w'):TabOK F' w':=⟨fun b hb=>hk.more _ (h.1 b hb),Tabs.stable (fun b hb=>hk.same b (h.1 b hb)) h.2⟩
structure R (Mod F:Nat→Prop) (ρ:Rho) (w:World) (st:St) (tm:Array Value):Prop where
 size:tm.size=st.tm.length
 tms:∀(i:Nat) (x:AV),st.tm[i]? =some x→∃v:Value,tm[i]? =some v∧ARep F ρ w st x v
 obs:∀id ver o,find id st.ob=some (ver,o)→ORep F ρ w st (ρ id) o
 sep:∀id ver o b,find id st.ob=some (ver,o)→o.free=true→b∈hb (ρ id)→
  ¬F b∧Mod b∧b < w.heap.size∧∀id' ver' o',find id' st.ob=some (ver',o')→o'.free=true→b∈hb (ρ id')→id'=id
 data:∀id ver E t l,find id st.ob=some (ver,.row E t l true)→∀b,b∈hb (ρ id)→F b
 low:∀b,F b→b < w.heap.size
 hi:∀b,w.heap.size≤b→Mod b
 tabs:TabOK F w
structure Evo (Mod F:Nat→Prop) (w:World) (F':Nat→Prop) (w':World):Prop where
 os:w'.os=w.os
 tape:w'.tape=w.tape
 output:w'.output=w.output
 size:w.heap.size≤w'.heap.size
 more:∀b,F b→F' b
 new:∀b,F' b→F b∨Mod b
 same:∀b,b < w.heap.size→(F b∨¬Mod b)→w'.heap[b]? =w.heap[b]?
theorem Evo.refl (Mod F:Nat→Prop) (w:World):Evo Mod F w F w:=⟨rfl,rfl,rfl,Nat.le_refl _,fun _ h=>h,fun _ h=>.inl h,fun _ _ _=>rfl⟩
theorem Evo.trans {Mod F F' F'':Nat→Prop} {w w' w'':World} (h:Evo Mod F w F' w') (k:Evo Mod F' w' F'' w''):Evo Mod F w F'' w'':=
 ⟨k.os.trans h.os,k.tape.trans h.tape,k.output.trans h.output,Nat.le_trans h.size k.size,fun b hb=>k.more b (h.more b hb),
  fun b hb=>(k.new b hb).elim (fun x=>h.new b x) .inr,fun b hb hF=>(k.same b (Nat.lt_of_lt_of_le hb h.size) (hF.imp (h.more b) id)).trans (h.same b hb hF)⟩
theorem Evo.keeps {Mod F F':Nat→Prop} {w w':World} (h:Evo Mod F w F' w') (low:∀b,F b→b < w.heap.size):Keeps F w F' w':=
 ⟨h.more,fun b hb=>h.same b (low b hb) (.inl hb)⟩
theorem Zg4 {a b:Nat} (h:a≠b):Nat.beq a b=false:=by
 cases e:Nat.beq a b with
 | false=>rfl
 | true=>exact absurd (Nat.eq_of_beq_eq_true e) h
theorem Zw {st:St} {id ver:Nat} {o:Obj} :st.obj id ver=some o↔find id st.ob=some (ver,o):=by
 unfold St.obj
 cases h:find id st.ob with
 | none=>simp
 | some p=>
  obtain ⟨v,o'⟩:=p
  simp only[Option.some.injEq,Prod.mk.injEq]
  by_cases hv:v=ver
  ·subst hv;simp
  ·have:Nat.beq v ver=false:=Zg4 hv
   simp[this,hv]
theorem ZfM (id:Id) (p:Nat×Obj) (i:Id):∀l,find i (ins id p l)=if i=id then some p else find i l
 | []=>by
  simp only[ins,find]
  by_cases h:i=id
  ·subst h;simp
  ·have:Nat.beq id i=false:=Zg4 (Ne.symm h)
   simp[this,h]
 | (x,q) :: r=>by
  simp only[ins]
  by_cases hx:x=id
  ·subst hx
   simp only[Nat.beq_refl,cond_true,find]
   by_cases h:i=x
   ·subst h;simp
   ·have:Nat.beq x i=false:=Zg4 (Ne.symm h)
    simp[this,h]
  ·have hxi:Nat.beq x id=false:=Zg4 hx
   simp only[hxi,cond_false]
   cases hle:Nat.ble id x with
   | true=>
    simp only[cond_true,find]
    by_cases h:i=id
    ·subst h;simp
    ·have:Nat.beq id i=false:=Zg4 (Ne.symm h)
     simp[this,h]
   | false=>
    simp only[cond_false,find,ZfM id p i r]
    by_cases h:i=id
    ·subst h;simp[hxi]
    ·simp[h]
end Go.Ev
end

section
namespace Go.Ev
variable [Tabs] [Orgs]
open Go
def sameE:(d:DTy)→El d.ty→El d.ty→Prop
 |.leaf _,_,_=>True
 |.ro d,(l:List (El d.ty)),(l':List (El d.ty))=>l.length=l'.length∧∀(i:Nat) (x x':El d.ty),l[i]? =some x→l'[i]? =some x'→sameE d x x'
 |.pr a b,x,x'=>sameE a x.1 x'.1∧sameE b x.2 x'.2
def sameR (d:DTy) (l l':List (El d.ty)):Prop:=l.length=l'.length∧∀(i:Nat) (x x':El d.ty),l[i]? =some x→l'[i]? =some x'→sameE d x x'
theorem Zcu:∀(d:DTy) (x:El d.ty),sameE d x x
 |.leaf _,_=>trivial
 |.ro d,l=>⟨rfl,fun i x x' h h'=>by rw[h] at h';cases h';exact Zcu d x⟩
 |.pr a b,x=>⟨Zcu a x.1,Zcu b x.2⟩
theorem Zqd (d:DTy) (l:List (El d.ty)):sameR d l l:=⟨rfl,fun i x x' h h'=>by rw[h] at h';cases h';exact Zcu d x⟩
theorem Zh2:∀ {d:DTy} {x y z:El d.ty},sameE d x y→sameE d y z→sameE d x z
 |.leaf _,_,_,_,_,_=>trivial
 |.ro d,l,l',l2,h,h'=>⟨h.1.trans h'.1,fun i x z hx hz=>by
   have hlt:i < List.length l':=by rw[←h.1];exact (List.getElem?_eq_some_iff.1 hx).1
   have hy:l'[i]? =some (l'[i]'hlt):=List.getElem?_eq_getElem hlt
   exact Zh2 (h.2 i x _ hx hy) (h'.2 i _ z hy hz)⟩
 |.pr a b,x,y,z,h,h'=>⟨Zh2 h.1 h'.1,Zh2 h.2 h'.2⟩
theorem ZuM {d:DTy} {l l' l2:List (El d.ty)} (h:sameR d l l') (h':sameR d l' l2):sameR d l l2:=Zh2 (d:=.ro d) h h'
theorem ZbP {α:Type} {l:List α} {i:Nat} {z:α} (h:i < l.length):l[i]? =some (l.getD i z):=by simp[List.getD,List.getElem?_eq_getElem h]
theorem ZnG:∀ {d:DTy} {x x':El d.ty} {k:Nat} {q:DRw},sameE d x x'→roAt d x k=some q→∃l',roAt d x' k=some ⟨q.1,l'⟩∧sameR q.1 q.2 l'
 |.leaf _,_,_,_,_,_,h=>by cases h
 |.ro d,l,l',k,q,hs,h=>by
  simp only[roAt] at h ⊢
  cases hk:Nat.beq k 0 with
  | false=>rw[hk] at h;cases h
  | true=>rw[hk] at h;cases h;exact ⟨l',rfl,hs⟩
 |.pr a b,x,x',k,q,hs,h=>by
  simp only[roAt] at h ⊢
  cases hk:Nat.blt k a.ty.cells with
  | true=>rw[hk] at h;exact ZnG hs.1 h
  | false=>rw[hk] at h;exact ZnG hs.2 h
theorem Zla:∀ {p:Path} {d:DTy} {l l':List (El d.ty)},sameR d l l'→okPath d l p→okPath d l' p∧∀q,rowAt d l p=some q→∃l2,rowAt d l' p=some ⟨q.1,l2⟩∧sameR q.1 q.2 l2
 | [],d,l,l',h,_=>⟨trivial,fun q e=>by cases e;exact ⟨l',rfl,h⟩⟩
 | (i,k) :: r,d,l,l',h,hp=>by
  obtain ⟨hi,q0,hq0,hr⟩:=hp
  have hi':i < l'.length:=by rw[←h.1];exact hi
  obtain ⟨l2,h2,hs⟩:=ZnG (h.2 i _ _ (ZbP hi) (ZbP (z:=dflt d.ty) hi')) hq0
  obtain ⟨h3,h4⟩:=Zla hs hr
  refine ⟨⟨hi',_,h2,h3⟩,fun q e=>?_⟩
  simp only[rowAt,hq0] at e
  simp only[rowAt,h2]
  exact h4 q e
def Obj.sim:Obj→Obj→Prop
 |.row _ t l _,.row _ t' l' _=>t=t'∧List.length l=List.length l'
 | _,.row _ _ _ _=>False
 |.deep E d l,.deep E' d' l'=>E=E'∧∃h:d=d',sameR d' (h▸l) l'
 | _,.deep _ _ _=>False
 |.sit _ _,.sit _ _=>True
 | _,.sit _ _=>False
 | _,_=>True
structure Ref (st:St) (ρ:Rho) (st':St) (ρ':Rho):Prop where
 b:∀id ver,bnd st id ver→bnd st' id ver
 o:∀id ver o',bnd st id ver→st'.obj id ver=some o'→∃o,st.obj id ver=some o∧ρ' id=ρ id∧Obj.sim o o'
theorem Obj.sim_refl:∀o:Obj,o.sim o
 |.box _ _ _=>trivial
 |.row _ _ _ _=>⟨rfl,rfl⟩
 |.map _ _ _=>trivial
 |.sit _ _=>trivial
 |.gone _=>trivial
 |.deep _ _ _=>⟨rfl,rfl,Zqd _ _⟩
theorem Obj.sim_gone (o:Obj) (tg:Option Nat):o.sim (.gone tg):=by cases o <;> trivial
theorem Ref.of_ob {st st':St} {ρ:Rho} (h:st'.ob=st.ob):Ref st ρ st' ρ where
 b:=fun id ver ⟨v,o,hf,hv⟩=>⟨v,o,by rw[h];exact hf,hv⟩
 o:=fun id ver o' _ ho=>⟨o',by rw[Zw] at ho ⊢;rw[←h];exact ho,rfl,o'.sim_refl⟩
theorem ARep.mono {F F':Nat→Prop} {w w':World} {st st':St} {ρ ρ':Rho} (hk:Keeps F w F' w') (hr:Ref st ρ st' ρ') {x:AV} {v:Value} (h:ARep F ρ w st x v):ARep F' ρ' w' st' x v:=by
 induction h with
 | top v=>exact .top v
 | d t x v h=>exact .d t x v (h.keep hk)
 | nil=>exact .nil
 | cst v=>exact .cst v
 | ag cs vs hl _ ih=>exact .ag cs vs hl ih
 | tu cs vs hl _ ih=>exact .tu cs vs hl ih
 | pt id ver off v hb h1 h=>
  refine .pt id ver off v (hr.b _ _ hb) h1 fun o' ho=>?_
  obtain ⟨o,ho,he,hs⟩:=hr.o _ _ _ hb ho
  obtain ⟨b,hb,hv⟩:=h _ ho
  exact ⟨b,he.trans hb,hv⟩
 | pe id ver i j v hb h1 h=>
  refine .pe id ver i j v (hr.b _ _ hb) h1 fun E t l lk ho=>?_
  obtain ⟨o,ho,he,hs⟩:=hr.o _ _ _ hb ho
  cases o <;> simp only[Obj.sim] at hs
  obtain ⟨ht,hl⟩:=hs
  obtain ⟨ad,n,c,hb,hv,hi⟩:=h _ _ _ _ ho
  exact ⟨ad,n,c,he.trans hb,by rw[←ht];exact hv,by omega⟩
 | rp t x j ad cs hl hF hc=>
  refine .rp t x j ad cs (hl.keep hk) (hk.more _ hF) fun m v hv=>?_
  rw[hk.cell (by rw[Addr.add_block];exact hF)]
  exact hc m v hv
 | own id ver pre v hb h1 h=>
  refine .own id ver pre v (hr.b _ _ hb) h1 fun E t l lk ho=>?_
  obtain ⟨o,ho,he,hs⟩:=hr.o _ _ _ hb ho
  cases o <;> simp only[Obj.sim] at hs
  obtain ⟨_,hl⟩:=hs
  obtain ⟨hp,A,c,hb,hv⟩:=h _ _ _ _ ho
  refine ⟨fun n hn=>by have:=hp n hn;omega,A,c,?_,?_⟩
  ·rw[he,hb,hl]
  ·rw[hv,hl]
 | mp id ver v hb h1 h=>
  refine .mp id ver v (hr.b _ _ hb) h1 fun o' ho=>?_
  obtain ⟨o,ho,he,hs⟩:=hr.o _ _ _ hb ho
  exact (h _ ho).trans he.symm
 | it id ver v hb h1 h=>
  refine .it id ver v (hr.b _ _ hb) h1 fun s p ho=>?_
  obtain ⟨o,ho,he,hs⟩:=hr.o _ _ _ hb ho
  cases o <;> simp only[Obj.sim] at hs
  exact (h _ _ ho).trans he.symm
 | dn id ver p v hb h1 h=>
  refine .dn id ver p v (hr.b _ _ hb) h1 fun E d l ho=>?_
  obtain ⟨o,ho1,he,hs⟩:=hr.o _ _ _ hb ho
  cases o <;> simp only[Obj.sim] at hs
  obtain ⟨rfl,rfl,hs⟩:=hs
  obtain ⟨hp,hv⟩:=h _ _ _ ho1
  exact ⟨(Zla hs hp).1,by rw[he];exact hv⟩
 | da id ver p i j v hb h1 h=>
  refine .da id ver p i j v (hr.b _ _ hb) h1 fun E d l ho=>?_
  obtain ⟨o,ho1,he,hs⟩:=hr.o _ _ _ hb ho
  cases o <;> simp only[Obj.sim] at hs
  obtain ⟨rfl,rfl,hs⟩:=hs
  obtain ⟨hp,q,hq,hi,ad,n,c,hg,hv⟩:=h _ _ _ ho1
  obtain ⟨hp',hq'⟩:=Zla hs hp
  obtain ⟨l2,h2,h3⟩:=hq' q hq
  exact ⟨hp',_,h2,by rw[←h3.1];exact hi,ad,n,c,by rw[he];exact hg,hv⟩
 | ifc t x v _ ih=>exact .ifc t x v ih
 | fn f cs vs hl _ ih=>exact .fn f cs vs hl ih
theorem Keeps.refl (F:Nat→Prop) (w:World):Keeps F w F w:=⟨fun _ h=>h,fun _ _=>rfl⟩
theorem ARep.of_ob {F:Nat→Prop} {w:World} {st st':St} {ρ:Rho} (h:st'.ob=st.ob) {x:AV} {v:Value} (hx:ARep F ρ w st x v):ARep F ρ w st' x v:=hx.mono (Keeps.refl _ _) (Ref.of_ob h)
theorem Zfx {w w':World} {e:TypeId} {size:Nat} {v:Value} {n:Nat} {xs:List Value} (h:ownsAt w e size v n xs) (hs:∀b,b∈hb1 v→w'.heap[b]? =w.heap[b]?):ownsAt w' e size v n xs:=by
 refine ⟨h.1,?_⟩
 rcases h.2 with hn | ⟨g,off,cap,cur,hv,hh,r⟩
 ·exact .inl hn
 ·exact .inr ⟨g,off,cap,cur,hv,by rw[hs g (by rw[hv];simp[hb1])];exact hh,r⟩
theorem ZwO {v:Value} {b:Nat} (h:b∈hb1 v):b∈hb v:=by
 unfold hb1 at h
 unfold hb
 split at h <;> first | exact h | (simp at h;done)
theorem Zca {w:World} {e:TypeId} {size:Nat} {v:Value} {n:Nat} {xs:List Value} (h:ownsAt w e size v n xs):hb1 v=hb v:=by
 rcases h.2 with ⟨rfl,_⟩ | ⟨g,off,cap,cur,rfl,_⟩ <;> rfl
theorem RowD.keep {α:Type} {z:Nat} {P P':Value→α→List Value→List Nat→Prop} {w w':World} {E:TypeId} {g:Value} {l:List α} {B:List Nat} (h:RowD z P w E g l B) (hs:∀b∈B,w'.heap[b]? =w.heap[b]?)
  (hP:∀g x vs Bi,(∀b∈Bi,w'.heap[b]? =w.heap[b]?)→P g x vs Bi→P' g x vs Bi):RowD z P' w' E g l B:=by
 obtain ⟨cells,Bs,h1,h2,h3,h4⟩:=h
 refine ⟨cells,Bs,Zfx h1 (fun b hb=>hs b (by rw[h3];simp[hb])),h2,h3,fun i x hx=>?_⟩
 obtain ⟨cs,Bi,k1,k2,k3⟩:=h4 i x hx
 exact ⟨cs,Bi,k1,hP _ _ _ _ (fun b hb=>hs b (by rw[h3];exact List.mem_append_right _ (List.mem_flatten.2 ⟨Bi,List.mem_of_getElem? k1,hb⟩))) k2,k3⟩
theorem ERep.keep {F F':Nat→Prop} {w w':World} (hk:Keeps F w F' w'):∀ {d:DTy} {g:Value} {k:Nat} {x:El d.ty} {vs:List Value} {B:List Nat},(∀b∈B,w'.heap[b]? =w.heap[b]?)→ERep F w d g k x vs B→ERep F' w' d g k x vs B
 |.leaf t,g,k,x,vs,B,_,h=>⟨h.1.keep hk,h.2⟩
 |.ro d,g,k,l,vs,B,hs,h=>by
  obtain ⟨h1,E,h2⟩:=h
  exact ⟨h1,E,h2.keep hs fun g x vs Bi hb h=>h.keep hk hb⟩
 |.pr a b,g,k,x,vs,B,hs,h=>by
  obtain ⟨v1,v2,B1,B2,e1,e2,h1,h2⟩:=h
  exact ⟨v1,v2,B1,B2,e1,e2,h1.keep hk (fun b hb=>hs b (by rw[e2];simp[hb])),h2.keep hk fun b hb=>hs b (by rw[e2];simp[hb])⟩
theorem DRow.keep {F F':Nat→Prop} {w w':World} (hk:Keeps F w F' w') {E:TypeId} {d:DTy} {g:Value} {l:List (El d.ty)} {B:List Nat} (hs:∀b∈B,w'.heap[b]? =w.heap[b]?) (h:DRow F w E d g l B):DRow F' w' E d g l B:=
 RowD.keep h hs fun g x vs Bi hb h=>ERep.keep hk hb h
theorem ORep.mono {F F':Nat→Prop} {w w':World} {st st':St} {ρ ρ':Rho} (hk:Keeps F w F' w') (hr:Ref st ρ st' ρ') {v:Value} {o:Obj} (hs:∀b,b∈hb v→w'.heap[b]? =w.heap[b]?)
  (h:ORep F ρ w st v o):ORep F' ρ' w' st' v o:=by
 cases o with
 | box T cs tg=>
  obtain ⟨htg,b,arr,hv,hh,hl,hc⟩:=h
  exact ⟨htg,b,arr,hv,by rw[hs b (by rw[hv];simp[Go.Ev.hb])];exact hh,hl,fun i c u h1 h2=>(hc i c u h1 h2).mono hk hr⟩
 | row E t l lk=>
  obtain ⟨cells,ho,hl⟩:=h
  exact ⟨cells,Zfx ho (fun b hb=>hs b (ZwO hb)),fun i x hx=>let ⟨cs,h1,h2⟩:=hl i x hx;⟨cs,h1.keep hk,h2⟩⟩
 | map kt vt l=>
  obtain ⟨r,es,clock,hv,hh,rest⟩:=h
  exact ⟨r,es,clock,hv,by rw[hs r (by rw[hv];simp[Go.Ev.hb])];exact hh,rest⟩
 | sit s p=>
  obtain ⟨r,hv,hh⟩:=h
  exact ⟨r,hv,by rw[hs r (by rw[hv];simp[Go.Ev.hb])];exact hh⟩
 | gone=>trivial
 | deep E d l=>exact ⟨h.1,h.2.keep hk hs⟩
def updR (ρ:Rho) (id:Id) (v:Value):Rho:=fun i=>if i=id then v else ρ i
theorem Zp {st:St} {id:Id} {ver:Nat} {o:Obj} (i:Id):find i (st.setOb id ver o).ob=if i=id then some (ver,o) else find i st.ob:=ZfM _ _ _ _
theorem Ref.set {st:St} {ρ:Rho} {id ver':Nat} {o':Obj} {h':Value} (hver:(∃o,find id st.ob=some (ver',o)∧h'=ρ id∧Obj.sim o o')∨ver'=st.nextVer id):Ref st ρ (st.setOb id ver' o') (updR ρ id h') where
 b:=fun i ver ⟨v,o,hf,hv⟩=>by
  by_cases hi:i=id
  ·subst hi
   refine ⟨ver',o',by rw[Zp,if_pos rfl],?_⟩
   rcases hver with ⟨o2,h2,_⟩ | h2
   ·rw[hf] at h2;cases h2;exact hv
   ·rw[h2,St.nextVer,hf];simp only;omega
  ·exact ⟨v,o,by rw[Zp,if_neg hi];exact hf,hv⟩
 o:=fun i ver o2 ⟨v,o,hf,hv⟩ ho=>by
  rw[Zw,Zp] at ho
  by_cases hi:i=id
  ·subst hi
   rw[if_pos rfl] at ho
   cases ho
   rcases hver with ⟨o3,h3,he,hs⟩ | h3
   ·exact ⟨o3,Zw.2 h3,by simp only[updR,if_true];exact he,hs⟩
   ·rw[St.nextVer,hf] at h3;simp only at h3;omega
  ·rw[if_neg hi] at ho
   exact ⟨o2,Zw.2 ho,by simp only[updR,if_neg hi],o2.sim_refl⟩
theorem R.set' {Mod F:Nat→Prop} {ρ:Rho} {w w':World} {st:St} {tm:Array Value} (h:R Mod F ρ w st tm) {id ver':Nat} {o':Obj} {h':Value}
  (hos:w'.os=w.os) (htape:w'.tape=w.tape) (hout:w'.output=w.output) (hsz:w.heap.size≤w'.heap.size)
  (hver:(∃o,find id st.ob=some (ver',o)∧h'=ρ id∧Obj.sim o o')∨ver'=st.nextVer id)
  (hsame:∀k,k < w.heap.size→(∀v o,find id st.ob=some (v,o)→o.free=true→k∉hb (ρ id))→w'.heap[k]? =w.heap[k]?)
  (hblk:o'.free=true→∀b,b∈hb h'→¬F b∧Mod b∧b < w'.heap.size∧(∀i v o,i≠id→find i st.ob=some (v,o)→o.free=true→b∉hb (ρ i)))
  (hdata:∀E t l,o'=.row E t l true→∀b,b∈hb h'→F b)
  (hO:ORep F (updR ρ id h') w' (st.setOb id ver' o') h' o'):
  R Mod F (updR ρ id h') w' (st.setOb id ver' o') tm∧Evo Mod F w F w':=by
 have hevo:Evo Mod F w F w':=⟨hos,htape,hout,hsz,fun _ h=>h,fun _ h=>.inl h,fun b hlt hF=>hsame b hlt fun v o hf hfr hbk=>by
  obtain ⟨h1,h2,_⟩:=h.sep _ _ _ _ hf hfr hbk
  exact hF.elim h1 fun h3=>h3 h2⟩
 have hk:=hevo.keeps h.low
 have hr:=Ref.set (ρ:=ρ) (o':=o') hver
 refine ⟨⟨?_,?_,?_,?_,?_,?_,fun b hb=>h.hi b (by omega),h.tabs.keep hk⟩,hevo⟩
 ·exact h.size
 ·intro i x hx
  obtain ⟨v,hv,ha⟩:=h.tms i x hx
  exact ⟨v,hv,ha.mono hk hr⟩
 ·intro i ver o hf
  rw[Zp] at hf
  by_cases hi:i=id
  ·subst hi
   rw[if_pos rfl] at hf
   cases hf
   simp only[updR,if_true]
   exact hO
  ·rw[if_neg hi] at hf
   simp only[updR,if_neg hi]
   by_cases hgone:∃tg,o=.gone tg
   ·obtain ⟨tg,rfl⟩:=hgone;exact h.obs i ver _ hf
   refine ORep.mono hk hr (fun b hbk=>?_) (h.obs _ _ _ hf)
   by_cases hfr:o.free=true
   ·obtain ⟨_,_,hlt,huniq⟩:=h.sep _ _ _ _ hf hfr hbk
    refine hsame b hlt fun v2 o2 hf2 hfr2 hb2=>hi ?_
    exact (h.sep _ _ _ _ hf2 hfr2 hb2).2.2.2 _ _ _ hf hfr hbk
   ·cases o with
    | row E t l lk=>
     have:lk=true:=by simpa[Obj.free] using hfr
     subst this
     exact hk.same b (h.data _ _ _ _ _ hf b hbk)
    | gone tg=>exact absurd ⟨tg,rfl⟩ hgone
    | box T cs tg=>simp[Obj.free] at hfr
    | map kt vt l=>simp[Obj.free] at hfr
    | sit s p=>simp[Obj.free] at hfr
    | deep E d l=>simp[Obj.free] at hfr
 ·intro i ver o b hf hfr hbk
  rw[Zp] at hf
  by_cases hi:i=id
  ·subst hi
   rw[if_pos rfl] at hf
   cases hf
   simp only[updR,if_true] at hbk
   obtain ⟨h1,h2,h3,h4⟩:=hblk hfr b hbk
   refine ⟨h1,h2,h3,fun id' v2 o2 hf2 hfr2 hb2=>?_⟩
   by_cases hi2:id'=i
   ·exact hi2
   ·rw[Zp,if_neg hi2] at hf2
    simp only[updR,if_neg hi2] at hb2
    obtain ⟨_,_,hlt,hu⟩:=h.sep _ _ _ _ hf2 hfr2 hb2
    exact absurd hb2 (h4 _ _ _ hi2 hf2 hfr2)
  ·rw[if_neg hi] at hf
   simp only[updR,if_neg hi] at hbk
   obtain ⟨h1,h2,h3,h4⟩:=h.sep _ _ _ _ hf hfr hbk
   refine ⟨h1,h2,by omega,fun id' v2 o2 hf2 hfr2 hb2=>?_⟩
   by_cases hi2:id'=id
   ·subst hi2
    rw[Zp,if_pos rfl] at hf2
    cases hf2
    simp only[updR,if_true] at hb2
    obtain ⟨_,_,_,h5⟩:=hblk hfr2 b hb2
    exact absurd hbk (h5 _ _ _ hi hf hfr)
   ·rw[Zp,if_neg hi2] at hf2
    simp only[updR,if_neg hi2] at hb2
    exact h4 _ _ _ hf2 hfr2 hb2
 ·intro i ver E t l hf b hbk
  rw[Zp] at hf
  by_cases hi:i=id
  ·subst hi
   rw[if_pos rfl] at hf
   cases hf
   simp only[updR,if_true] at hbk
   exact hdata _ _ _ rfl b hbk
  ·rw[if_neg hi] at hf
   simp only[updR,if_neg hi] at hbk
   exact h.data _ _ _ _ _ hf b hbk
 ·intro b hF
  exact Nat.lt_of_lt_of_le (h.low b hF) hsz
theorem R.set {Mod F:Nat→Prop} {ρ:Rho} {w w':World} {st:St} {tm:Array Value} (h:R Mod F ρ w st tm) {id ver':Nat} {o':Obj} {h':Value}
  (hos:w'.os=w.os) (htape:w'.tape=w.tape) (hout:w'.output=w.output) (hsz:w.heap.size≤w'.heap.size)
  (hver:(∃o,find id st.ob=some (ver',o)∧h'=ρ id∧Obj.sim o o')∨ver'=st.nextVer id)
  (hsame:∀k,k < w.heap.size→(∀v o,find id st.ob=some (v,o)→o.free=true→k∉hb (ρ id))→w'.heap[k]? =w.heap[k]?)
  (hblk:o'.free=true→∀b,b∈hb h'→¬F b∧Mod b∧b < w'.heap.size∧(w.heap.size≤b∨∃v o,find id st.ob=some (v,o)∧o.free=true∧b∈hb (ρ id)))
  (hdata:∀E t l,o'=.row E t l true→∀b,b∈hb h'→F b)
  (hO:ORep F (updR ρ id h') w' (st.setOb id ver' o') h' o'):
  R Mod F (updR ρ id h') w' (st.setOb id ver' o') tm∧Evo Mod F w F w':=
 R.set' h hos htape hout hsz hver hsame (fun hfr b hbb=>by
  obtain ⟨h1,h2,h3,h4⟩:=hblk hfr b hbb
  refine ⟨h1,h2,h3,fun i v o hi hf hfr' hbi=>?_⟩
  obtain ⟨_,_,hlt,hu⟩:=h.sep _ _ _ _ hf hfr' hbi
  rcases h4 with h4 | ⟨v3,o3,hf3,hfr3,hb3⟩
  ·omega
  ·exact hi (hu _ _ _ hf3 hfr3 hb3).symm) hdata hO
theorem R.put {Mod F:Nat→Prop} {ρ:Rho} {w:World} {st:St} {a:Act} (h:R Mod F ρ w st a.tmps) {x:AV} {v:Value} (hx:ARep F ρ w st x v) (dst:Option Nat):R Mod F ρ w (st.put dst x) (a.put dst v).tmps:=by
 cases dst with
 | none=>exact h
 | some d=>
  have hob:(st.put (some d) x).ob=st.ob:=rfl
  refine ⟨?_,?_,?_,?_,?_,h.low,h.hi,h.tabs⟩
  ·simp[St.put,Act.put,h.size]
  ·intro i y hy
   simp only[St.put,List.getElem?_set] at hy
   simp only[Act.put,Array.getElem?_setIfInBounds]
   by_cases hi:d=i
   ·subst hi
    simp only[if_true] at hy ⊢
    split at hy
    ·rename_i hlt
     cases hy
     exact ⟨v,by rw[if_pos (by rw[h.size];exact hlt)],hx.of_ob hob⟩
    ·cases hy
   ·simp only[if_neg hi] at hy ⊢
    obtain ⟨u,hu,ha⟩:=h.tms i y hy
    exact ⟨u,hu,ha.of_ob hob⟩
  ·exact fun i ver o hf=>ORep.mono (Keeps.refl _ _) (Ref.of_ob hob) (fun _ _=>rfl) (h.obs i ver o hf)
  ·exact h.sep
  ·exact h.data
end Go.Ev
end

section
namespace Go.Ev
variable [Tabs] [Orgs]
open Go
def Sat {α:Type} (m:M α) (p:α→Prop):Prop:=∀k y,m k=some y→∃a,p a∧k a=some y
theorem Sat.pure {α:Type} {a:α} {p:α→Prop} (h:p a):Sat (M.pure a) p:=fun _ _ e=>⟨a,h,e⟩
theorem Sat.fail {α:Type} {p:α→Prop} :Sat (fail:M α) p:=fun _ _ e=>by cases e
theorem Sat.bind {α β:Type} {m:M α} {f:α→M β} {p:α→Prop} {q:β→Prop} (h:Sat m p) (hf:∀a,p a→Sat (f a) q):Sat (M.bind m f) q:=
 fun k y e=>let ⟨a,ha,e'⟩:=h _ _ e;hf a ha k y e'
theorem Sat.mono {α:Type} {m:M α} {p q:α→Prop} (h:Sat m p) (hq:∀a,p a→q a):Sat m q:=fun k y e=>let ⟨a,ha,e'⟩:=h k y e;⟨a,hq a ha,e'⟩
theorem Sat.cond {α:Type} {b:Bool} {m n:M α} {p:α→Prop} (h:b=true→Sat m p) (h':b=false→Sat n p):Sat (bif b then m else n) p:=by
 cases b
 ·exact h' rfl
 ·exact h rfl
theorem Sat.cond' {α:Type} {b:Bool} {m n:M α} {p:α→Prop} (h:b=true→Sat m p) (h':b=false→Sat n p):Sat (fun k=>bif b then m k else n k) p:=by
 cases b
 ·exact h' rfl
 ·exact h rfl
theorem Sat.guard {α:Type} {b:Bool} {m:M α} {p:α→Prop} (h:b=true→Sat m p):Sat (fun k=>bif b then m k else none) p:=Sat.cond' h fun _=>fun _ _ e=>by cases e
theorem Sat.branch {b:Bool} :Sat (branch b) (fun c=>c=b):=fun k y e=>by
 cases b <;> exact ⟨_,rfl,e⟩
theorem Sat.toB {x:AV} :Sat (toB x) (fun b=>x=.d .bool b):=by
 unfold Go.Ev.toB
 split
 ·exact Sat.pure rfl
 ·exact Sat.fail
theorem Sat.toI {x:AV} :Sat (toI x) (fun p=>x=.d (.int p.1) p.2):=by
 unfold Go.Ev.toI
 split
 ·exact Sat.pure rfl
 ·exact Sat.fail
section
variable {P:Program} {Mod:Nat→Prop} {o:Oper} {st:St}
def OpPost (Mod F:Nat→Prop) (w:World) (st':St):Act→World→Prop:=fun a' w'=>a'.defers=[]∧∃F' ρ',R Mod F' ρ' w' st' a'.tmps∧Evo Mod F w F' w'
def OpOK (P:Program) (Mod:Nat→Prop) (o:Oper) (st st':St):Prop:=
 ∀F ρ w (a:Act) Q,R Mod F ρ w st a.tmps→a.defers=[]→o.wp P a w (OpPost Mod F w st') Q
theorem ZX (a:Act) (d:Option Nat) (v:Value):(a.put d v).defers=a.defers:=by cases d <;> rfl
theorem ZG {v:AV} (h:∀F ρ w (a:Act),R Mod F ρ w st a.tmps→∃u,(execOp a.eval o).run P w=.ok (.value u) w∧ARep F ρ w st v u):OpOK P Mod o st (st.put o.dst v):=by
 intro F ρ w a Q hR hd
 obtain ⟨u,hu,hv⟩:=h F ρ w a hR
 unfold Oper.wp
 rw[hu]
 exact ⟨by rw[ZX];exact hd,F,ρ,hR.put hv o.dst,Evo.refl _ _ _⟩
theorem Zi2 {F:Nat→Prop} {ρ:Rho} {w:World} (v:Value):ARep F ρ w st (ofVal v) v:=by
 unfold ofVal
 split
 ·exact .d _ _ _ rfl
 ·exact .d _ _ _ rfl
 ·exact .d _ _ _ rfl
 ·exact .nil
 ·exact .cst _
theorem Zt {F:Nat→Prop} {ρ:Rho} {w:World} {a:Act} (hR:R Mod F ρ w st a.tmps) (x:Operand):ARep F ρ w st (st.ev x) (a.eval x):=by
 cases x with
 | tmp t=>
  simp only[St.ev,Act.eval,List.getD_eq_getElem?_getD,Array.getD_eq_getD_getElem?]
  cases h:st.tm[t]? with
  | none=>exact .top _
  | some y=>
   obtain ⟨v,hv,ha⟩:=hR.tms t y h
   rw[hv]
   exact ha
 | const v=>exact Zi2 v
 | global g=>exact .cst _
 | func f=>exact .cst _
theorem Zcq {F:Nat→Prop} {ρ:Rho} {w:World} {b:Bool} {v:Value} (h:ARep F ρ w st (.d .bool b) v):v=.bool b:=by
 cases h with
 | d _ _ _ h=>simpa[LRep] using h
theorem Zaq {F:Nat→Prop} {ρ:Rho} {w:World} {k:IntKind} {n:Int} {v:Value} (h:ARep F ρ w st (.d (.int k) n) v):v=.int k n:=by
 cases h with
 | d _ _ _ h=>simpa[LRep] using h
theorem Zgz {F:Nat→Prop} {ρ:Rho} {w:World} {s:ByteArray} {v:Value} (h:ARep F ρ w st (.d .str s) v):v=.string s:=by
 cases h with
 | d _ _ _ h=>simpa[LRep] using h
theorem Zc3 {F:Nat→Prop} {ρ:Rho} {w:World} (b:Bool):ARep F ρ w st (mkB b) (.bool b):=.d _ _ _ rfl
theorem ZkE {F:Nat→Prop} {ρ:Rho} {w:World} (n:Int):ARep F ρ w st (mkI n) (.int .i64 n):=.d _ _ _ rfl
theorem Zyf {cl:Cl} {x:Operand} (h:o.op=.move x):Sat (opA P cl o st) (OpOK P Mod o st):=by
 simp only[opA,h]
 exact Sat.pure (ZG fun F ρ w a hR=>⟨a.eval x,by simp[execOp,h],Zt hR x⟩)
theorem Zwt {cl:Cl} {x:Operand} (h:o.op=.assign x):Sat (opA P cl o st) (OpOK P Mod o st):=by
 simp only[opA,h]
 exact Sat.pure (ZG fun F ρ w a hR=>⟨a.eval x,by simp[execOp,h],Zt hR x⟩)
theorem Zyk {cl:Cl} {c x y:Operand} (h:o.op=.pick c x y):Sat (opA P cl o st) (OpOK P Mod o st):=by
 simp only[opA,h]
 refine Sat.bind Sat.toB fun b hb=>Sat.bind Sat.branch fun b' hb'=>?_
 subst hb'
 cases b'
 ·exact Sat.pure (ZG fun F ρ w a hR=>⟨a.eval y,by
   have hc:=Zt hR c
   rw[hb] at hc
   simp[execOp,h,Zcq hc,asBool],Zt hR y⟩)
 ·exact Sat.pure (ZG fun F ρ w a hR=>⟨a.eval x,by
   have hc:=Zt hR c
   rw[hb] at hc
   simp[execOp,h,Zcq hc,asBool],Zt hR x⟩)
theorem Zyz {cl:Cl} {op:UnOp} {T:TypeId} {x:Operand} (h:o.op=.unOp op T x):Sat (opA P cl o st) (OpOK P Mod o st):=by
 simp only[opA,h]
 refine Sat.bind (p:=fun v=>∀F ρ w (a:Act),R Mod F ρ w st a.tmps→∃u,(execOp a.eval o).run P w=.ok (.value u) w∧ARep F ρ w st v u) ?_ fun v hv=>Sat.pure (ZG hv)
 unfold unA
 split
 ·rename_i b hx
  refine Sat.pure fun F ρ w a hR=>?_
  have hc:=Zt hR x
  rw[hx] at hc
  exact ⟨.bool (!b),by simp[execOp,h,Zcq hc,Op.unary],Zc3 _⟩
 ·rename_i k n hx
  refine Sat.pure fun F ρ w a hR=>?_
  have hc:=Zt hR x
  rw[hx] at hc
  exact ⟨.int k (k.wrap (0 - n)),by simp[execOp,h,Zaq hc,Op.unary,Op.intArith],.d _ _ _ rfl⟩
 ·exact Sat.fail
theorem ZvS {cl:Cl} {x:Operand} {j:Nat} (h:o.op=.extract x j):Sat (opA P cl o st) (OpOK P Mod o st):=by
 simp only[opA,h]
 split
 ·rename_i vs hx
  split
  ·rename_i v hv
   refine Sat.pure (ZG fun F ρ w a hR=>?_)
   have hc:=Zt hR x
   rw[hx] at hc
   generalize hu:a.eval x=u at hc
   cases hc with
   | tu cs us hl hall=>
    have hlt:j < us.size:=by rw[←hl];exact (List.getElem?_eq_some_iff.1 hv).1
    exact ⟨us[j],by simp[execOp,h,hu,Instr.extract,hlt],hall j v us[j] hv (by simp[hlt])⟩
  ·exact Sat.fail
 ·exact Sat.fail
def Yields1 (P:Program) (Mod:Nat→Prop) (o:Oper) (st:St) (v:AV):Prop:=∀F ρ w (a:Act),R Mod F ρ w st a.tmps→∃u,(execOp a.eval o).run P w=.ok (.value u) w∧ARep F ρ w st v u
theorem Zye {op:BinOp} {T T':TypeId} {x y:Operand} {k k':IntKind} {m n:Int} (h:o.op=.binOp op T x y T') (hx:st.ev x=.d (.int k) m) (hy:st.ev y=.d (.int k') n):Sat (binI op k k' m n) (Yields1 P Mod o st):=by
 have key:∀v u,ARep (fun _=>False) (fun _=>undef) default st v u→(∀F ρ w,ARep F ρ w st v u)→(∀w,(Go.binOp op T (.int k m) (.int k' n)).run P w=.ok u w)→Yields1 P Mod o st v:=by
  intro v u _ hv hr F ρ w a hR
  have h1:=Zt hR x
  have h2:=Zt hR y
  rw[hx] at h1
  rw[hy] at h2
  refine ⟨u,?_,hv F ρ w⟩
  have hg:(eqGuard op T x y (.int k m) (.int k' n)).run P w=.ok () w:=by cases op <;> simp[eqGuard]
  simp[execOp,h,Zaq h1,Zaq h2,hg,hr w]
 have ki:∀j r,(∀w,(Go.binOp op T (.int k m) (.int k' n)).run P w=.ok (.int j r) w)→Yields1 P Mod o st (.d (.int j) r):=fun j r hr=>key _ _ (.d _ _ _ rfl) (fun _ _ _=>.d _ _ _ rfl) hr
 have kb:∀b,(∀w,(Go.binOp op T (.int k m) (.int k' n)).run P w=.ok (.bool b) w)→Yields1 P Mod o st (mkB b):=fun b hr=>key _ _ (Zc3 b) (fun _ _ _=>Zc3 b) hr
 unfold binI
 cases op <;> simp only
 case shl=>
  refine Sat.cond' (fun _=>fun _ _ e=>by cases e) fun hb=>Sat.pure (ki _ _ fun w=>?_)
  have hb':¬n < 0:=by simpa using hb
  simp[Go.binOp,Op.shift,hb']
 case shr=>
  refine Sat.cond' (fun _=>fun _ _ e=>by cases e) fun hb=>Sat.pure (ki _ _ fun w=>?_)
  have hb':¬n < 0:=by simpa using hb
  simp[Go.binOp,Op.shift,hb']
 case quo=>
  split
  ·rename_i hk;subst hk
   refine Sat.cond' (fun _=>fun _ _ e=>by cases e) fun hb=>Sat.pure (ki _ _ fun w=>?_)
   have hb':¬n=0:=by simpa using hb
   simp[Go.binOp,Op.intDiv,hb']
  ·exact Sat.fail
 case rem=>
  split
  ·rename_i hk;subst hk
   refine Sat.cond' (fun _=>fun _ _ e=>by cases e) fun hb=>Sat.pure (ki _ _ fun w=>?_)
   have hb':¬n=0:=by simpa using hb
   simp[Go.binOp,Op.intDiv,hb']
  ·exact Sat.fail
 all_goals
  split
  ·rename_i hk;subst hk
   first
    | (simp only[bitI];refine Sat.pure (ki _ _ fun w=>?_);simp only[Go.binOp];rw[if_neg (by simp)];rfl)
    | (refine Sat.pure (ki _ _ fun w=>?_);simp[Go.binOp,Op.intArith];done)
    | (simp only[cmpI];refine Sat.pure (kb _ fun w=>?_);simp[Go.binOp,Op.intCmp];done)
  ·exact Sat.fail
theorem Zyi {op:BinOp} {T T':TypeId} {x y:Operand} {m n:ByteArray} (h:o.op=.binOp op T x y T') (hx:st.ev x=.d .str m) (hy:st.ev y=.d .str n):Sat (binS op m n) (Yields1 P Mod o st):=by
 have key:∀v u,(∀F ρ w,ARep F ρ w st v u)→(∀w,(Go.binOp op T (.string m) (.string n)).run P w=.ok u w)→Yields1 P Mod o st v:=by
  intro v u hv hr F ρ w a hR
  have h1:=Zt hR x
  have h2:=Zt hR y
  rw[hx] at h1
  rw[hy] at h2
  refine ⟨u,?_,hv F ρ w⟩
  have hg:(eqGuard op T x y (.string m) (.string n)).run P w=.ok () w:=by cases op <;> simp[eqGuard]
  simp[execOp,h,Zgz h1,Zgz h2,hg,hr w]
 have kb:∀b,(∀w,(Go.binOp op T (.string m) (.string n)).run P w=.ok (.bool b) w)→Yields1 P Mod o st (mkB b):=fun b hr=>key _ _ (fun _ _ _=>Zc3 b) hr
 unfold binS
 cases op <;> simp only
 case add=>
  refine Sat.cond' (fun _=>fun _ _ e=>by cases e) fun hb=>Sat.pure (key _ _ (fun _ _ _=>.d _ _ _ rfl) fun w=>?_)
  have hb':¬(((m.size+n.size:Nat):Int) > 9223372036854775807):=by simpa using hb
  simp only[Go.binOp,Op.stringOp]
  have hm:IntKind.i64.max=9223372036854775807:=by decide
  rw[if_neg (by rw[hm];exact hb')]
  rfl
 all_goals first
  | exact Sat.fail
  | exact Sat.pure (kb _ fun w=>by simp only[←ByteArray.toList_eq];simp[Go.binOp,Op.stringOp,lessB])
end
end Go.Ev
end

section
namespace Go.Ev
variable [Tabs] [Orgs]
open Go
section
variable {P:Program} {Mod:Nat→Prop} {o:Oper} {st:St} {F:Nat→Prop} {ρ:Rho} {w:World}
def CsRep (F:Nat→Prop) (ρ:Rho) (w:World) (st:St) (cs:List AV) (vs:List Value):Prop:=
 cs.length=vs.length∧∀(i:Nat) (c:AV) (v:Value),cs[i]? =some c→vs[i]? =some v→ARep F ρ w st c v
theorem CsRep.nil:CsRep F ρ w st [] []:=⟨rfl,fun i c v h=>by simp at h⟩
theorem CsRep.cons {c:AV} {v:Value} {cs:List AV} {vs:List Value} (h:ARep F ρ w st c v) (hs:CsRep F ρ w st cs vs):CsRep F ρ w st (c :: cs) (v :: vs):=by
 refine ⟨by simp[hs.1],fun i c' v' h1 h2=>?_⟩
 cases i with
 | zero=>simp at h1 h2;subst h1;subst h2;exact h
 | succ i=>simp at h1 h2;exact hs.2 i c' v' h1 h2
theorem CsRep.append {cs cs':List AV} {vs vs':List Value} (h:CsRep F ρ w st cs vs) (h':CsRep F ρ w st cs' vs'):CsRep F ρ w st (cs++cs') (vs++vs'):=by
 refine ⟨by simp[h.1,h'.1],fun i c v h1 h2=>?_⟩
 by_cases hi:i < cs.length
 ·rw[List.getElem?_append_left hi] at h1
  rw[List.getElem?_append_left (by rw[←h.1];exact hi)] at h2
  exact h.2 i c v h1 h2
 ·rw[List.getElem?_append_right (by omega)] at h1
  rw[List.getElem?_append_right (by rw[←h.1];omega)] at h2
  rw[←h.1] at h2
  exact h'.2 _ c v h1 h2
theorem CsRep.take {cs:List AV} {vs:List Value} (h:CsRep F ρ w st cs vs) (n:Nat):CsRep F ρ w st (cs.take n) (vs.take n):=by
 refine ⟨by simp[h.1],fun i c v h1 h2=>?_⟩
 rw[List.getElem?_take] at h1 h2
 split at h1
 ·rename_i hlt;rw[if_pos hlt] at h2;exact h.2 i c v h1 h2
 ·cases h1
theorem CsRep.drop {cs:List AV} {vs:List Value} (h:CsRep F ρ w st cs vs) (n:Nat):CsRep F ρ w st (cs.drop n) (vs.drop n):=by
 refine ⟨by simp[h.1],fun i c v h1 h2=>?_⟩
 rw[List.getElem?_drop] at h1 h2
 exact h.2 _ c v h1 h2
theorem CsRep.mono {F':Nat→Prop} {w':World} {st':St} {ρ':Rho} (hk:Keeps F w F' w') (hr:Ref st ρ st' ρ') {cs:List AV} {vs:List Value} (h:CsRep F ρ w st cs vs):CsRep F' ρ' w' st' cs vs:=
 ⟨h.1,fun i c v h1 h2=>(h.2 i c v h1 h2).mono hk hr⟩
theorem CsRep.ofVals (vs:List Value):CsRep F ρ w st (vs.map ofVal) vs:=by
 refine ⟨by simp,fun i c v h1 h2=>?_⟩
 simp[h2] at h1
 subst h1
 exact Zi2 v
theorem Zdx:∀ {t:Ty} {x:El t} {vs:List Value},LRep F w t x vs→CsRep F ρ w st (flat t x) vs
 |.int _,_,_,h=>by simp only[LRep] at h;subst h;exact .cons (.d _ _ _ rfl) .nil
 |.bool,_,_,h=>by simp only[LRep] at h;subst h;exact .cons (.d _ _ _ rfl) .nil
 |.str,_,_,h=>by simp only[LRep] at h;subst h;exact .cons (.d _ _ _ rfl) .nil
 |.sl t,l,vs,h=>by
  have hl:=h.length
  match vs,hl with
  | [v],_=>exact .cons (.d _ _ _ h) .nil
 |.pr a b,x,vs,h=>by
  simp only[LRep] at h
  obtain ⟨v1,v2,rfl,h1,h2⟩:=h
  exact (Zdx h1).append (Zdx h2)
 |.un,_,_,h=>by simp only[LRep] at h;subst h;exact .nil
theorem Zop {x:AV} {v:Value} (h1:x.one=true) (h:ARep F ρ w st x v):v.oneCell'=true:=by
 cases h <;> simp only[AV.one] at h1 <;> first | (cases h1;done) | rfl | assumption | skip
 case d t x h=>
  cases t <;> simp only[LRep] at h <;> simp_all[Value.oneCell']
  obtain ⟨A,c,rfl,_⟩:=h
  rfl
theorem Zv4 {v:Value} (h:v.oneCell'=true):v.cells= #[v]:=by cases v <;> simp_all[Value.oneCell',Value.cells]
theorem ZgY {x:AV} {v:Value} {cs:List AV} (hx:x.cells=some cs) (h:ARep F ρ w st x v):CsRep F ρ w st cs v.cells.toList:=by
 unfold AV.cells at hx
 split at hx
 ·cases hx
  cases h with
  | ag _ vs hl hall=>exact ⟨by simpa[Value.cells] using hl,fun i c v h1 h2=>hall i c v h1 (by simpa[Value.cells] using h2)⟩
 ·split at hx
  ·rename_i h1
   cases hx
   rw[Zv4 (Zop h1 h)]
   exact .cons h .nil
  ·cases hx
theorem ERep.length:∀ {d:DTy} {g:Value} {k:Nat} {x:El d.ty} {vs:List Value} {B:List Nat},ERep F w d g k x vs B→vs.length=d.ty.cells
 |.leaf t,_,_,_,_,_,h=>h.1.length
 |.ro d,_,_,_,_,_,h=>by obtain ⟨rfl,_⟩:=h;rfl
 |.pr a b,_,_,_,_,_,h=>by
  obtain ⟨v1,v2,B1,B2,rfl,_,h1,h2⟩:=h
  have e1:=ERep.length h1
  have e2:=ERep.length h2
  simp[Ty.cells,e1,e2]
theorem Znx:∀ {d:DTy} {g:Value} {k0:Nat} {x:El d.ty} {vs:List Value} {B:List Nat},ERep F w d g k0 x vs B→∀ {k:Nat} {q:DRw},roAt d x k=some q→
  vs[k]? =some (gv (gk g (k0+k)))∧∃E Bq,DRow F w E q.1 (gk g (k0+k)) q.2 Bq∧∀b∈Bq,b∈B
 |.leaf t,_,_,_,_,_,_,_,_,h=>by cases h
 |.ro d,g,k0,l,vs,B,h,k,q,hq=>by
  simp only[roAt] at hq
  cases hk:Nat.beq k 0 with
  | false=>rw[hk] at hq;cases hq
  | true=>
   rw[hk] at hq
   cases hq
   obtain rfl:=Nat.eq_of_beq_eq_true hk
   obtain ⟨rfl,E,hr⟩:=h
   exact ⟨rfl,E,B,hr,fun _ h=>h⟩
 |.pr a b,g,k0,x,vs,B,h,k,q,hq=>by
  obtain ⟨v1,v2,B1,B2,rfl,rfl,h1,h2⟩:=h
  have e1:=h1.length
  simp only[roAt] at hq
  cases hk:Nat.blt k a.ty.cells with
  | true=>
   rw[hk] at hq
   have hlt:k < a.ty.cells:=by simpa[Nat.blt_eq] using hk
   obtain ⟨h3,E,Bq,h4,h5⟩:=Znx h1 hq
   exact ⟨by rw[List.getElem?_append_left (by omega)];exact h3,E,Bq,h4,fun b hb=>by simp[h5 b hb]⟩
  | false=>
   rw[hk] at hq
   have hge:¬k < a.ty.cells:=fun h=>by rw[←Nat.blt_eq] at h;rw[h] at hk;cases hk
   obtain ⟨h3,E,Bq,h4,h5⟩:=Znx h2 hq
   rw[show k0+a.ty.cells+(k - a.ty.cells)=k0+k by omega] at h3 h4
   exact ⟨by rw[List.getElem?_append_right (by omega),e1];exact h3,E,Bq,h4,fun b hb=>by simp[h5 b hb]⟩
theorem Zek:∀ {p:Path} {E:TypeId} {d:DTy} {g:Value} {l:List (El d.ty)} {B:List Nat},DRow F w E d g l B→okPath d l p→∃q Eq Bq,rowAt d l p=some q∧DRow F w Eq q.1 (gAt g p) q.2 Bq∧∀b∈Bq,b∈B
 | [],E,d,g,l,B,h,_=>⟨⟨d,l⟩,E,B,rfl,h,fun _ h=>h⟩
 | (i,k) :: r,E,d,g,l,B,h,hp=>by
  obtain ⟨hi,q0,hq0,hr⟩:=hp
  obtain ⟨cells,Bs,h1,h2,h3,h4⟩:=h
  obtain ⟨cs,Bi,k1,k2,k3⟩:=h4 i _ (ZbP (z:=dflt d.ty) hi)
  obtain ⟨_,E2,Bq,h5,h6⟩:=Znx k2 hq0
  rw[Nat.zero_add] at h5
  obtain ⟨q,Eq,Bq2,a1,a2,a3⟩:=Zek h5 hr
  refine ⟨q,Eq,Bq2,by simp only[rowAt,hq0];exact a1,a2,fun b hb=>?_⟩
  rw[h3]
  exact List.mem_append_right _ (List.mem_flatten.2 ⟨Bi,List.mem_of_getElem? k1,h6 b (a3 b hb)⟩)
theorem Zms:∀(p r:Path) (g:Value),gAt g (p++r)=gAt (gAt g p) r
 | [],_,_=>rfl
 | (i,k) :: p,r,g=>Zms p r _
theorem Zl6:∀ {p r:Path} {d:DTy} {l:List (El d.ty)} {q:DRw},okPath d l p→rowAt d l p=some q→okPath q.1 q.2 r→okPath d l (p++r)
 | [],r,d,l,q,_,h,hr=>by cases h;exact hr
 | (i,k) :: p,r,d,l,q,hp,h,hr=>by
  obtain ⟨hi,q0,hq0,hp'⟩:=hp
  simp only[rowAt,hq0] at h
  exact ⟨hi,q0,hq0,Zl6 hp' h hr⟩
theorem ZoK {id ver:Nat} {p:Path} {i:Nat} (hb:bnd st id ver) {g:Value} (hk:∀k,(∃d x q,roAt d x k=some q)→True):∀ {d:DTy} {k0:Nat} {x:El d.ty} {vs:List Value} {B:List Nat},ERep F w d g k0 x vs B→
  (∀k,k0≤k→k < k0+d.ty.cells→∀q,roAt d x (k - k0)=some q→ARep F ρ w st (.dn id ver (p++[(i,k)])) (gv (gk g k)))→CsRep F ρ w st (flatD id ver p i d x k0) vs
 |.leaf t,k0,x,vs,B,h,_=>by
  have hl:=h.1
  clear h
  exact Zdx hl
 |.ro d,k0,l,vs,B,h,hq=>by
  obtain ⟨rfl,_⟩:=h
  exact .cons (hq k0 (Nat.le_refl _) (by simp[Ty.cells]) ⟨d,l⟩ (by rw[Nat.sub_self];rfl)) .nil
 |.pr a b,k0,x,vs,B,h,hq=>by
  obtain ⟨v1,v2,B1,B2,rfl,_,h1,h2⟩:=h
  refine (ZoK hb hk h1 fun k ha hb q hq'=>hq k ha (by simp[Ty.cells];omega) q ?_).append (ZoK hb hk h2 fun k ha hb q hq'=>hq k (by omega) (by simp[Ty.cells];omega) q ?_)
  ·simp only[roAt]
   rw[show Nat.blt (k - k0) a.ty.cells=true by rw[Nat.blt_eq];omega]
   exact hq'
  ·simp only[roAt]
   rw[show Nat.blt (k - k0) a.ty.cells=false by rw[Bool.eq_false_iff,ne_eq,Nat.blt_eq];omega]
   rw[show k - k0 - a.ty.cells=k - (k0+a.ty.cells) by omega]
   exact hq'
theorem ZjZ {tm:Array Value} (hR:R Mod F ρ w st tm) {x:AV} {v:Value} {cs:List AV} (hx:behind st x=some cs) (h:ARep F ρ w st x v):
  ∃ad vs,v=.pointer (some ad)∧CsRep F ρ w st cs vs∧cellsAt w ad vs:=by
 unfold behind at hx
 split at hx
 ·rename_i id ver off
  split at hx
  ·rename_i T cs' ho
   cases hx
   cases h with
   | pt _ _ _ _ hb h1 hp=>
    obtain ⟨b,hρ,rfl⟩:=hp _ ho
    obtain ⟨_,b',arr,hρ',hh,hl,hc⟩:=hR.obs id ver _ (Zw.1 ho)
    rw[hρ] at hρ'
    cases hρ'
    refine ⟨_,arr.toList.drop off,rfl,CsRep.drop ⟨by simp[hl],fun i c u h1 h2=>hc i c u h1 (by simpa using h2)⟩ off,fun j u hu=>?_⟩
    rw[List.getElem?_drop] at hu
    rw[show (⟨b,off,none⟩:Addr).add j=⟨b,off+j,none⟩ by unfold Addr.add;split <;> simp_all]
    simpa[World.cell?,hh] using hu
  ·cases hx
 ·rename_i id ver i j
  split at hx
  ·rename_i E t l lk ho
   cases hx
   cases h with
   | pe _ _ _ _ _ hb h1 hp=>
    obtain ⟨ad,n,c,hρ,rfl,hi⟩:=hp E t l lk ho
    obtain ⟨cells,hown,hl⟩:=hR.obs id ver _ (Zw.1 ho)
    obtain ⟨vs,hvs,hat⟩:=hl i (l.getD i (dflt t)) (by simp[List.getD,List.getElem?_eq_getElem hi])
    refine ⟨_,vs.drop j,rfl,(Zdx hvs).drop j,fun m u hu=>?_⟩
    rw[List.getElem?_drop] at hu
    have h2:=hat _ _ hu
    rw[hρ] at hown
    rcases hown.2 with ⟨h3,_⟩ | ⟨g,off,cap,cur,h3,_⟩
    ·cases h3
    ·cases h3
     rw[Addr.add_add,Z7,Nat.add_assoc]
     exact hown.cells h2
  ·cases hx
 ·rename_i id ver p i j
  split at hx
  ·rename_i E d l ho
   split at hx
   ·rename_i q hq
    cases hx
    cases h with
    | da _ _ _ _ _ _ hb h1 hp=>
     obtain ⟨hpa,q',hq',hi,ad,n,c,hg,rfl⟩:=hp E d l ho
     rw[hq] at hq'
     cases hq'
     obtain ⟨hnd,hrow⟩:=hR.obs id ver _ (Zw.1 ho)
     obtain ⟨q2,Eq,Bq,a1,a2,a3⟩:=Zek hrow hpa
     rw[hq] at a1
     cases a1
     obtain ⟨cells,Bs,hown,hbl,hB,hel⟩:=a2
     obtain ⟨vs,Bi,k1,hvs,hat⟩:=hel i _ (ZbP (z:=dflt q.1.ty) hi)
     refine ⟨_,vs.drop j,rfl,(ZoK (ρ:=ρ) hb (fun _ _=>trivial) hvs fun k _ hk2 r hr=>.dn _ _ _ _ hb ?_ fun E2 d2 l2 ho2=>?_).drop j,fun m u hu=>?_⟩
     ·obtain ⟨e1,E3,Bq3,e2,_⟩:=Znx hvs hr
      obtain ⟨_,_,o1,_⟩:=e2
      rw[Nat.zero_add,Nat.sub_zero] at o1
      rcases o1.2 with ⟨o2,_⟩ | ⟨_,_,_,_,o2,_⟩ <;> rw[o2] <;> rfl
     ·rw[ho] at ho2
      cases ho2
      refine ⟨Zl6 hpa hq ⟨hi,r,by rw[Nat.sub_zero] at hr;exact hr,trivial⟩,?_⟩
      rw[Zms]
      rfl
     ·rw[List.getElem?_drop] at hu
      have h2:=hat _ _ hu
      rw[hg] at hown
      rcases hown.2 with ⟨h3,_⟩ | ⟨g,off,cap,cur,h3,_⟩
      ·cases h3
      ·cases h3
       rw[Addr.add_add,Z7,Nat.add_assoc]
       exact hown.cells h2
   ·cases hx
  ·cases hx
 ·rename_i t x j
  cases hx
  cases h with
  | rp _ _ _ ad vs hl hF hc=>
   refine ⟨_,vs.drop j,rfl,(Zdx hl).drop j,fun m u hu=>?_⟩
   rw[List.getElem?_drop] at hu
   rw[Addr.add_add]
   exact hc _ _ hu
 ·cases hx
theorem Zg1 {T:TypeId} {b:Bool} (h:Go.Ev.isAgg P T=some b):(Go.isAgg T).run P w=.ok b w:=by
 unfold Go.Ev.isAgg at h
 unfold Go.isAgg
 split at h
 ·rename_i hu;cases h;simp[run_underlying hu]
 ·rename_i hu;cases h;simp[run_underlying hu]
 ·rename_i d h1 h2 hu
  cases h
  rw[Sem.run_bind,run_underlying hu]
  simp only[Result.andThen_ok]
  cases d <;> first | rfl | exact absurd rfl (h1 _) | exact absurd rfl (h2 _ _)
 ·cases h
theorem ZP {T:TypeId} {z:Nat} (h:szOf P T=some z):(Go.sizeOf T).run P w=.ok z w:=by
 unfold szOf at h
 cases hi:P.info? T with
 | none=>simp[hi] at h
 | some i=>
  simp[hi] at h
  simp[Go.sizeOf,Go.typeInfo,hi,h]
theorem Zx5 {cl:Cl} {T:TypeId} {x:Operand} (h:o.op=.load T x):Sat (opA P cl o st) (OpOK P Mod o st):=by
 simp only[opA,h]
 split
 ·rename_i cs z hb ha hz
  refine Sat.cond (fun hle=>Sat.pure (ZG fun F ρ w a hR=>?_)) fun _=>Sat.fail
  obtain ⟨ad,vs,hv,hcs,hat⟩:=ZjZ hR hb (Zt hR x)
  have hle':z≤vs.length:=by rw[←hcs.1];exact Nat.le_of_ble_eq_true hle
  have hl:(vs.take z).length=z:=by simp[Nat.min_eq_left hle']
  have hload:=run_loadCells_list (P:=P) w ad (vs.take z) (fun j u hu=>hat j u (by
   rw[List.getElem?_take] at hu
   split at hu
   ·exact hu
   ·cases hu))
  rw[hl] at hload
  refine ⟨.agg (vs.take z).toArray,?_,?_⟩
  ·simp[execOp,h,hv,Instr.loadAt,Instr.sureAddr,loadVar,Zg1 ha,ZP hz,hload]
  ·exact .ag _ _ (by simp[hl,hcs.1,Nat.min_eq_left hle']) fun i c u h1 h2=>(hcs.take z).2 i c u h1 (by simpa using h2)
 ·rename_i cs z hb ha hz
  split
  ·rename_i c hc
   refine Sat.pure (ZG fun F ρ w a hR=>?_)
   obtain ⟨ad,vs,hv,hcs,hat⟩:=ZjZ hR hb (Zt hR x)
   have hlt:0 < vs.length:=by rw[←hcs.1];exact (List.getElem?_eq_some_iff.1 hc).1
   have h0:=hat 0 vs[0] (by simp[hlt])
   have e0:ad.add 0=ad:=by simp[Addr.add]
   rw[e0] at h0
   refine ⟨vs[0],?_,hcs.2 0 c _ hc (by simp[hlt])⟩
   simp[execOp,h,hv,Instr.loadAt,Instr.sureAddr,loadVar,Zg1 ha,load,Sem.run,h0]
  ·exact Sat.fail
 ·exact Sat.fail
theorem Zhz {T:TypeId} {z:Value} (h:((P.info? T).bind (·.zero))=some z):(Go.zeroValue T).run P w=.ok z w:=by
 cases hi:P.info? T with
 | none=>simp[hi] at h
 | some i=>
  simp only[hi,Option.bind_some] at h
  simp[Go.zeroValue,Go.typeInfo,hi,h]
theorem Zb4 (w:World) (o:Go.Obj):(w.alloc o).heap[w.heap.size]? =some o:=heap_alloc_new w o
theorem Zcp (w:World) (o:Go.Obj) {k:Nat} (h:k < w.heap.size):(w.alloc o).heap[k]? =w.heap[k]?:=Go.RowKit.Below.heap_alloc w o k h
theorem R.alloc {tm:Array Value} (h:R Mod F ρ w st tm) {w0:World} (hw0:w0.heap=w.heap) (hos:w0.os=w.os) (htape:w0.tape=w.tape) (hout:w0.output=w.output)
  {id:Id} {ob:Go.Obj} {o':Obj} {h':Value} (hb':∀b,b∈hb h'→b=w.heap.size) (hfree:∀E t l,o'≠ .row E t l true)
  (hO:ORep F (updR ρ id h') (w0.alloc ob) (st.setOb id (st.nextVer id) o') h' o'):
  R Mod F (updR ρ id h') (w0.alloc ob) (st.setOb id (st.nextVer id) o') tm∧Evo Mod F w F (w0.alloc ob):=by
 have hsz:(w0.alloc ob).heap.size=w.heap.size+1:=by simp[hw0]
 refine R.set h (o':=o') (h':=h') hos htape hout (by omega) (.inr rfl) (fun k hk _=>?_) (fun _ b hbb=>?_) (fun E t l e=>absurd e (hfree E t l)) hO
 ·rw[Zcp w0 ob (by rw[hw0];exact hk),hw0]
 ·have:=hb' b hbb
  subst this
  exact ⟨fun hF=>by have:=h.low _ hF;omega,h.hi _ (Nat.le_refl _),by omega,.inl (Nat.le_refl _)⟩
theorem Zu0 {d:Nat} (hd:o.dst=some d) {ob:World→Act→Go.Obj} {o':Obj} {ref:AV}
  (hfree:∀E t l,o'≠ .row E t l true)
  (h:∀F ρ w (a:Act),R Mod F ρ w st a.tmps→∃(w0:World) (g:Go.Obj) (h':Value),w0.heap=w.heap∧w0.os=w.os∧w0.tape=w.tape∧w0.output=w.output∧
   (execOp a.eval o).run P w=.ok (.value h') (w0.alloc g)∧(∀b,b∈hb h'→b=w.heap.size)∧h'.oneCell'=true∧
   ORep F (updR ρ (rootId d) h') (w0.alloc g) (st.setOb (rootId d) (st.nextVer (rootId d)) o') h' o'∧
   ARep F (updR ρ (rootId d) h') (w0.alloc g) (st.setOb (rootId d) (st.nextVer (rootId d)) o') ref h'):
  OpOK P Mod o st ((st.setOb (rootId d) (st.nextVer (rootId d)) o').put (some d) ref):=by
 intro F ρ w a Q hR hdef
 obtain ⟨w0,g,h',e1,e2,e3,e4,hrun,hb',h1,hO,hA⟩:=h F ρ w a hR
 obtain ⟨hR',hE⟩:=R.alloc hR e1 e2 e3 e4 (id:=rootId d) hb' hfree hO
 unfold Oper.wp
 rw[hrun]
 show OpPost Mod F w _ (a.put o.dst h') _
 rw[hd]
 exact ⟨by rw[ZX];exact hdef,F,_,R.put (a:=a) hR' hA (some d),hE⟩
theorem ZcJ {id ver:Nat} {o':Obj} :bnd (st.setOb id ver o') id ver:=⟨ver,o',by rw[Zp,if_pos rfl],Nat.le_refl _⟩
theorem ZlH {id ver:Nat} {o':Obj} :(st.setOb id ver o').obj id ver=some o':=by rw[Zw,Zp,if_pos rfl]
theorem Ref.new {id:Id} {o':Obj} {h':Value} :Ref st ρ (st.setOb id (st.nextVer id) o') (updR ρ id h'):=Ref.set (.inr rfl)
theorem Zuj {id:Id} {ver:Nat} {T:TypeId} {cs:List AV} {tg:Option Nat} {w':World} {ρ':Rho} {b:Nat} (hρ:ρ' id=.pointer (some ⟨b,0,none⟩)):
  ARep F ρ' w' (st.setOb id ver (.box T cs tg)) (.pt id ver 0) (.pointer (some ⟨b,0,none⟩)):=
 .pt _ _ _ _ ZcJ rfl fun o' ho=>⟨b,hρ,rfl⟩
theorem Zvg {d:Nat} (hd:o.dst=some d) {T:TypeId} {cs:List AV} (h:∀F ρ w (a:Act),R Mod F ρ w st a.tmps→∃v:Value,(execOp a.eval o).run P w=.ok (.value (.pointer (some ⟨w.heap.size,0,none⟩))) (w.alloc (.cells v.cells T))∧CsRep F ρ w st cs v.cells.toList):
  OpOK P Mod o st ((st.setOb (rootId d) (st.nextVer (rootId d)) (.box T cs none)).put (some d) (.pt (rootId d) (st.nextVer (rootId d)) 0)):=by
 refine Zu0 hd (ob:=fun _ _=>default) (fun _ _ _ e=>by cases e) fun F ρ w a hR=>?_
 obtain ⟨v,hrun,hcs⟩:=h F ρ w a hR
 refine ⟨w,_,_,rfl,rfl,rfl,rfl,hrun,fun b hb=>by simpa[Go.Ev.hb] using hb,rfl,?_,Zuj (by simp[updR])⟩
 have hk:Keeps F w F (w.alloc (.cells v.cells T)):=⟨fun _ h=>h,fun b hF=>Zcp w _ (hR.low b hF)⟩
 exact ⟨(fun j e=>by cases e),_,v.cells,rfl,Zb4 _ _,by simpa using hcs.1.symm,fun i c u h1 h2=>(hcs.2 i c u h1 (by simpa using h2)).mono hk Ref.new⟩
theorem Zie {o':Obj} {ref:Id→Nat→AV} (h:∀d,o.dst=some d→OpOK P Mod o st ((st.setOb (rootId d) (st.nextVer (rootId d)) o').put (some d) (ref (rootId d) (st.nextVer (rootId d))))):
  Sat (makeObj st o.dst o' ref) (OpOK P Mod o st):=by
 unfold makeObj
 split
 ·rename_i d hd
  rw[←hd]
  exact Sat.pure (by rw[hd];exact h d hd)
 ·exact Sat.fail
theorem Zyq {cl:Cl} {T:TypeId} {x:Operand} (h:o.op=.box T x):Sat (opA P cl o st) (OpOK P Mod o st):=by
 simp only[opA,h]
 split
 ·rename_i cs hc
  refine Zie fun d hd=>Zvg hd fun F ρ w a hR=>⟨a.eval x,?_,ZgY hc (Zt hR x)⟩
  simp[execOp,h,Instr.box,newVar,newRow]
 ·exact Sat.fail
theorem Zw7 {cl:Cl} {T:TypeId} (h:o.op=.alloc T):Sat (opA P cl o st) (OpOK P Mod o st):=by
 simp only[opA,h]
 split
 ·rename_i cs hc
  unfold zeroAV at hc
  cases hz:(P.info? T).bind (·.zero) with
  | none=>rw[hz] at hc;cases hc
  | some z=>
   rw[hz] at hc
   cases hc
   refine Zie fun d hd=>Zvg hd fun F ρ w a hR=>⟨z,?_,CsRep.ofVals _⟩
   simp[execOp,h,Instr.alloc,Zhz hz,newVar,newRow]
 ·exact Sat.fail
theorem CsRep.setRange {cs vs:List AV} {us ns:List Value} {off:Nat} (h:CsRep F ρ w st cs us) (h':CsRep F ρ w st vs ns):CsRep F ρ w st (setRange cs off vs) (us.take off++(ns++us.drop (off+ns.length))):=by
 unfold Go.Ev.setRange
 rw[h'.1]
 exact (h.take off).append (h'.append (h.drop _))
theorem ZtX {T:TypeId} {x v:Operand} (h:o.op=.store T x v) {vs:List AV} (hvs:(st.ev v).cells=some vs) {z:Nat} (hz:szOf P T=some z) (hlen:vs.length=z) (hone:vs.all AV.one=true)
  {id ver off:Nat} (hx:st.ev x=.pt id ver off) {T':TypeId} {cs:List AV} {tg:Option Nat} (ho:st.obj id ver=some (.box T' cs tg)) (hfit:off+z≤cs.length):
  OpOK P Mod o st ((st.setOb id ver (.box T' (setRange cs off vs) tg)).put o.dst .top):=by
 intro F ρ w a Q hR hd
 have hp:=Zt hR x
 rw[hx] at hp
 have hv:=ZgY hvs (Zt hR v)
 generalize ha:a.eval x=u at hp
 generalize hu:a.eval v=y at hv
 cases hp with
 | pt _ _ _ _ hbn h1 hpp=>
  obtain ⟨b,hρ,rfl⟩:=hpp _ ho
  have hf:=Zw.1 ho
  obtain ⟨htg,b',arr,hρ',hh,hl,hc⟩:=hR.obs id ver _ hf
  rw[hρ] at hρ'
  cases hρ'
  have hyl:y.cells.size=z:=by rw[←hlen,hv.1,Array.length_toList]
  have hones:∀u∈y.cells.toList,u.oneCell'=true:=by
   intro u hu'
   obtain ⟨i,hi⟩:=List.getElem?_of_mem hu'
   have hilt:i < vs.length:=by rw[hv.1];exact (List.getElem?_eq_some_iff.1 hi).1
   exact Zop (List.all_eq_true.1 hone _ (List.getElem_mem hilt)) (hv.2 i _ u (by simp[hilt]) hi)
  have hst:=run_storeCells_at (P:=P) b off T' y.cells.toList 0 arr w hh (by simp[hyl,hl];omega) hones
  simp only[Nat.add_zero] at hst
  have hrun:(execOp a.eval o).run P w=.ok .skip (w.setRow b (arr.toList.take off++y.cells.toList++arr.toList.drop (off+y.cells.toList.length)).toArray):=by
   simp[execOp,h,ha,hu,Instr.storeAt,Instr.sureAddr,storeVar,ZP hz,hyl] at hst ⊢
   simp[hst]
  unfold Oper.wp
  rw[hrun]
  have hset:=R.set hR (w':=w.setRow b (arr.toList.take off++y.cells.toList++arr.toList.drop (off+y.cells.toList.length)).toArray) (id:=id) (ver':=ver) (o':=.box T' (Go.Ev.setRange cs off vs) tg) (h':=ρ id)
   rfl rfl rfl (by simp) (.inl ⟨_,hf,rfl,trivial⟩)
   (fun k hk hne=>setRow_other _ _ _ _ (fun e=>hne ver _ hf rfl (by rw[hρ,e];exact List.mem_singleton.2 rfl)))
   (fun _ b2 hb2=>by
    obtain ⟨s1,s2,s3,_⟩:=hR.sep id ver _ b2 hf rfl hb2
    exact ⟨s1,s2,by simpa using s3,.inr ⟨_,_,hf,rfl,hb2⟩⟩)
   (fun _ _ _ e=>by cases e) ?_
  ·obtain ⟨hR',hE⟩:=hset
   exact ⟨by rw[ZX];exact hd,F,_,R.put (a:=a) hR' (.top _) o.dst,hE⟩
  ·have hk:Keeps F w F (w.setRow b (arr.toList.take off++y.cells.toList++arr.toList.drop (off+y.cells.toList.length)).toArray):=
    ⟨fun _ h=>h,fun k hF=>setRow_other _ _ _ _ (fun e=>by subst e;exact (hR.sep id ver _ k hf rfl (by rw[hρ];exact List.mem_singleton.2 rfl)).1 hF)⟩
   have hrr:Ref st ρ (st.setOb id ver (.box T' (Go.Ev.setRange cs off vs) tg)) (updR ρ id (ρ id)):=Ref.set (.inl ⟨_,hf,rfl,trivial⟩)
   have hcr:CsRep F ρ w st cs arr.toList:=⟨by simp[hl],fun i c u h1 h2=>hc i c u h1 (by simpa using h2)⟩
   have hnew:=(hcr.setRange (off:=off) hv).mono hk hrr
   refine ⟨htg,b,_,hρ,setRow_heap w b arr _ T' (0,0) hh,?_,fun i c u h1 h2=>hnew.2 i c u h1 (by simpa using h2)⟩
   have:=hnew.1
   simpa using this.symm
end
end Go.Ev
end

section
namespace Go.Ev
variable [Tabs] [Orgs]
open Go
section
variable {P:Program} {Mod:Nat→Prop} {o:Oper} {st:St} {F:Nat→Prop} {ρ:Rho} {w:World}
theorem Zlo (ρ:Rho) (id:Id):updR ρ id (ρ id)=ρ:=by
 funext i
 unfold updR
 split
 ·rename_i h;rw[h]
 ·rfl
theorem R.lockOne {tm:Array Value} (h:R Mod F ρ w st tm) {id v:Nat} {E:TypeId} {t:Ty} {l:List (El t)} {lk:Bool} (hf:find id st.ob=some (v,.row E t l lk)):
  R Mod (fun b=>F b∨b∈hb (ρ id)) ρ w (st.setOb id v (.row E t l true)) tm∧Evo Mod F w (fun b=>F b∨b∈hb (ρ id)) w∧Ref st ρ (st.setOb id v (.row E t l true)) ρ:=by
 have hr:Ref st ρ (st.setOb id v (.row E t l true)) ρ:=by
  have:=Ref.set (st:=st) (ρ:=ρ) (id:=id) (ver':=v) (o':=.row E t l true) (h':=ρ id) (.inl ⟨_,hf,rfl,rfl,rfl⟩)
  rwa[Zlo] at this
 have hblk:∀b,b∈hb (ρ id)→(F b∨Mod b)∧b < w.heap.size:=by
  intro b hb
  cases lk with
  | true=>have:=h.data _ _ _ _ _ hf b hb;exact ⟨.inl this,h.low b this⟩
  | false=>obtain ⟨_,h2,h3,_⟩:=h.sep _ _ _ _ hf rfl hb;exact ⟨.inr h2,h3⟩
 have hevo:Evo Mod F w (fun b=>F b∨b∈hb (ρ id)) w:=⟨rfl,rfl,rfl,Nat.le_refl _,fun _ h=>.inl h,fun b hb=>hb.elim .inl fun hb=>(hblk b hb).1,fun _ _ _=>rfl⟩
 have hk:Keeps F w (fun b=>F b∨b∈hb (ρ id)) w:=⟨fun _ h=>.inl h,fun _ _=>rfl⟩
 refine ⟨⟨h.size,fun i x hx=>?_,fun i ver o hfi=>?_,fun i ver o b hfi hfr hbb=>?_,fun i ver E' t' l' hfi b hbb=>?_,fun b hb=>hb.elim (h.low b) fun hb=>(hblk b hb).2,h.hi,h.tabs.keep hk⟩,hevo,hr⟩
 ·obtain ⟨u,hu,ha⟩:=h.tms i x hx
  exact ⟨u,hu,ha.mono hk hr⟩
 ·rw[Zp] at hfi
  by_cases hi:i=id
  ·subst hi
   rw[if_pos rfl] at hfi
   cases hfi
   have h0:ORep F ρ w st (ρ i) (.row E t l true):=h.obs i v (.row E t l lk) hf
   exact ORep.mono hk hr (fun _ _=>rfl) h0
  ·rw[if_neg hi] at hfi
   exact ORep.mono hk hr (fun _ _=>rfl) (h.obs _ _ _ hfi)
 ·rw[Zp] at hfi
  by_cases hi:i=id
  ·subst hi
   rw[if_pos rfl] at hfi
   cases hfi
   cases hfr
  ·rw[if_neg hi] at hfi
   obtain ⟨h1,h2,h3,h4⟩:=h.sep _ _ _ _ hfi hfr hbb
   refine ⟨fun hF=>?_,h2,h3,fun i' v' o' hf' hfr' hb'=>?_⟩
   ·rcases hF with hF | hF
    ·exact h1 hF
    ·cases lk with
     | true=>exact h1 (h.data _ _ _ _ _ hf b hF)
     | false=>exact hi (h4 _ _ _ hf rfl hF).symm
   ·rw[Zp] at hf'
    by_cases hi':i'=id
    ·subst hi'
     rw[if_pos rfl] at hf'
     cases hf'
     cases hfr'
    ·rw[if_neg hi'] at hf'
     exact h4 _ _ _ hf' hfr' hb'
 ·rw[Zp] at hfi
  by_cases hi:i=id
  ·subst hi;exact .inr hbb
  ·rw[if_neg hi] at hfi
   exact .inl (h.data _ _ _ _ _ hfi b hbb)
theorem Ref.refl:Ref st ρ st ρ:=Ref.of_ob rfl
theorem Obj.sim_trans {a b c:Obj} (h:a.sim b) (h':b.sim c):a.sim c:=by
 cases c with
 | row E t l lk=>
  cases b <;> simp only[Obj.sim] at h'
  cases a <;> simp only[Obj.sim] at h
  exact ⟨h.1.trans h'.1,h.2.trans h'.2⟩
 | sit s p=>
  cases b <;> simp only[Obj.sim] at h'
  cases a <;> simp only[Obj.sim] at h
  trivial
 | deep E d l=>
  cases b <;> simp only[Obj.sim] at h'
  cases a <;> simp only[Obj.sim] at h
  obtain ⟨rfl,rfl,h⟩:=h
  obtain ⟨rfl,rfl,h'⟩:=h'
  exact ⟨rfl,rfl,ZuM h h'⟩
 | box _ _=>cases a <;> trivial
 | map _ _ _=>cases a <;> trivial
 | gone=>cases a <;> trivial
theorem Ref.trans {st' st'':St} {ρ' ρ'':Rho} (h:Ref st ρ st' ρ') (k:Ref st' ρ' st'' ρ''):Ref st ρ st'' ρ'' where
 b:=fun id ver hb=>k.b _ _ (h.b _ _ hb)
 o:=fun id ver o' hb ho=>by
  obtain ⟨o1,h1,e1,s1⟩:=k.o id ver o' (h.b _ _ hb) ho
  obtain ⟨o2,h2,e2,s2⟩:=h.o id ver o1 hb h1
  exact ⟨o2,h2,e1.trans e2,Obj.sim_trans s2 s1⟩
theorem R.lockDeep {tm:Array Value} (h:R Mod F ρ w st tm) {id v:Nat} {E:TypeId} {d:DTy} {l:List (El d.ty)} (hf:find id st.ob=some (v,.deep E d l)):
  R Mod (fun b=>F b∨b∈hb (ρ id)) ρ w (st.setOb id v (.gone none)) tm∧Evo Mod F w (fun b=>F b∨b∈hb (ρ id)) w∧Ref st ρ (st.setOb id v (.gone none)) ρ:=by
 have hr:Ref st ρ (st.setOb id v (.gone none)) ρ:=by
  have:=Ref.set (st:=st) (ρ:=ρ) (id:=id) (ver':=v) (o':=.gone none) (h':=ρ id) (.inl ⟨_,hf,rfl,trivial⟩)
  rwa[Zlo] at this
 have hblk:∀b,b∈hb (ρ id)→Mod b∧b < w.heap.size:=fun b hb=>by obtain ⟨_,h2,h3,_⟩:=h.sep _ _ _ _ hf rfl hb;exact ⟨h2,h3⟩
 have hevo:Evo Mod F w (fun b=>F b∨b∈hb (ρ id)) w:=⟨rfl,rfl,rfl,Nat.le_refl _,fun _ h=>.inl h,fun b hb=>hb.imp _root_.id fun hb=>(hblk b hb).1,fun _ _ _=>rfl⟩
 have hk:Keeps F w (fun b=>F b∨b∈hb (ρ id)) w:=⟨fun _ h=>.inl h,fun _ _=>rfl⟩
 refine ⟨⟨h.size,fun i x hx=>?_,fun i ver o hfi=>?_,fun i ver o b hfi hfr hbb=>?_,fun i ver E' t' l' hfi b hbb=>?_,fun b hb=>hb.elim (h.low b) fun hb=>(hblk b hb).2,h.hi,h.tabs.keep hk⟩,hevo,hr⟩
 ·obtain ⟨u,hu,ha⟩:=h.tms i x hx
  exact ⟨u,hu,ha.mono hk hr⟩
 ·rw[Zp] at hfi
  by_cases hi:i=id
  ·subst hi
   rw[if_pos rfl] at hfi
   cases hfi
   exact fun j e=>by cases e
  ·rw[if_neg hi] at hfi
   exact ORep.mono hk hr (fun _ _=>rfl) (h.obs _ _ _ hfi)
 ·rw[Zp] at hfi
  by_cases hi:i=id
  ·subst hi
   rw[if_pos rfl] at hfi
   cases hfi
   cases hfr
  ·rw[if_neg hi] at hfi
   obtain ⟨h1,h2,h3,h4⟩:=h.sep _ _ _ _ hfi hfr hbb
   refine ⟨fun hF=>hF.elim h1 fun hF=>hi (h4 _ _ _ hf rfl hF).symm,h2,h3,fun i' v' o' hf' hfr' hb'=>?_⟩
   rw[Zp] at hf'
   by_cases hi':i'=id
   ·subst hi'
    rw[if_pos rfl] at hf'
    cases hf'
    cases hfr'
   ·rw[if_neg hi'] at hf'
    exact h4 _ _ _ hf' hfr' hb'
 ·rw[Zp] at hfi
  by_cases hi:i=id
  ·subst hi
   rw[if_pos rfl] at hfi
   cases hfi
  ·rw[if_neg hi] at hfi
   exact .inl (h.data _ _ _ _ _ hfi b hbb)
def isRow:Obj→Bool
 |.row _ _ _ _ |.deep _ _ _=>true
 | _=>false
theorem ZbO {tm:Array Value} :∀(ids:List Id) {st:St} {F:Nat→Prop},R Mod F ρ w st tm→
  ∃F',R Mod F' ρ w (st.lock ids) tm∧Evo Mod F w F' w∧Ref st ρ (st.lock ids) ρ∧(∀id∈ids,∀v o,find id st.ob=some (v,o)→isRow o=true→∀b,b∈hb (ρ id)→F' b)
 | [],st,F,h=>⟨F,h,Evo.refl _ _ _,Ref.refl,fun id hid=>by cases hid⟩
 | id :: r,st,F,h=>by
  unfold St.lock
  cases hf:find id st.ob with
  | none=>
   obtain ⟨F',h1,h2,h3,h4⟩:=ZbO r h
   refine ⟨F',h1,h2,h3,fun i hi v o hfi ho b hbb=>?_⟩
   rcases List.mem_cons.1 hi with rfl | hi
   ·rw[hf] at hfi;cases hfi
   ·exact h4 i hi _ _ hfi ho b hbb
  | some p=>
   obtain ⟨v,ob⟩:=p
   cases ob with
   | row E t l lk=>
    obtain ⟨h1,h2,h3⟩:=h.lockOne hf
    obtain ⟨F',k1,k2,k3,k4⟩:=ZbO r h1
    refine ⟨F',k1,h2.trans k2,h3.trans k3,fun i hi v' o' hfi ho b hbb=>?_⟩
    by_cases hii:i=id
    ·subst hii;exact k2.more b (.inr hbb)
    ·rcases List.mem_cons.1 hi with rfl | hi
     ·exact absurd rfl hii
     ·exact k4 i hi v' o' (by rw[Zp,if_neg hii];exact hfi) ho b hbb
   | deep E d l=>
    obtain ⟨h1,h2,h3⟩:=h.lockDeep hf
    obtain ⟨F',k1,k2,k3,k4⟩:=ZbO r h1
    refine ⟨F',k1,h2.trans k2,h3.trans k3,fun i hi v' o' hfi ho b hbb=>?_⟩
    by_cases hii:i=id
    ·subst hii;exact k2.more b (.inr hbb)
    ·rcases List.mem_cons.1 hi with rfl | hi
     ·exact absurd rfl hii
     ·exact k4 i hi v' o' (by rw[Zp,if_neg hii];exact hfi) ho b hbb
   | gone tg=>
    have hset:=R.set h (id:=id) (ver':=v) (o':=.gone tg) (h':=ρ id) (w':=w) rfl rfl rfl (Nat.le_refl _) (.inl ⟨_,hf,rfl,trivial⟩) (fun _ _ _=>rfl) (fun e=>by cases e) (fun _ _ _ e=>by cases e) (h.obs id v _ hf)
    have href:=Ref.set (st:=st) (ρ:=ρ) (id:=id) (ver':=v) (o':=.gone tg) (h':=ρ id) (.inl ⟨_,hf,rfl,trivial⟩)
    rw[Zlo] at hset href
    obtain ⟨F',k1,k2,k3,k4⟩:=ZbO r hset.1
    refine ⟨F',k1,k2,href.trans k3,fun i hi v' o' hfi ho b hbb=>?_⟩
    by_cases hii:i=id
    ·subst hii;rw[hf] at hfi;cases hfi;cases ho
    ·rcases List.mem_cons.1 hi with rfl | hi
     ·exact absurd rfl hii
     ·exact k4 i hi v' o' (by rw[Zp,if_neg hii];exact hfi) ho b hbb
   | _=>
    obtain ⟨F',h1,h2,h3,h4⟩:=ZbO r h
    refine ⟨F',h1,h2,h3,fun i hi v' o' hfi ho b hbb=>?_⟩
    rcases List.mem_cons.1 hi with rfl | hi
    ·rw[hf] at hfi;cases hfi;cases ho
    ·exact h4 i hi _ _ hfi ho b hbb
theorem RowRep.data {E:TypeId} {t:Ty} {l:List (El t)} {v:Value} (h:RowRep F w E t l v) {F':Nat→Prop} (hF:∀b,F b→F' b) (hb':∀b,b∈hb v→F' b) {A:Option Addr} {c n:Nat} (hv:v=.slice A l.length c) (hn:n≤l.length):
  LRep F' w (.sl t) (l.take n) [.slice A n c]:=by
 obtain ⟨cells,hown,hl⟩:=h
 refine ⟨A,c,by simp[Nat.min_eq_left hn],?_,fun i x hx=>?_⟩
 ·rcases hown.2 with ⟨h1,h2⟩ | ⟨g,off,cap,cur,h1,_,h2,_⟩
  ·simp;omega
  ·rw[hv] at h1;cases h1;simp;omega
 ·rw[List.getElem?_take] at hx
  split at hx
  ·rename_i hlt
   obtain ⟨cs,h1,h2⟩:=hl i x hx
   rw[hv] at hown
   rcases hown.2 with ⟨h3,h4⟩ | ⟨g,off,cap,cur,h3,_⟩
   ·omega
   ·cases h3
    refine ⟨_,cs,rfl,hb' _ (by rw[hv];exact List.mem_singleton.2 rfl),h1.keep ⟨hF,fun _ _=>rfl⟩,fun j u hu=>?_⟩
    rw[Addr.add_add,Z7]
    exact hown.cells (h2 j u hu)
  ·cases hx
theorem ERep.data {F':Nat→Prop} (hF:∀b,F b→F' b):∀ {d:DTy} {g:Value} {k:Nat} {x:El d.ty} {vs:List Value} {B:List Nat},ERep F w d g k x vs B→(∀b∈B,F' b)→LRep F' w d.ty x vs
 |.leaf t,_,_,_,_,_,h,_=>h.1.keep ⟨hF,fun _ _=>rfl⟩
 |.ro d,g,k,l,vs,B,h,hb=>by
  obtain ⟨rfl,E,cells,Bs,hown,hbl,hB,hel⟩:=h
  have hall:∀(i:Nat) (x:El d.ty),(show List (El d.ty) from l)[i]? =some x→∃cs,LRep F' w d.ty x cs∧∀j u,cs[j]? =some u→cells[i*d.ty.cells+j]? =some u:=fun i x hx=>by
   obtain ⟨cs,Bi,k1,k2,k3⟩:=hel i x hx
   exact ⟨cs,k2.data hF fun b hbb=>hb b (by rw[hB];exact List.mem_append_right _ (List.mem_flatten.2 ⟨Bi,List.mem_of_getElem? k1,hbb⟩)),k3⟩
  rcases hown.2 with ⟨h1,h2⟩ | ⟨g',off,cap,cur,h1,_,h2,_⟩
  ·refine ⟨none,0,by rw[h1];simp only[List.cons.injEq,Value.slice.injEq,and_true,true_and];exact h2.symm,by rw[h2];exact Nat.le_refl _,fun i x hx=>?_⟩
   have:=(List.getElem?_eq_some_iff.1 hx).1
   rw[h2] at this
   omega
  ·refine ⟨some ⟨g',off,none⟩,cap,by rw[h1],h2,fun i x hx=>?_⟩
   obtain ⟨cs,k1,k2⟩:=hall i x hx
   refine ⟨_,cs,rfl,hb _ (by rw[hB,h1];simp[hb1]),k1,fun j u hu=>?_⟩
   rw[Addr.add_add,Z7]
   rw[h1] at hown
   exact hown.cells (k2 j u hu)
 |.pr a b,g,k,x,vs,B,h,hb=>by
  obtain ⟨v1,v2,B1,B2,rfl,rfl,h1,h2⟩:=h
  exact ⟨v1,v2,rfl,h1.data hF fun b hbb=>hb b (by simp[hbb]),h2.data hF fun b hbb=>hb b (by simp[hbb])⟩
theorem RowD.data {E:TypeId} {d:DTy} {g:Value} {l:List (El d.ty)} {B:List Nat} (h:DRow F w E d g l B) {F':Nat→Prop} (hF:∀b,F b→F' b) (hb:∀b∈B,F' b):LRep F' w (.sl d.ty) l [gv g]:=
 ERep.data (d:=.ro d) (g:=.tuple #[undef,g]) (k:=0) hF ⟨rfl,E,h⟩ hb
theorem Zp1 {tm:Array Value} (hR:R Mod F ρ w st tm) {x y:AV} {is:List Id} (hx:toData st x=some (y,is)) {v:Value} (h:ARep F ρ w st x v)
  {F':Nat→Prop} {st':St} (hk:Keeps F w F' w) (hr:Ref st ρ st' ρ) (hF:∀id∈is,∀v o,find id st.ob=some (v,o)→isRow o=true→∀b,b∈hb (ρ id)→F' b):ARep F' ρ w st' y v:=by
 unfold toData at hx
 split at hx
 ·rename_i id ver pre
  split at hx
  ·rename_i E t l lk ho
   cases hx
   have hf:=Zw.1 ho
   cases h with
   | own _ _ _ _ hbn h1 hp=>
    obtain ⟨hn,A,c,hρ,rfl⟩:=hp E t l lk ho
    have hrow:RowRep F w E t l (ρ id):=hR.obs id ver _ hf
    have hbl:=hF id (by simp) ver _ hf rfl
    cases pre with
    | none=>
     have:=hrow.data hk.more hbl hρ (Nat.le_refl _)
     rw[List.take_length] at this
     exact .d _ _ _ this
    | some n=>exact .d _ _ _ (hrow.data hk.more hbl hρ (hn n rfl))
  ·cases hx
 ·rename_i id ver p
  split at hx
  ·rename_i E d l ho
   split at hx
   ·rename_i q hq
    cases hx
    have hf:=Zw.1 ho
    cases h with
    | dn _ _ _ _ hbn h1 hp=>
     obtain ⟨hpa,rfl⟩:=hp E d l ho
     obtain ⟨_,hrow⟩:=hR.obs id ver _ hf
     obtain ⟨q2,Eq,Bq,a1,a2,a3⟩:=Zek hrow hpa
     rw[hq] at a1
     cases a1
     exact .d _ _ _ (a2.data hk.more fun b hb=>hF id (by simp) ver _ hf rfl b (a3 b hb))
   ·cases hx
  ·cases hx
 ·cases hx
  exact h.mono hk hr
theorem ZfG {tm:Array Value} (hR:R Mod F ρ w st tm) {F':Nat→Prop} {st':St} (hk:Keeps F w F' w) (hr:Ref st ρ st' ρ):∀ {cs cs':List AV} {is:List Id} {vs:List Value},toDatas st cs=some (cs',is)→CsRep F ρ w st cs vs→
  (∀id∈is,∀v o,find id st.ob=some (v,o)→isRow o=true→∀b,b∈hb (ρ id)→F' b)→CsRep F' ρ w st' cs' vs
 | [],cs',is,vs,hx,h,hF=>by
  simp only[toDatas] at hx
  cases hx
  have:=h.1
  simp at this
  rw[List.eq_nil_of_length_eq_zero this.symm]
  exact .nil
 | x :: r,cs',is,vs,hx,h,hF=>by
  simp only[toDatas] at hx
  cases h1:toData st x with
  | none=>simp[h1] at hx
  | some p=>
   obtain ⟨y,i1⟩:=p
   cases h2:toDatas st r with
   | none=>simp[h1,h2] at hx
   | some q=>
    obtain ⟨ys,i2⟩:=q
    simp[h1,h2] at hx
    obtain ⟨rfl,rfl⟩:=hx
    match vs,h.1 with
    | v :: vs,hl=>
     have hv:ARep F ρ w st x v:=h.2 0 x v rfl rfl
     have hvs:CsRep F ρ w st r vs:=⟨by simpa using hl,fun i c u a b=>h.2 (i+1) c u a b⟩
     exact .cons (Zp1 hR h1 hv hk hr fun id hid=>hF id (List.mem_append_left _ hid)) (ZfG hR hk hr h2 hvs fun id hid=>hF id (List.mem_append_right _ hid))
theorem Zvr:∀ {t:Ty} {cs r:List AV} {x:El t} {vs:List Value},pack t cs=some (x,r)→CsRep F ρ w st cs vs→∃v1 v2,vs=v1++v2∧LRep F w t x v1∧CsRep F ρ w st r v2:=by
 intro t
 induction t with
 | int k=>
  intro cs r x vs hp h
  match cs,hp with
  |.d (.int k') v :: r',hp=>
   simp only[pack] at hp
   split at hp
   ·rename_i hk;subst hk
    cases hp
    match vs,h.1 with
    | u :: us,hl=>
     have hu:=Zaq (h.2 0 _ u rfl rfl)
     exact ⟨[u],us,rfl,by simp[LRep,hu],by simpa using hl,fun i c u a b=>h.2 (i+1) c u a b⟩
   ·cases hp
 | bool=>
  intro cs r x vs hp h
  match cs,hp with
  |.d .bool v :: r',hp=>
   simp only[pack] at hp
   cases hp
   match vs,h.1 with
   | u :: us,hl=>
    have hu:=Zcq (h.2 0 _ u rfl rfl)
    exact ⟨[u],us,rfl,by simp[LRep,hu],by simpa using hl,fun i c u a b=>h.2 (i+1) c u a b⟩
 | str=>
  intro cs r x vs hp h
  match cs,hp with
  |.d .str v :: r',hp=>
   simp only[pack] at hp
   cases hp
   match vs,h.1 with
   | u :: us,hl=>
    have hu:=Zgz (h.2 0 _ u rfl rfl)
    exact ⟨[u],us,rfl,by simp[LRep,hu],by simpa using hl,fun i c u a b=>h.2 (i+1) c u a b⟩
 | sl t ih=>
  intro cs r x vs hp h
  match cs,hp with
  |.nil :: r',hp=>
   simp only[pack] at hp
   cases hp
   match vs,h.1 with
   | u :: us,hl=>
    have hu:=h.2 0 _ u rfl rfl
    cases hu
    exact ⟨[_],us,rfl,⟨none,0,rfl,Nat.le_refl _,fun i x hx=>by simp at hx⟩,by simpa using hl,fun i c u a b=>h.2 (i+1) c u a b⟩
  |.d (.sl t') v :: r',hp=>
   simp only[pack] at hp
   split at hp
   ·rename_i hk;subst hk
    cases hp
    match vs,h.1 with
    | u :: us,hl=>
     have hu:=h.2 0 _ u rfl rfl
     cases hu with
     | d _ _ _ hu=>exact ⟨[u],us,rfl,hu,by simpa using hl,fun i c u a b=>h.2 (i+1) c u a b⟩
   ·cases hp
 | pr a b iha ihb=>
  intro cs r x vs hp h
  simp only[pack] at hp
  cases h1:pack a cs with
  | none=>simp[h1] at hp
  | some p=>
   obtain ⟨x1,r1⟩:=p
   cases h2:pack b r1 with
   | none=>simp[h1,h2] at hp
   | some q=>
    obtain ⟨x2,r2⟩:=q
    simp[h1,h2] at hp
    obtain ⟨rfl,rfl⟩:=hp
    obtain ⟨v1,v2,rfl,l1,c1⟩:=iha h1 h
    obtain ⟨v3,v4,rfl,l2,c2⟩:=ihb h2 c1
    exact ⟨v1++v3,v4,by simp,⟨v1,v3,rfl,l1,l2⟩,c2⟩
 | un=>
  intro cs r x vs hp h
  simp only[pack] at hp
  cases hp
  exact ⟨[],vs,rfl,rfl,h⟩
theorem Za4 {t:Ty} {cs:List AV} {x:El t} {vs:List Value} (hp:packAll t cs=some x) (h:CsRep F ρ w st cs vs):LRep F w t x vs:=by
 unfold packAll at hp
 split at hp
 ·rename_i v hv
  cases hp
  obtain ⟨v1,v2,rfl,l1,c1⟩:=Zvr hv h
  have:v2=[]:=List.eq_nil_of_length_eq_zero (by simpa using c1.1.symm)
  rw[this,List.append_nil]
  exact l1
 ·cases hp
theorem Zsy {t:Ty} :∀ {n:Nat} {cs:List AV} {l:List (El t)} {vs:List Value},packN t n cs=some l→CsRep F ρ w st cs vs→
  l.length=n∧vs.length=n*t.cells∧∀i x,l[i]? =some x→∃us,LRep F w t x us∧∀j u,us[j]? =some u→vs[i*t.cells+j]? =some u
 | 0,[],l,vs,hp,h=>by
  simp only[packN] at hp
  cases hp
  have:=h.1
  simp at this
  exact ⟨rfl,by simp[this.symm],fun i x hx=>by simp at hx⟩
 | 0,_ :: _,l,vs,hp,h=>by simp[packN] at hp
 | n+1,cs,l,vs,hp,h=>by
  simp only[packN] at hp
  cases h1:pack t cs with
  | none=>simp[h1] at hp
  | some p=>
   obtain ⟨x1,r1⟩:=p
   cases h2:packN t n r1 with
   | none=>simp[h1,h2] at hp
   | some xs=>
    simp[h1,h2] at hp
    subst hp
    obtain ⟨v1,v2,rfl,l1,c1⟩:=Zvr h1 h
    obtain ⟨e1,e2,e3⟩:=Zsy h2 c1
    have hv1:=l1.length
    refine ⟨by simp[e1],by simp[e2,hv1,Nat.add_mul];omega,fun i x hx=>?_⟩
    cases i with
    | zero=>
     simp at hx
     subst hx
     exact ⟨v1,l1,fun j u hu=>by rw[Nat.zero_mul,Nat.zero_add,List.getElem?_append_left (List.getElem?_eq_some_iff.1 hu).1];exact hu⟩
    | succ i=>
     simp at hx
     obtain ⟨us,h3,h4⟩:=e3 i x hx
     refine ⟨us,h3,fun j u hu=>?_⟩
     rw[List.getElem?_append_right (by rw[hv1,Nat.add_mul];omega)]
     have:=h4 j u hu
     rw[show (i+1)*t.cells+j - v1.length=i*t.cells+j by rw[hv1,Nat.add_mul];omega]
     exact this
end
end Go.Ev
end

section
namespace Go.Ev
variable [Tabs] [Orgs]
open Go
section
variable {P:Program} {Mod:Nat→Prop} {o:Oper} {st:St} {F:Nat→Prop} {ρ:Rho} {w:World}
theorem Zay {cur ns:List Value} {off m:Nat} (h:off+ns.length≤cur.length):(cur.take off++ns++cur.drop (off+ns.length))[m]? =if m < off then cur[m]? else if m < off+ns.length then ns[m - off]? else cur[m]?:=by
 rw[List.append_assoc]
 by_cases h1:m < off
 ·rw[if_pos h1,List.getElem?_append_left (by simp;omega),List.getElem?_take,if_pos h1]
 ·rw[if_neg h1,List.getElem?_append_right (by simp;omega),List.length_take,Nat.min_eq_left (by omega)]
  by_cases h2:m < off+ns.length
  ·rw[if_pos h2,List.getElem?_append_left (by omega)]
  ·rw[if_neg h2,List.getElem?_append_right (by omega),List.getElem?_drop]
   congr 1
   omega
theorem Zst {T:TypeId} {x v:Operand} (h:o.op=.store T x v) {vs:List AV} (hvs:(st.ev v).cells=some vs) {z:Nat} (hz:szOf P T=some z) (hlen:vs.length=z) (hone:vs.all AV.one=true)
  {id ver i j:Nat} (hx:st.ev x=.pe id ver i j) {vs':List AV} {is:List Id} (hd:toDatas st vs=some (vs',is)) {E:TypeId} {t:Ty} {l:List (El t)} (ho:(st.lock is).obj id ver=some (.row E t l false))
  (hfit:j+z≤(flat t (l.getD i (dflt t))).length) {e:El t} (he:packAll t (setRange (flat t (l.getD i (dflt t))) j vs')=some e):
  OpOK P Mod o st (((st.lock is).setOb id ver (.row E t (l.set i e) false)).put o.dst .top):=by
 intro F ρ w a Q hR hdef
 have hp:=Zt hR x
 rw[hx] at hp
 have hv:=ZgY hvs (Zt hR v)
 generalize ha:a.eval x=u at hp
 generalize hu:a.eval v=y at hv
 obtain ⟨F1,hR1,hE1,hr1,hF1⟩:=ZbO is hR
 have hk1:Keeps F w F1 w:=⟨hE1.more,fun _ _=>rfl⟩
 have hv1:=ZfG hR hk1 hr1 hd hv hF1
 have hp1:=hp.mono hk1 hr1
 have hf:=Zw.1 ho
 have hyl:y.cells.size=z:=by rw[←hlen,hv.1,Array.length_toList]
 have hones:∀u∈y.cells.toList,u.oneCell'=true:=by
  intro u hu'
  obtain ⟨m,hm⟩:=List.getElem?_of_mem hu'
  have hilt:m < vs.length:=by rw[hv.1];exact (List.getElem?_eq_some_iff.1 hm).1
  exact Zop (List.all_eq_true.1 hone _ (List.getElem_mem hilt)) (hv.2 m _ u (by simp[hilt]) hm)
 cases hp1 with
 | pe _ _ _ _ _ hbn h1 hpp=>
  obtain ⟨ad,n,c,hρ,rfl,hi⟩:=hpp E t l false ho
  obtain ⟨cells,hown,hl⟩:=hR1.obs id ver _ hf
  rcases hown.2 with ⟨h3,_⟩ | ⟨g,off,cap,cur,h3,hh,hnc,hcm,hsz,htk⟩
  ·rw[hρ] at h3;cases h3
  rw[hρ] at h3
  cases h3
  obtain ⟨os,hos,hat⟩:=hl i (l.getD i (dflt t)) (by simp[List.getD,List.getElem?_eq_getElem hi])
  have hol:=hos.length
  have hfl:(flat t (l.getD i (dflt t))).length=t.cells:=by rw[(Zdx (ρ:=ρ) (st:=st) hos).1,hol]
  rw[hfl] at hfit
  have hcap:i*t.cells+t.cells≤c*t.cells:=by
   rw[←Nat.succ_mul];exact Nat.mul_le_mul_right _ (by omega)
  have hst:=run_storeCells_at (P:=P) g (off+(i*t.cells+j)) E y.cells.toList 0 cur w hh (by simp[hyl];omega) hones
  simp only[Nat.add_zero] at hst
  have hrun:(execOp a.eval o).run P w=.ok .skip (w.setRow g (cur.toList.take (off+(i*t.cells+j))++y.cells.toList++cur.toList.drop (off+(i*t.cells+j)+y.cells.toList.length)).toArray):=by
   rw[Z7] at ha
   simp[execOp,h,ha,hu,Instr.storeAt,Instr.sureAddr,storeVar,ZP hz,hyl] at hst ⊢
   simp[hst]
  unfold Oper.wp
  rw[hrun]
  have hsl:off+(i*t.cells+j)+y.cells.toList.length≤cur.toList.length:=by simp[hyl];omega
  have hk2:Keeps F1 w F1 (w.setRow g (cur.toList.take (off+(i*t.cells+j))++y.cells.toList++cur.toList.drop (off+(i*t.cells+j)+y.cells.toList.length)).toArray):=
   ⟨fun _ h=>h,fun k hF=>setRow_other _ _ _ _ (fun e=>by subst e;exact (hR1.sep id ver _ k hf rfl (by rw[hρ];exact List.mem_singleton.2 rfl)).1 hF)⟩
  have hset:=R.set hR1 (w':=w.setRow g (cur.toList.take (off+(i*t.cells+j))++y.cells.toList++cur.toList.drop (off+(i*t.cells+j)+y.cells.toList.length)).toArray) (id:=id) (ver':=ver) (o':=.row E t (l.set i e) false) (h':=ρ id)
   rfl rfl rfl (by simp) (.inl ⟨_,hf,rfl,rfl,by simp⟩)
   (fun k hk hne=>setRow_other _ _ _ _ (fun e=>hne ver _ hf rfl (by rw[hρ,e];exact List.mem_singleton.2 rfl)))
   (fun _ b2 hb2=>by
    obtain ⟨s1,s2,s3,_⟩:=hR1.sep id ver _ b2 hf rfl hb2
    exact ⟨s1,s2,by simpa using s3,.inr ⟨_,_,hf,rfl,hb2⟩⟩)
   (fun _ _ _ e=>by cases e) ?_
  ·obtain ⟨hR',hE⟩:=hset
   exact ⟨by rw[ZX];exact hdef,F1,_,R.put (a:=a) hR' (.top _) o.dst,hE1.trans hE⟩
  ·have hnew:=Za4 he (CsRep.setRange (off:=j) (Zdx (ρ:=ρ) (st:=st.lock is) hos) hv1)
   refine ⟨((cur.toList.take (off+(i*t.cells+j))++y.cells.toList++cur.toList.drop (off+(i*t.cells+j)+y.cells.toList.length)).drop off).take (l.length*t.cells),⟨?_,.inr ⟨g,off,c,_,by rw[hρ];simp,setRow_heap w g cur _ E (0,0) hh,by simpa using hnc,hcm,?_,by simp⟩⟩,?_⟩
   ·simp only[List.length_take,List.length_append,List.length_drop,List.length_set]
    have:=hown.1
    have hcl:l.length*t.cells≤c*t.cells:=Nat.mul_le_mul_right _ hnc
    simp[hyl] at hsl ⊢
    omega
   ·simp only[List.size_toArray,List.length_append,List.length_take,List.length_drop]
    simp[hyl] at hsl ⊢
    omega
   ·intro i' x' hx'
    have hlt':i' < l.length:=by have:=(List.getElem?_eq_some_iff.1 hx').1;simpa using this
    have hb1:i'*t.cells+t.cells≤l.length*t.cells:=by rw[←Nat.succ_mul];exact Nat.mul_le_mul_right _ hlt'
    by_cases hii:i=i'
    ·subst hii
     rw[List.getElem?_set_self hi] at hx'
     cases hx'
     refine ⟨_,hnew.keep hk2,fun m u hm=>?_⟩
     have hmlt:m < t.cells:=by have:=(List.getElem?_eq_some_iff.1 hm).1;have h5:=hnew.length;rw[h5] at this;exact this
     rw[List.getElem?_take,if_pos (by omega),List.getElem?_drop,Zay hsl]
     rw[←List.append_assoc,Zay (by rw[hol];simp[hyl];omega)] at hm
     by_cases hc1:m < j
     ·rw[if_pos hc1] at hm
      rw[if_pos (by omega)]
      have:=hat m u hm
      rw[←htk,List.getElem?_take,if_pos (by omega),List.getElem?_drop] at this
      exact this
     ·rw[if_neg hc1] at hm
      rw[if_neg (by omega)]
      by_cases hc2:m < j+y.cells.toList.length
      ·rw[if_pos hc2] at hm
       rw[if_pos (by omega)]
       rw[show off+(i*t.cells+m) - (off+(i*t.cells+j))=m - j by omega]
       exact hm
      ·rw[if_neg hc2] at hm
       rw[if_neg (by omega)]
       have:=hat m u hm
       rw[←htk,List.getElem?_take,if_pos (by omega),List.getElem?_drop] at this
       exact this
    ·rw[List.getElem?_set_ne hii] at hx'
     obtain ⟨cs',h6,h7⟩:=hl i' x' hx'
     refine ⟨cs',h6.keep hk2,fun m u hm=>?_⟩
     have hmlt:m < t.cells:=by have:=(List.getElem?_eq_some_iff.1 hm).1;have h5:=h6.length;rw[h5] at this;exact this
     have h8:=h7 m u hm
     rw[←htk,List.getElem?_take,if_pos (by omega),List.getElem?_drop] at h8
     rw[List.getElem?_take,if_pos (by omega),List.getElem?_drop,Zay hsl]
     by_cases hlt2:i' < i
     ·have:i'*t.cells+t.cells≤i*t.cells:=by rw[←Nat.succ_mul];exact Nat.mul_le_mul_right _ hlt2
      rw[if_pos (by omega)]
      exact h8
     ·have:i*t.cells+t.cells≤i'*t.cells:=by rw[←Nat.succ_mul];exact Nat.mul_le_mul_right _ (by omega)
      have hy2:y.cells.toList.length=z:=by simp[hyl]
      rw[if_neg (by omega),if_neg (by omega)]
      exact h8
end
end Go.Ev
end

section
namespace Go.Ev
variable [Tabs] [Orgs]
open Go
section
variable {P:Program} {Mod:Nat→Prop} {o:Oper} {st:St} {F F':Nat→Prop} {ρ:Rho} {w w':World}
theorem Znv:∀ {Bs:List (List Nat)} {i j:Nat} {A C:List Nat} {b:Nat},Bs.flatten.Nodup→Bs[i]? =some A→Bs[j]? =some C→b∈A→b∈C→i=j
 | [],i,j,A,C,b,_,h,_,_,_=>by simp at h
 | X :: Bs,i,j,A,C,b,hn,h1,h2,ha,hc=>by
  rw[List.flatten_cons,List.nodup_append] at hn
  obtain ⟨_,hn2,hn3⟩:=hn
  match i,j,h1,h2 with
  | 0,0,_,_=>rfl
  | 0,j+1,h1,h2=>
   simp at h1 h2
   subst h1
   exact absurd rfl (hn3 b ha b (List.mem_flatten.2 ⟨C,List.mem_of_getElem? h2,hc⟩))
  | i+1,0,h1,h2=>
   simp at h1 h2
   subst h2
   exact absurd rfl (hn3 b hc b (List.mem_flatten.2 ⟨A,List.mem_of_getElem? h1,ha⟩))
  | i+1,j+1,h1,h2=>
   simp at h1 h2
   rw[Znv hn2 h1 h2 ha hc]
def RowTo (F F':Nat→Prop) (w w':World) (g0:Nat) (q:DRw) (g:Value) (f:(d:DTy)→List (El d.ty)→Option (List (El d.ty))):Prop:=
 ∀E B,DRow F w E q.1 g q.2 B→B.Nodup→(∀b∈B,b≠g0→w'.heap[b]? =w.heap[b]?)→g0∈B∧∃l',f q.1 q.2=some l'∧DRow F' w' E q.1 g l' B∧sameR q.1 q.2 l'
theorem Zn0 (hk:Keeps F w F' w') {g0:Nat} {f:(d:DTy)→List (El d.ty)→Option (List (El d.ty))} :∀ {d:DTy} {g:Value} {k0:Nat} {x:El d.ty} {vs:List Value} {B:List Nat},ERep F w d g k0 x vs B→B.Nodup→(∀b∈B,b≠g0→w'.heap[b]? =w.heap[b]?)→
  ∀ {k:Nat} {q:DRw},roAt d x k=some q→RowTo F F' w w' g0 q (gk g (k0+k)) f→g0∈B∧∃x',roSet d x k f=some x'∧ERep F' w' d g k0 x' vs B∧sameE d x x'
 |.leaf t,_,_,_,_,_,_,_,_,_,_,h,_=>by cases h
 |.ro d,g,k0,l,vs,B,h,hn,hs,k,q,hq,hf=>by
  simp only[roAt] at hq
  cases hb:Nat.beq k 0 with
  | false=>rw[hb] at hq;cases hq
  | true=>
   rw[hb] at hq
   cases hq
   obtain rfl:=Nat.eq_of_beq_eq_true hb
   obtain ⟨rfl,E,hr⟩:=h
   obtain ⟨h1,l',h2,h3,h4⟩:=hf E B hr hn hs
   exact ⟨h1,l',h2,⟨rfl,E,h3⟩,h4⟩
 |.pr a b,g,k0,x,vs,B,h,hn,hs,k,q,hq,hf=>by
  obtain ⟨v1,v2,B1,B2,rfl,rfl,h1,h2⟩:=h
  obtain ⟨n1,n2,n3⟩:=List.nodup_append.1 hn
  simp only[roAt] at hq
  simp only[roSet]
  cases hb:Nat.blt k a.ty.cells with
  | true=>
   rw[hb] at hq
   obtain ⟨e0,x',e1,e2,e3⟩:=Zn0 hk h1 n1 (fun b hb=>hs b (by simp[hb])) hq hf
   refine ⟨by simp[e0],(x',x.2),by simp only[cond_true,e1,Option.map_some],⟨v1,v2,B1,B2,rfl,rfl,e2,h2.keep hk fun b hb=>hs b (by simp[hb]) fun e=>?_⟩,e3,Zcu _ _⟩
   subst e
   exact n3 b e0 b hb rfl
  | false=>
   rw[hb] at hq
   have hge:¬k < a.ty.cells:=fun h=>by rw[←Nat.blt_eq] at h;rw[h] at hb;cases hb
   obtain ⟨e0,x',e1,e2,e3⟩:=Zn0 hk h2 n2 (fun b hb=>hs b (by simp[hb])) hq (by rw[show k0+a.ty.cells+(k - a.ty.cells)=k0+k by omega];exact hf)
   refine ⟨by simp[e0],(x.1,x'),by simp only[cond_false,e1,Option.map_some],⟨v1,v2,B1,B2,rfl,rfl,h1.keep hk fun b hb=>hs b (by simp[hb]) fun e=>?_,e2⟩,Zcu _ _,e3⟩
   subst e
   exact n3 b hb b e0 rfl
theorem Zs0 {d:DTy} {l:List (El d.ty)} {i:Nat} {e:El d.ty} (hi:i < l.length) (h:sameE d (l.getD i (dflt d.ty)) e):sameR d l (l.set i e):=by
 refine ⟨by simp,fun i' x x' hx hx'=>?_⟩
 by_cases hii:i=i'
 ·subst hii
  rw[List.getElem?_set_self hi] at hx'
  cases hx'
  rw[ZbP (z:=dflt d.ty) hi] at hx
  cases hx
  exact h
 ·rw[List.getElem?_set_ne hii,hx] at hx'
  cases hx'
  exact Zcu _ _
theorem ZpU (hk:Keeps F w F' w') {g0:Nat} {f:(d:DTy)→List (El d.ty)→Option (List (El d.ty))} :∀ {p:Path} {E:TypeId} {d:DTy} {g:Value} {l:List (El d.ty)} {B:List Nat} {q:DRw},DRow F w E d g l B→B.Nodup→(∀b∈B,b≠g0→w'.heap[b]? =w.heap[b]?)→
  okPath d l p→rowAt d l p=some q→RowTo F F' w w' g0 q (gAt g p) f→g0∈B∧∃l',rowSet d l p f=some l'∧DRow F' w' E d g l' B∧sameR d l l'
 | [],E,d,g,l,B,q,h,hn,hs,_,hq,hf=>by
  cases hq
  exact hf E B h hn hs
 | (i,k) :: r,E,d,g,l,B,q,h,hn,hs,hp,hq,hf=>by
  obtain ⟨hi,q0,hq0,hp'⟩:=hp
  simp only[rowAt,hq0] at hq
  obtain ⟨cells,Bs,hown,hbl,hB,hel⟩:=h
  obtain ⟨cs,Bi,k1,k2,k3⟩:=hel i _ (ZbP (z:=dflt d.ty) hi)
  subst hB
  obtain ⟨n1,n2,n3⟩:=List.nodup_append.1 hn
  have hsub:∀b∈Bi,b∈Bs.flatten:=fun b hb=>List.mem_flatten.2 ⟨Bi,List.mem_of_getElem? k1,hb⟩
  have hni:Bi.Nodup:=(List.pairwise_flatten.1 n2).1 Bi (List.mem_of_getElem? k1)
  obtain ⟨e0,x',e1,e2,e3⟩:=Zn0 hk (f:=fun d' l'=>rowSet d' l' r f) k2 hni (fun b hb=>hs b (by simp[hsub b hb])) hq0 (by
   intro E0 B0 a1 a2 a3
   rw[Nat.zero_add] at a1 ⊢
   exact ZpU hk a1 a2 a3 hp' hq hf)
  refine ⟨by simp[hsub _ e0],l.set i x',by simp only[rowSet,e1,Option.map_some],⟨cells,Bs,?_,by simpa using hbl,rfl,fun i' y hy=>?_⟩,Zs0 hi e3⟩
  ·rw[List.length_set]
   exact Zfx hown fun b hb=>hs b (by simp[hb]) fun e=>by subst e;exact n3 b hb b (hsub b e0) rfl
  ·by_cases hii:i=i'
   ·subst hii
    rw[List.getElem?_set_self hi] at hy
    cases hy
    exact ⟨cs,Bi,k1,e2,k3⟩
   ·rw[List.getElem?_set_ne hii] at hy
    obtain ⟨cs',Bi',j1,j2,j3⟩:=hel i' y hy
    refine ⟨cs',Bi',j1,j2.keep hk fun b hb=>hs b (by simp only[List.mem_append,List.mem_flatten];exact .inr ⟨Bi',List.mem_of_getElem? j1,hb⟩) fun e=>?_,j3⟩
    subst e
    exact hii (Znv n2 k1 j1 e0 hb)
theorem Zr6 (hk:Keeps F w F' w') {st1:St} :∀ {d:DTy} {g:Value} {k0:Nat} {x x':El d.ty} {vs ns:List Value} {B:List Nat} {j:Nat} {as:List AV},ERep F w d g k0 x vs B→(∀b∈B,w'.heap[b]? =w.heap[b]?)→setD d x j as=some x'→CsRep F ρ w st1 as ns→j+ns.length≤d.ty.cells→
  ERep F' w' d g k0 x' (vs.take j++(ns++vs.drop (j+ns.length))) B∧sameE d x x'
 |.leaf t,g,k0,x,x',vs,ns,B,j,as,h,hs,hx,hc,hj=>by
  obtain ⟨h1,rfl⟩:=h
  exact ⟨⟨(Za4 hx (CsRep.setRange (off:=j) (Zdx h1) hc)).keep hk,rfl⟩,trivial⟩
 |.ro d,_,_,_,_,_,_,_,_,_,_,_,hx,_,_=>by cases hx
 |.pr a b,g,k0,x,x',vs,ns,B,j,as,h,hs,hx,hc,hj=>by
  obtain ⟨v1,v2,B1,B2,rfl,rfl,h1,h2⟩:=h
  have e1:=h1.length
  have e2:=h2.length
  have hl:=hc.1
  simp only[setD] at hx
  simp only[Ty.cells] at hj
  cases hb:Nat.ble (j+as.length) a.ty.cells with
  | true=>
   rw[hb] at hx
   have hle:=Nat.le_of_ble_eq_true hb
   obtain ⟨y,hy,rfl⟩:=Option.map_eq_some_iff.1 hx
   obtain ⟨a1,a2⟩:=Zr6 hk h1 (fun b hb=>hs b (by simp[hb])) hy hc (by omega)
   refine ⟨⟨_,v2,B1,B2,?_,rfl,a1,h2.keep hk fun b hb=>hs b (by simp[hb])⟩,a2,Zcu _ _⟩
   rw[List.take_append_of_le_length (by omega),List.drop_append_of_le_length (by omega)]
   simp
  | false=>
   rw[hb] at hx
   simp only[cond_false] at hx
   cases hb2:Nat.ble a.ty.cells j with
   | false=>rw[hb2] at hx;cases hx
   | true=>
    rw[hb2] at hx
    have hle:=Nat.le_of_ble_eq_true hb2
    obtain ⟨y,hy,rfl⟩:=Option.map_eq_some_iff.1 hx
    obtain ⟨a1,a2⟩:=Zr6 hk h2 (fun b hb=>hs b (by simp[hb])) hy hc (by omega)
    refine ⟨⟨v1,_,B1,B2,?_,rfl,h1.keep hk fun b hb=>hs b (by simp[hb]),a1⟩,Zcu _ _,a2⟩
    rw[List.take_append,List.drop_append,List.take_of_length_le (by omega),List.drop_of_length_le (by omega),e1]
    rw[show j+ns.length - a.ty.cells=j - a.ty.cells+ns.length by omega]
    simp
theorem Zu6 {f:(d:DTy)→List (El d.ty)→Option (List (El d.ty))} :∀ {d:DTy} {x x':El d.ty} {k:Nat} {q:DRw},roSet d x k f=some x'→roAt d x k=some q→∃l',f q.1 q.2=some l'
 |.leaf t,_,_,_,_,h,_=>by cases h
 |.ro d,l,l',k,q,h,hq=>by
  simp only[roAt] at hq
  simp only[roSet] at h
  cases hb:Nat.beq k 0 with
  | false=>rw[hb] at hq;cases hq
  | true=>rw[hb] at hq h;cases hq;exact ⟨_,h⟩
 |.pr a b,x,x',k,q,h,hq=>by
  simp only[roAt] at hq
  simp only[roSet] at h
  cases hb:Nat.blt k a.ty.cells with
  | true=>rw[hb] at hq h;obtain ⟨y,h1,_⟩:=Option.map_eq_some_iff.1 h;exact Zu6 h1 hq
  | false=>rw[hb] at hq h;obtain ⟨y,h1,_⟩:=Option.map_eq_some_iff.1 h;exact Zu6 h1 hq
theorem Zvs {f:(d:DTy)→List (El d.ty)→Option (List (El d.ty))} :∀ {p:Path} {d:DTy} {l l2:List (El d.ty)} {q:DRw},rowSet d l p f=some l2→rowAt d l p=some q→∃l',f q.1 q.2=some l'
 | [],d,l,l2,q,h,hq=>by cases hq;exact ⟨_,h⟩
 | (i,k) :: r,d,l,l2,q,h,hq=>by
  simp only[rowSet] at h
  obtain ⟨y,h1,_⟩:=Option.map_eq_some_iff.1 h
  cases h0:roAt d (l.getD i (dflt d.ty)) k with
  | none=>simp only[rowAt,h0] at hq;cases hq
  | some q0=>
   simp only[rowAt,h0] at hq
   obtain ⟨l',h2⟩:=Zu6 h1 h0
   exact Zvs h2 hq
theorem Zrd {T:TypeId} {x v:Operand} (h:o.op=.store T x v) {vs:List AV} (hvs:(st.ev v).cells=some vs) {z:Nat} (hz:szOf P T=some z) (hlen:vs.length=z) (hone:vs.all AV.one=true)
  {id ver i j:Nat} {p:Path} (hx:st.ev x=.da id ver p i j) {vs':List AV} {is:List Id} (hd:toDatas st vs=some (vs',is)) {E:TypeId} {d:DTy} {l l2:List (El d.ty)} (ho:(st.lock is).obj id ver=some (.deep E d l))
  {q:DRw} (hq:rowAt d l p=some q) (hfit:j+z≤q.1.ty.cells) (he:rowSet d l p (fun d' l'=>(setD d' (l'.getD i (dflt d'.ty)) j vs').map fun e=>l'.set i e)=some l2):
  OpOK P Mod o st (((st.lock is).setOb id ver (.deep E d l2)).put o.dst .top):=by
 intro F ρ w a Q hR hdef
 have hp:=Zt hR x
 rw[hx] at hp
 have hv:=ZgY hvs (Zt hR v)
 generalize ha:a.eval x=u at hp
 generalize hu:a.eval v=y at hv
 obtain ⟨F1,hR1,hE1,hr1,hF1⟩:=ZbO is hR
 have hk1:Keeps F w F1 w:=⟨hE1.more,fun _ _=>rfl⟩
 have hv1:=ZfG hR hk1 hr1 hd hv hF1
 have hp1:=hp.mono hk1 hr1
 have hf:=Zw.1 ho
 have hyl:y.cells.size=z:=by rw[←hlen,hv.1,Array.length_toList]
 have hones:∀u∈y.cells.toList,u.oneCell'=true:=by
  intro u hu'
  obtain ⟨m,hm⟩:=List.getElem?_of_mem hu'
  have hilt:m < vs.length:=by rw[hv.1];exact (List.getElem?_eq_some_iff.1 hm).1
  exact Zop (List.all_eq_true.1 hone _ (List.getElem_mem hilt)) (hv.2 m _ u (by simp[hilt]) hm)
 cases hp1 with
 | da _ _ _ _ _ _ hbn h1 hpp=>
  obtain ⟨hpa,q',hq',hi,ad,n,c,hg,rfl⟩:=hpp E d l ho
  rw[hq] at hq'
  cases hq'
  obtain ⟨hnd,hrow⟩:=hR1.obs id ver _ hf
  obtain ⟨q2,Eq,Bq,a1,a2,a3⟩:=Zek hrow hpa
  rw[hq] at a1
  cases a1
  obtain ⟨cells,Bs,hown,hbl,hB,hel⟩:=_root_.id a2
  rcases hown.2 with ⟨h3,_⟩ | ⟨g,off,cap,cur,h3,hh,hnc,hcm,hsz,htk⟩
  ·rw[hg] at h3;cases h3
  rw[hg] at h3
  cases h3
  have hgB:g∈hb (ρ id):=a3 g (by rw[hB,hg];simp[hb1])
  have hcap:i*q.1.ty.cells+q.1.ty.cells≤c*q.1.ty.cells:=by
   rw[←Nat.succ_mul];exact Nat.mul_le_mul_right _ (by omega)
  have hst:=run_storeCells_at (P:=P) g (off+(i*q.1.ty.cells+j)) Eq y.cells.toList 0 cur w hh (by simp[hyl];omega) hones
  simp only[Nat.add_zero] at hst
  have hrun:(execOp a.eval o).run P w=.ok .skip (w.setRow g (cur.toList.take (off+(i*q.1.ty.cells+j))++y.cells.toList++cur.toList.drop (off+(i*q.1.ty.cells+j)+y.cells.toList.length)).toArray):=by
   rw[Z7] at ha
   simp[execOp,h,ha,hu,Instr.storeAt,Instr.sureAddr,storeVar,ZP hz,hyl] at hst ⊢
   simp[hst]
  unfold Oper.wp
  rw[hrun]
  have hsl:off+(i*q.1.ty.cells+j)+y.cells.toList.length≤cur.toList.length:=by simp[hyl];omega
  have hk2:Keeps F1 w F1 (w.setRow g (cur.toList.take (off+(i*q.1.ty.cells+j))++y.cells.toList++cur.toList.drop (off+(i*q.1.ty.cells+j)+y.cells.toList.length)).toArray):=
   ⟨fun _ h=>h,fun k hF=>setRow_other _ _ _ _ (fun e=>by subst e;exact (hR1.sep id ver _ k hf rfl hgB).1 hF)⟩
  have hsame:∀b,b≠g→(w.setRow g (cur.toList.take (off+(i*q.1.ty.cells+j))++y.cells.toList++cur.toList.drop (off+(i*q.1.ty.cells+j)+y.cells.toList.length)).toArray).heap[b]? =w.heap[b]?:=fun b hb=>setRow_other _ _ _ _ hb
  have key:RowTo F1 F1 w (w.setRow g (cur.toList.take (off+(i*q.1.ty.cells+j))++y.cells.toList++cur.toList.drop (off+(i*q.1.ty.cells+j)+y.cells.toList.length)).toArray) g q (gAt (gv (ρ id)) p)
    (fun d' l'=>(setD d' (l'.getD i (dflt d'.ty)) j vs').map fun e=>l'.set i e):=by
   intro E0 B0 hrow0 hnd0 hs0
   obtain ⟨lq,hlq⟩:=Zvs he hq
   obtain ⟨e,hse,rfl⟩:=Option.map_eq_some_iff.1 hlq
   obtain ⟨cells0,Bs0,hown0,hbl0,hB0,hel0⟩:=hrow0
   rcases hown0.2 with ⟨h3,_⟩ | ⟨g',off',cap',cur',h3,hh',hnc',hcm',hsz',htk'⟩
   ·rw[hg] at h3;cases h3
   rw[hg] at h3
   cases h3
   rw[hh] at hh'
   cases hh'
   have hgB0:g∈hb1 (gv (gAt (gv (ρ id)) p)):=by rw[hg];simp[hb1]
   subst hB0
   obtain ⟨m1,m2,m3⟩:=List.nodup_append.1 hnd0
   have hflat:∀b∈Bs0.flatten,b≠g:=fun b hb e=>by subst e;exact m3 b hgB0 b hb rfl
   obtain ⟨cs0,Bi,k1,hos,hat⟩:=hel0 i _ (ZbP (z:=dflt q.1.ty) hi)
   have hol:=hos.length
   obtain ⟨hnew,hse2⟩:=Zr6 hk2 hos (fun b hb=>hsame b (hflat b (List.mem_flatten.2 ⟨Bi,List.mem_of_getElem? k1,hb⟩))) hse hv1 (by simp[hyl];omega)
   have hcsl:cs0.length=q.1.ty.cells:=hol
   refine ⟨List.mem_append_left _ hgB0,_,hlq,⟨((cur.toList.take (off+(i*q.1.ty.cells+j))++y.cells.toList++cur.toList.drop (off+(i*q.1.ty.cells+j)+y.cells.toList.length)).drop off).take (q.2.length*q.1.ty.cells),Bs0,⟨?_,.inr ⟨g,off,c,_,by rw[hg,List.length_set],setRow_heap w g cur _ Eq (0,0) hh,by simpa using hnc,hcm,?_,by simp⟩⟩,by simpa using hbl0,rfl,fun i' x' hx'=>?_⟩,Zs0 hi hse2⟩
   ·simp only[List.length_take,List.length_append,List.length_drop,List.length_set]
    have hcl:q.2.length*q.1.ty.cells≤c*q.1.ty.cells:=Nat.mul_le_mul_right _ hnc
    simp[hyl] at hsl ⊢
    omega
   ·simp only[List.size_toArray,List.length_append,List.length_take,List.length_drop]
    simp[hyl] at hsl ⊢
    omega
   ·have hlt':i' < q.2.length:=by have:=(List.getElem?_eq_some_iff.1 hx').1;simpa using this
    have hb1:i'*q.1.ty.cells+q.1.ty.cells≤q.2.length*q.1.ty.cells:=by rw[←Nat.succ_mul];exact Nat.mul_le_mul_right _ hlt'
    by_cases hii:i=i'
    ·subst hii
     rw[List.getElem?_set_self hi] at hx'
     cases hx'
     refine ⟨_,Bi,k1,hnew,fun m u hm=>?_⟩
     have hmlt:m < q.1.ty.cells:=by have:=(List.getElem?_eq_some_iff.1 hm).1;have h5:=hnew.length;rw[h5] at this;exact this
     rw[List.getElem?_take,if_pos (by omega),List.getElem?_drop,Zay hsl]
     rw[←List.append_assoc,Zay (by rw[hcsl];simp[hyl];omega)] at hm
     by_cases hc1:m < j
     ·rw[if_pos hc1] at hm
      rw[if_pos (by omega)]
      have:=hat m u hm
      rw[←htk',List.getElem?_take,if_pos (by omega),List.getElem?_drop] at this
      exact this
     ·rw[if_neg hc1] at hm
      rw[if_neg (by omega)]
      by_cases hc2:m < j+y.cells.toList.length
      ·rw[if_pos hc2] at hm
       rw[if_pos (by omega)]
       rw[show off+(i*q.1.ty.cells+m) - (off+(i*q.1.ty.cells+j))=m - j by omega]
       exact hm
      ·rw[if_neg hc2] at hm
       rw[if_neg (by omega)]
       have:=hat m u hm
       rw[←htk',List.getElem?_take,if_pos (by omega),List.getElem?_drop] at this
       exact this
    ·rw[List.getElem?_set_ne hii] at hx'
     obtain ⟨cs',Bi',j1,h6,h7⟩:=hel0 i' x' hx'
     refine ⟨cs',Bi',j1,h6.keep hk2 fun b hb=>hsame b (hflat b (List.mem_flatten.2 ⟨Bi',List.mem_of_getElem? j1,hb⟩)),fun m u hm=>?_⟩
     have hmlt:m < q.1.ty.cells:=by have:=(List.getElem?_eq_some_iff.1 hm).1;have h5:=h6.length;rw[h5] at this;exact this
     have h8:=h7 m u hm
     rw[←htk',List.getElem?_take,if_pos (by omega),List.getElem?_drop] at h8
     rw[List.getElem?_take,if_pos (by omega),List.getElem?_drop,Zay hsl]
     by_cases hlt2:i' < i
     ·have:i'*q.1.ty.cells+q.1.ty.cells≤i*q.1.ty.cells:=by rw[←Nat.succ_mul];exact Nat.mul_le_mul_right _ hlt2
      rw[if_pos (by omega)]
      exact h8
     ·have:i*q.1.ty.cells+q.1.ty.cells≤i'*q.1.ty.cells:=by rw[←Nat.succ_mul];exact Nat.mul_le_mul_right _ (by omega)
      have hy2:y.cells.toList.length=z:=by simp[hyl]
      rw[if_neg (by omega),if_neg (by omega)]
      exact h8
  obtain ⟨_,l3,e1,e2,e3⟩:=ZpU hk2 hrow hnd (fun b _ hb=>hsame b hb) hpa hq key
  rw[he] at e1
  cases e1
  have hset:=R.set hR1 (w':=w.setRow g (cur.toList.take (off+(i*q.1.ty.cells+j))++y.cells.toList++cur.toList.drop (off+(i*q.1.ty.cells+j)+y.cells.toList.length)).toArray) (id:=id) (ver':=ver) (o':=.deep E d l2) (h':=ρ id)
   rfl rfl rfl (by simp) (.inl ⟨_,hf,rfl,rfl,rfl,e3⟩)
   (fun k hk hne=>setRow_other _ _ _ _ (fun e=>hne ver _ hf rfl (by rw[e];exact hgB)))
   (fun _ b2 hb2=>by
    obtain ⟨s1,s2,s3,_⟩:=hR1.sep id ver _ b2 hf rfl hb2
    exact ⟨s1,s2,by simpa using s3,.inr ⟨_,_,hf,rfl,hb2⟩⟩)
   (fun _ _ _ e=>by cases e) ⟨hnd,e2⟩
  obtain ⟨hR',hE⟩:=hset
  exact ⟨by rw[ZX];exact hdef,F1,_,R.put (a:=a) hR' (.top _) o.dst,hE1.trans hE⟩
end
end Go.Ev
end

section
namespace Go.Ev
variable [Tabs] [Orgs]
open Go
section
variable {P:Program} {Mod:Nat→Prop} {o:Oper} {st:St} {F:Nat→Prop} {ρ:Rho} {w:World}
theorem Zxp {cl:Cl} {T:TypeId} {x v:Operand} (h:o.op=.store T x v):Sat (opA P cl o st) (OpOK P Mod o st):=by
 simp only[opA,h]
 split
 ·rename_i vs z hvs hz
  refine Sat.cond (fun hc=>?_) fun _=>Sat.fail
  rw[Bool.and_eq_true] at hc
  obtain ⟨hl,hone⟩:=hc
  have hl:=Nat.eq_of_beq_eq_true hl
  split
  ·rename_i id ver off hx
   split
   ·rename_i T' cs ho
    exact Sat.cond (fun hle=>Sat.pure (ZtX h hvs hz hl hone hx ho (Nat.le_of_ble_eq_true hle))) fun _=>Sat.fail
   ·exact Sat.fail
  ·rename_i id ver i j hx
   split
   ·exact Sat.fail
   ·rename_i vs' is hd
    split
    ·rename_i E t l ho
     refine Sat.cond (fun hle=>?_) fun _=>Sat.fail
     rw[Bool.and_eq_true] at hle
     split
     ·rename_i e he
      exact Sat.pure (Zst h hvs hz hl hone hx hd ho (Nat.le_of_ble_eq_true hle.1) he)
     ·exact Sat.fail
    ·exact Sat.fail
  ·rename_i id ver p i j hx
   split
   ·exact Sat.fail
   ·rename_i vs' is hd
    split
    ·rename_i E d l ho
     split
     ·rename_i q hq
      refine Sat.cond (fun hle=>?_) fun _=>Sat.fail
      rw[Bool.and_eq_true] at hle
      split
      ·rename_i l2 he
       exact Sat.pure (Zrd h hvs hz hl hone hx hd ho hq (Nat.le_of_ble_eq_true hle.1) he)
      ·exact Sat.fail
     ·exact Sat.fail
    ·exact Sat.fail
  ·exact Sat.fail
 ·exact Sat.fail
theorem Zry {x:AV} {v:Value} (hl:live st x=true) (h:ARep F ρ w st x v):∃ad,v=.pointer (some ad)∧∀off,ARep F ρ w st (addA off x) (.pointer (some (ad.add off))):=by
 unfold live at hl
 split at hl
 ·rename_i id ver off
  split at hl
  ·rename_i T cs ho
   cases h with
   | pt _ _ _ _ hb h1 hp=>
    obtain ⟨b,hρ,rfl⟩:=hp _ ho
    refine ⟨_,rfl,fun n=>.pt _ _ _ _ hb rfl fun o' ho'=>⟨b,hρ,?_⟩⟩
    congr 2
    unfold Addr.add
    split <;> simp_all
  ·cases hl
 ·rename_i id ver i j
  split at hl
  ·rename_i E t l lk ho
   cases h with
   | pe _ _ _ _ _ hb h1 hp=>
    obtain ⟨ad,n,c,hρ,rfl,hi⟩:=hp E t l lk ho
    refine ⟨_,rfl,fun m=>.pe _ _ _ _ _ hb rfl fun E' t' l' lk' ho'=>?_⟩
    rw[ho] at ho'
    cases ho'
    exact ⟨ad,n,c,hρ,by rw[Addr.add_add,Nat.add_assoc],hi⟩
  ·cases hl
 ·rename_i id ver p i j
  split at hl
  ·rename_i E d l ho
   cases h with
   | da _ _ _ _ _ _ hb h1 hp=>
    obtain ⟨hpa,q,hq,hi,ad,n,c,hg,rfl⟩:=hp E d l ho
    refine ⟨_,rfl,fun m=>.da _ _ _ _ _ _ hb rfl fun E' d' l' ho'=>?_⟩
    rw[ho] at ho'
    cases ho'
    exact ⟨hpa,q,hq,hi,ad,n,c,hg,by rw[Addr.add_add,Nat.add_assoc]⟩
  ·cases hl
 ·cases h with
  | rp _ _ _ ad cs hl hF hc=>exact ⟨_,rfl,fun m=>by rw[Addr.add_add];exact .rp _ _ _ ad cs hl hF hc⟩
 ·cases hl
theorem Zun {cl:Cl} {x:Operand} (h:o.op=.nilCheck x):Sat (opA P cl o st) (OpOK P Mod o st):=by
 simp only[opA,h]
 refine Sat.cond (fun hl=>Sat.pure (ZG fun F ρ w a hR=>⟨a.eval x,?_,Zt hR x⟩)) fun _=>Sat.fail
 obtain ⟨ad,e,_⟩:=Zry hl (Zt hR x)
 simp[execOp,h,e]
theorem Zod {S:TypeId} {j off z:Nat} {ad:Addr} (h:fieldOff P S j=some (off,z)):(Instr.fieldAt S (.pointer (some ad)) j).run P w=.ok (.pointer (some (ad.add off))) w:=by
 unfold fieldOff at h
 split at h
 ·rename_i fs hu
  cases hf:fs[j]? with
  | none=>simp[hf] at h
  | some f=>
   simp only[hf,Option.bind_some] at h
   cases hs:szOf P f.type with
   | none=>simp[hs] at h
   | some z'=>
    simp only[hs,Option.bind_some] at h
    split at h
    ·cases h
    ·rename_i hz
     simp only[Option.some.injEq,Prod.mk.injEq] at h
     obtain ⟨rfl,rfl⟩:=h
     have hsz:=ZP (P:=P) (w:=w) hs
     simp only[Instr.fieldAt,Sem.run_bind,run_underlying hu,Result.andThen_ok,hf,Instr.sureAddr,Sem.run_pure,fieldPlace,hsz]
     simp[hz]
 ·cases h
theorem Ztc {cl:Cl} {S:TypeId} {x:Operand} {j:Nat} (h:o.op=.fieldAddr S x j):Sat (opA P cl o st) (OpOK P Mod o st):=by
 simp only[opA,h]
 split
 ·exact Sat.fail
 ·rename_i off z hf
  refine Sat.cond (fun hl=>Sat.pure (ZG fun F ρ w a hR=>?_)) fun _=>Sat.fail
  obtain ⟨ad,e,hA⟩:=Zry hl (Zt hR x)
  exact ⟨_,by simp[execOp,h,e,Zod hf],hA off⟩
theorem Zj6 {t:TypeId} {cs:List AV} {off:Nat} {y:AV} (h:partA P t cs off=some y) {us:Array Value} (hc:CsRep F ρ w st cs us.toList):
  ∃v,(Go.part t us off).run P w=.ok v w∧ARep F ρ w st y v:=by
 unfold partA at h
 cases hg:Go.Ev.isAgg P t with
 | none=>simp[hg] at h
 | some g=>
  simp only[hg,Option.bind_some] at h
  cases g with
  | true=>
   simp only[if_true] at h
   cases hz:szOf P t with
   | none=>simp[hz] at h
   | some z=>
    simp only[hz,Option.bind_some] at h
    split at h
    ·rename_i hle
     cases h
     refine ⟨.agg (us.extract off (off+z)),?_,.ag _ _ ?_ fun i c v h1 h2=>?_⟩
     ·simp[Go.part,Zg1 hg,ZP hz]
     ·have:=hc.1;simp at this ⊢;omega
     ·have hd:=(hc.drop off).take z
      refine hd.2 i c v h1 ?_
      have h3:(us.extract off (off+z)).toList[i]? =some v:=by rw[Array.getElem?_toList];exact h2
      rw[Array.toList_extract,List.extract_eq_take_drop,show off+z - off=z by omega] at h3
      exact h3
    ·cases h
  | false=>
   simp only[Bool.false_eq_true,if_false] at h
   have hlt:off < us.size:=by have:=hc.1;have:=(List.getElem?_eq_some_iff.1 h).1;simp at*;omega
   exact ⟨us[off],by simp[Go.part,Zg1 hg,hlt],hc.2 off y _ h (by simp[hlt])⟩
theorem Zws {cs:List AV} {v:Value} (h:ARep F ρ w st (.ag cs) v):∃us:Array Value,v=.agg us∧CsRep F ρ w st cs us.toList:=by
 cases h with
 | ag _ vs hl hall=>exact ⟨vs,rfl,by simpa using hl,fun i c v h1 h2=>hall i c v h1 (by simpa using h2)⟩
theorem Zxg {cl:Cl} {T:TypeId} {x:Operand} {j:Nat} (h:o.op=.field T x j):Sat (opA P cl o st) (OpOK P Mod o st):=by
 simp only[opA,h]
 split
 ·rename_i fs cs hu hx
  split
  ·rename_i f hf
   split
   ·rename_i y hy
    refine Sat.pure (ZG fun F ρ w a hR=>?_)
    have h1:=Zt hR x
    rw[hx] at h1
    obtain ⟨us,e,hc⟩:=Zws h1
    obtain ⟨v,hv,hA⟩:=Zj6 (P:=P) hy hc
    exact ⟨v,by simp[execOp,h,e,Instr.field,run_underlying hu,hf,asAgg,hv],hA⟩
   ·exact Sat.fail
  ·exact Sat.fail
 ·exact Sat.fail
theorem Sat.bound {i n:Int} :Sat (boundI i n) (fun m=>0≤i∧i < n∧m=i.toNat):=by
 unfold boundI
 refine Sat.cond' (fun hb=>Sat.pure ?_) fun _=>fun _ _ e=>by cases e
 simp at hb
 exact ⟨hb.1,hb.2,rfl⟩
theorem Sat.caseNat {i:Int} :∀ {n:Nat},Sat (caseNat i n) (fun m=>m < n∧i=(m:Int))
 | 0=>Sat.fail
 | n+1=>by
  unfold Go.Ev.caseNat
  refine Sat.cond' (fun hb=>Sat.pure ⟨Nat.lt_succ_self _,by simpa using hb⟩) fun _=>(Sat.caseNat (n:=n)).mono fun m hm=>⟨by omega,hm.2⟩
theorem ZtD {cl:Cl} {T:TypeId} {x i:Operand} (h:o.op=.indexAddr T x i):Sat (opA P cl o st) (OpOK P Mod o st):=by
 simp only[opA,h]
 refine Sat.bind Sat.toI fun p hp=>?_
 obtain ⟨k,n⟩:=p
 simp only at hp ⊢
 split
 ·rename_i e t l hu hx
  split
  ·rename_i z hz
   refine Sat.cond (fun hb=>?_) fun _=>Sat.fail
   have hb:=Nat.eq_of_beq_eq_true hb
   refine Sat.bind Sat.bound fun m hm=>?_
   obtain ⟨h0,hlt,rfl⟩:=hm
   refine Sat.pure (ZG fun F ρ w a hR=>?_)
   have h1:=Zt hR x
   have h2:=Zt hR i
   rw[hx] at h1
   rw[hp] at h2
   have hi:=Zaq h2
   generalize ha:a.eval x=u at h1
   cases h1 with
   | d _ _ _ hl=>
    obtain ⟨A,c,e1,hle,hall⟩:=hl
    simp only[List.cons.injEq,and_true] at e1
    subst e1
    have hlt':n.toNat < l.length:=by omega
    obtain ⟨ad,cs,rfl,hF,hcs,hat⟩:=hall n.toNat l[n.toNat] (by simp[hlt'])
    refine ⟨.pointer (some (ad.add (n.toNat*z))),?_,?_⟩
    ·simp[execOp,h,ha,hi,Instr.indexAt,asIntOf,run_underlying hu,h0,hlt,ZP hz]
    ·have:=ARep.rp (F:=F) (ρ:=ρ) (w:=w) (st:=st) t (l.getD n.toNat (dflt t)) 0 (ad.add (n.toNat*t.cells)) cs (by simpa[List.getD,List.getElem?_eq_getElem hlt'] using hcs) (by rw[Addr.add_block];exact hF) hat
     rw[Addr.add_add,Nat.add_zero,←hb] at this
     exact this
  ·exact Sat.fail
 ·rename_i e id ver pre hu hx
  split
  ·rename_i E t l lk z ho hz
   refine Sat.cond (fun hb=>?_) fun _=>Sat.fail
   have hb:=Nat.eq_of_beq_eq_true hb
   refine Sat.bind Sat.bound fun m hm=>?_
   obtain ⟨h0,hlt,rfl⟩:=hm
   refine Sat.pure (ZG fun F ρ w a hR=>?_)
   have h1:=Zt hR x
   have h2:=Zt hR i
   rw[hx] at h1
   rw[hp] at h2
   have hi:=Zaq h2
   generalize ha:a.eval x=u at h1
   cases h1 with
   | own _ _ _ _ hbn h1 hpp=>
    obtain ⟨hpre,A,c,hρ,rfl⟩:=hpp E t l lk ho
    have hlen:n < (((pre.getD l.length:Nat)):Int):=by rw[←Zrr];exact hlt
    have hltl:n.toNat < l.length:=by
     cases pre with
     | none=>simp at hlen;omega
     | some q=>have:=hpre q rfl;simp at hlen;omega
    have hrow:RowRep F w E t l (ρ id):=hR.obs id ver _ (Zw.1 ho)
    obtain ⟨cells,hown,_⟩:=hrow
    have hA:∃ad,A=some ad:=by
     rcases hown.2 with ⟨h3,h4⟩ | ⟨g,off,cap,cur,h3,_⟩
     ·omega
     ·rw[hρ] at h3;cases h3;exact ⟨_,rfl⟩
    obtain ⟨ad,rfl⟩:=hA
    refine ⟨.pointer (some (ad.add (n.toNat*z))),?_,?_⟩
    ·simp[execOp,h,ha,hi,Instr.indexAt,asIntOf,run_underlying hu,h0,hlen,ZP hz]
    ·refine .pe _ _ _ _ _ hbn rfl fun E' t' l' lk' ho'=>?_
     rw[ho] at ho'
     cases ho'
     exact ⟨ad,_,c,hρ,by rw[Nat.add_zero,hb],hltl⟩
  ·exact Sat.fail
 ·rename_i e id ver p hu hx
  split
  ·rename_i E d l z ho hz
   split
   ·rename_i q hq
    refine Sat.cond (fun hb=>?_) fun _=>Sat.fail
    have hb:=Nat.eq_of_beq_eq_true hb
    refine Sat.bind Sat.bound fun m hm=>?_
    obtain ⟨h0,hlt,rfl⟩:=hm
    refine Sat.pure (ZG fun F ρ w a hR=>?_)
    have h1:=Zt hR x
    have h2:=Zt hR i
    rw[hx] at h1
    rw[hp] at h2
    have hi:=Zaq h2
    generalize ha:a.eval x=u at h1
    cases h1 with
    | dn _ _ _ _ hbn h1 hpp=>
     obtain ⟨hpa,rfl⟩:=hpp E d l ho
     obtain ⟨hnd,hrow⟩:=hR.obs id ver _ (Zw.1 ho)
     obtain ⟨q2,Eq,Bq,a1,a2,a3⟩:=Zek hrow hpa
     rw[hq] at a1
     cases a1
     obtain ⟨cells,Bs,hown,hbl,hB,hel⟩:=a2
     have hltl:n.toNat < q.2.length:=by omega
     rcases hown.2 with ⟨h3,h4⟩ | ⟨g,off,cap,cur,h3,_⟩
     ·omega
     ·rw[h3] at ha h1
      refine ⟨.pointer (some ((⟨g,off,none⟩:Addr).add (n.toNat*z))),?_,?_⟩
      ·simp[execOp,h,ha,hi,Instr.indexAt,asIntOf,run_underlying hu,h0,hlt,ZP hz]
      ·refine .da _ _ _ _ _ _ hbn rfl fun E' d' l' ho'=>?_
       rw[ho] at ho'
       cases ho'
       exact ⟨hpa,q,hq,hltl,_,_,cap,h3,by rw[Nat.add_zero,hb]⟩
   ·exact Sat.fail
  ·exact Sat.fail
 ·rename_i _ _ m e hu
  refine Sat.cond (fun hb=>?_) fun _=>Sat.fail
  rw[Bool.and_eq_true] at hb
  split
  ·rename_i z hz
   refine Sat.bind Sat.caseNat fun q hq=>Sat.pure (ZG fun F ρ w a hR=>?_)
   have h2:=Zt hR i
   rw[hp] at h2
   have hi:=Zaq h2
   obtain ⟨ad,e1,hA⟩:=Zry hb.1 (Zt hR x)
   have hm:=Nat.le_of_ble_eq_true hb.2
   refine ⟨.pointer (some (ad.add (q*z))),?_,hA _⟩
   have h3:(0:Int)≤n:=by rw[hq.2];omega
   have h4:n < (m:Int):=by rw[hq.2];omega
   simp[execOp,h,e1,hi,Instr.indexAt,asIntOf,run_underlying hu,Instr.sureAddr,ZP hz,hq.2,hq.1]
  ·exact Sat.fail
 ·exact Sat.fail
end
end Go.Ev
end

section
namespace Go.Ev
variable [Tabs] [Orgs]
open Go
section
variable {P:Program} {Mod:Nat→Prop} {o:Oper} {st:St} {F:Nat→Prop} {ρ:Rho} {w:World}
theorem Zw2 (s:ByteArray) {i:Nat} (h:i < s.size):s[i]? =some (s.get! i):=by
 obtain ⟨d⟩:=s
 have h':i < d.size:=h
 rw[getElem?_pos _ i h]
 congr 1
 show d[i]=d[i]!
 rw[getElem!_pos d i h']
theorem ZxP {cl:Cl} {T:TypeId} {x i:Operand} (h:o.op=.index T x i):Sat (opA P cl o st) (OpOK P Mod o st):=by
 simp only[opA,h]
 refine Sat.bind Sat.toI fun p hp=>?_
 obtain ⟨k,n⟩:=p
 simp only at hp ⊢
 split
 ·rename_i s hu hx
  refine Sat.bind Sat.bound fun m hm=>?_
  obtain ⟨h0,hlt,rfl⟩:=hm
  refine Sat.pure (ZG fun F ρ w a hR=>?_)
  have h1:=Zt hR x
  have h2:=Zt hR i
  rw[hx] at h1
  rw[hp] at h2
  have hl:n.toNat < s.size:=by omega
  refine ⟨.int .u8 ((s.get! n.toNat).toNat:Int),?_,.d _ _ _ rfl⟩
  simp only[execOp,h,Zgz h1,Zaq h2,Instr.index,asIntOf,Sem.run_bind,Sem.run_pure,Result.andThen_ok,run_underlying hu,h0,if_true,Zw2 s hl]
 ·rename_i m e cs hu hx
  split
  ·rename_i z hz
   refine Sat.bind Sat.caseNat fun q hq=>?_
   split
   ·rename_i y hy
    refine Sat.pure (ZG fun F ρ w a hR=>?_)
    have h1:=Zt hR x
    have h2:=Zt hR i
    rw[hx] at h1
    rw[hp] at h2
    obtain ⟨us,e1,hc⟩:=Zws h1
    obtain ⟨v,hv,hA⟩:=Zj6 (P:=P) hy hc
    refine ⟨v,?_,hA⟩
    obtain ⟨hq1,rfl⟩:=hq
    simp[execOp,h,e1,Zaq h2,Instr.index,asIntOf,run_underlying hu,ZP hz,hq1,hv]
   ·exact Sat.fail
  ·exact Sat.fail
 ·exact Sat.fail
theorem ZsR (off:Nat):∀(l:List Value) (k:Nat) (cs:Array Value),off+k+l.length≤cs.size→
  (l.zipIdx k).foldl (fun (cs:Array Value) (p:Value×Nat)=>cs.setIfInBounds (off+p.2) p.1) cs=(cs.toList.take (off+k)++(l++cs.toList.drop (off+k+l.length))).toArray
 | [],k,cs,h=>by
  simp only[List.zipIdx_nil,List.foldl_nil,List.nil_append,List.length_nil,Nat.add_zero,List.take_append_drop,Array.toArray_toList]
 | v :: l,k,cs,h=>by
  simp only[List.length_cons] at h
  rw[List.zipIdx_cons,List.foldl_cons,ZsR off l (k+1) _ (by simp;omega)]
  congr 1
  apply List.ext_getElem?
  intro i
  simp only[Array.toList_setIfInBounds,List.length_cons,←List.append_assoc]
  have e1:=Zay (cur:=cs.toList.set (off+k) v) (ns:=l) (off:=off+(k+1)) (m:=i) (by simp;omega)
  have e2:=Zay (cur:=cs.toList) (ns:=v :: l) (off:=off+k) (m:=i) (by simp;omega)
  simp only[List.length_cons] at e2
  rw[e1,e2]
  by_cases h1:i < off+k
  ·rw[if_pos (by omega),if_pos h1,List.getElem?_set_ne (by omega)]
  ·rw[if_neg h1]
   by_cases h2:i=off+k
   ·subst h2
    rw[if_pos (by omega),if_pos (by omega),List.getElem?_set_self (by simp;omega),Nat.sub_self,List.getElem?_cons_zero]
   ·rw[if_neg (by omega)]
    by_cases h3:i < off+(k+1)+l.length
    ·rw[if_pos h3,if_pos (by omega),show i - (off+k)=(i - (off+(k+1)))+1 by omega,List.getElem?_cons_succ]
    ·rw[if_neg h3,if_neg (by omega),List.getElem?_set_ne (by omega)]
theorem Zlv {place:Nat→Option (Nat×Nat)} :∀ {ps:List (Nat×AV)} {qs:List (Nat×Value)} {cs cs':List AV} {us:Array Value},fillA place cs ps=some cs'→CsRep F ρ w st cs us.toList→
  ps.length=qs.length→(∀(i:Nat) p q,ps[i]? =some p→qs[i]? =some q→p.1=q.1∧ARep F ρ w st p.2 q.2)→∃us',Instr.fill place us qs=some us'∧CsRep F ρ w st cs' us'.toList
 | [],[],cs,cs',us,hf,hc,_,_=>by
  simp only[fillA] at hf
  cases hf
  exact ⟨us,by simp[Instr.fill],hc⟩
 | (i,x) :: ps,(j,v) :: qs,cs,cs',us,hf,hc,hl,hall=>by
  obtain ⟨hij,hxv⟩:=hall 0 _ _ rfl rfl
  simp only at hij hxv
  subst hij
  simp only[fillA] at hf
  cases hp:place i with
  | none=>simp[hp] at hf
  | some pl=>
   obtain ⟨off,size⟩:=pl
   cases hcs:x.cells with
   | none=>simp[hp,hcs] at hf
   | some vs=>
    simp only[hp,hcs,Option.bind_some] at hf
    split at hf
    ·cases hf
    ·rename_i hno
     simp only[Bool.or_eq_true,decide_eq_true_eq,not_or,Decidable.not_not,Nat.not_lt] at hno
     have hv:=ZgY hcs hxv
     have hvl:v.cells.size=vs.length:=by rw[hv.1,Array.length_toList]
     have hul:us.size=cs.length:=by have:=hc.1;simpa using this.symm
     have hfold:v.cells.zipIdx.foldl (fun (cs:Array Value) (p:Value×Nat)=>cs.setIfInBounds (off+p.2) p.1) us=(us.toList.take off++(v.cells.toList++us.toList.drop (off+v.cells.toList.length))).toArray:=by
      have:=ZsR off v.cells.toList 0 us (by simp[hvl,hul];omega)
      simp only[Nat.add_zero] at this
      rw[←this,←Array.foldl_toList,Array.toList_zipIdx]
     obtain ⟨us',h1,h2⟩:=Zlv (us:=(us.toList.take off++(v.cells.toList++us.toList.drop (off+v.cells.toList.length))).toArray) (qs:=qs) hf (hc.setRange hv) (by simpa using hl) (fun n p q a b=>hall (n+1) p q a b)
     refine ⟨us',?_,h2⟩
     rw[Instr.fill]
     simp only[hp]
     rw[if_neg (by
      simp only[Bool.or_eq_true,decide_eq_true_eq,not_or,Decidable.not_not,Nat.not_lt]
      exact ⟨by rw[hvl];exact hno.1,by rw[hvl,hul];exact hno.2⟩)]
     rw[←h1]
     congr 1
theorem Zvi {α β:Type} {f:α→Sem β} {g:α→β} :∀(l:List α),(∀x∈l,(f x).run P w=.ok (g x) w)→(l.mapM f).run P w=.ok (l.map g) w
 | [],_=>by simp
 | x :: l,h=>by
  rw[List.mapM_cons,Sem.run_bind,h x (by simp)]
  simp only[Result.andThen_ok]
  rw[Sem.run_bind,Zvi l (fun y hy=>h y (by simp[hy]))]
  simp
theorem ZlM {a:Act} (hR:R Mod F ρ w st a.tmps) (parts:Array (Nat×Operand)):∀(i:Nat) p q,(parts.toList.map fun p=>(p.1,st.ev p.2))[i]? =some p→((parts.map fun (i,x)=>(i,a.eval x)).toList)[i]? =some q→p.1=q.1∧ARep F ρ w st p.2 q.2:=by
 intro i p q h1 h2
 simp only[List.getElem?_map,Array.toList_map] at h1 h2
 cases h:parts.toList[i]? with
 | none=>simp[h] at h1
 | some z=>
  simp only[h,Option.map_some,Option.some.injEq] at h1 h2
  subst h1
  subst h2
  exact ⟨rfl,Zt hR _⟩
theorem Zxy {cl:Cl} {T:TypeId} {parts:Array (Nat×Operand)} (h:o.op=.build T parts):Sat (opA P cl o st) (OpOK P Mod o st):=by
 simp only[opA,h]
 split
 ·rename_i z fs hz hu
  unfold zeroAV at hz
  cases hzz:(P.info? T).bind (·.zero) with
  | none=>rw[hzz] at hz;cases hz
  | some zv=>
   rw[hzz] at hz
   cases hz
   refine Sat.cond (fun _=>Sat.fail) fun hall=>?_
   split
   ·rename_i y hy
    cases hfl:fillA (fun i=>(fs[i]?).bind fun f=>(szOf P f.type).map fun s=>(f.offset,s)) (zv.cells.toList.map ofVal) (parts.toList.map fun p=>(p.1,st.ev p.2)) with
    | none=>rw[hfl] at hy;cases hy
    | some cs=>
     rw[hfl] at hy
     cases hy
     refine Sat.pure (ZG fun F ρ w a hR=>?_)
     obtain ⟨us,h1,h2⟩:=Zlv (us:=zv.cells) (qs:=(parts.map fun (i,x)=>(i,a.eval x)).toList) hfl (CsRep.ofVals _) (by simp) (ZlM hR parts)
     refine ⟨.agg us,?_,.ag _ _ (by simpa using h2.1) fun i c v a b=>h2.2 i c v a (by simpa using b)⟩
     have hm:(fs.mapM fun f=>(do pure (f.offset,←Go.sizeOf f.type):Sem (Nat×Nat))).run P w=.ok (fs.map fun f=>(f.offset,(szOf P f.type).getD 0)) w:=by
      rw[Array.mapM_eq_mapM_toList]
      have:=Zvi (P:=P) (w:=w) (f:=fun f:Field=>(do pure (f.offset,←Go.sizeOf f.type):Sem (Nat×Nat))) (g:=fun f=>(f.offset,(szOf P f.type).getD 0)) fs.toList (fun f hf=>by
       have hs:(szOf P f.type).isSome=true:=by
        have h3:(fs.all fun f=>(szOf P f.type).isSome)=true:=by simpa using hall
        rw[Array.all_eq_true'] at h3
        exact h3 f (by simpa using hf)
       obtain ⟨s,hs⟩:=Option.isSome_iff_exists.1 hs
       simp[ZP hs,hs])
      rw[map_eq_pure_bind,Sem.run_bind,this]
      show Result.ok (List.toArray (fs.toList.map _)) w=_
      congr 1
      apply Array.ext'
      simp
     have h1':Instr.fill ((fs.map fun f=>(f.offset,(szOf P f.type).getD 0))[·]?) zv.cells (parts.map fun (i,x)=>(i,a.eval x)).toList=some us:=by
      rw[←h1]
      congr 1
      funext i
      simp only[Array.getElem?_map]
      cases hfi:fs[i]? with
      | none=>rfl
      | some f=>
       have h3:(fs.all fun f=>(szOf P f.type).isSome)=true:=by simpa using hall
       rw[Array.all_eq_true'] at h3
       obtain ⟨s,hs⟩:=Option.isSome_iff_exists.1 (h3 f (Array.mem_of_getElem? hfi))
       simp[hs]
     simp only[execOp,h,Instr.build,Sem.run_bind,Zhz hzz,Result.andThen_ok,run_underlying hu,hm,h1']
     rfl
   ·exact Sat.fail
 ·rename_i z m e hz hu
  unfold zeroAV at hz
  cases hzz:(P.info? T).bind (·.zero) with
  | none=>rw[hzz] at hz;cases hz
  | some zv=>
   rw[hzz] at hz
   cases hz
   split
   ·rename_i sz hs
    split
    ·rename_i y hy
     cases hfl:fillA (fun i=>some (i*sz,sz)) (zv.cells.toList.map ofVal) (parts.toList.map fun p=>(p.1,st.ev p.2)) with
     | none=>rw[hfl] at hy;cases hy
     | some cs=>
      rw[hfl] at hy
      cases hy
      refine Sat.pure (ZG fun F ρ w a hR=>?_)
      obtain ⟨us,h1,h2⟩:=Zlv (us:=zv.cells) (qs:=(parts.map fun (i,x)=>(i,a.eval x)).toList) hfl (CsRep.ofVals _) (by simp) (ZlM hR parts)
      refine ⟨.agg us,?_,.ag _ _ (by simpa using h2.1) fun i c v a b=>h2.2 i c v a (by simpa using b)⟩
      simp only[execOp,h,Instr.build,Sem.run_bind,Zhz hzz,Result.andThen_ok,run_underlying hu,ZP hs,h1]
      rfl
    ·exact Sat.fail
   ·exact Sat.fail
 ·exact Sat.fail
end
end Go.Ev
end

section
namespace Go.Ev
variable [Tabs] [Orgs]
open Go
section
variable {P:Program} {Mod:Nat→Prop} {o:Oper} {st:St} {F:Nat→Prop} {ρ:Rho} {w:World}
theorem LRep.ones:∀ {t:Ty} {x:El t} {vs:List Value},LRep F w t x vs→∀v∈vs,v.oneCell'=true
 |.int _,_,_,h=>by simp only[LRep] at h;subst h;simp[Value.oneCell']
 |.bool,_,_,h=>by simp only[LRep] at h;subst h;simp[Value.oneCell']
 |.str,_,_,h=>by simp only[LRep] at h;subst h;simp[Value.oneCell']
 |.sl _,_,_,h=>by simp only[LRep] at h;obtain ⟨A,c,rfl,_⟩:=h;simp[Value.oneCell']
 |.pr a b,_,_,h=>by
  simp only[LRep] at h
  obtain ⟨v1,v2,rfl,h1,h2⟩:=h
  intro v hv
  rcases List.mem_append.1 hv with hv | hv
  ·exact h1.ones v hv
  ·exact h2.ones v hv
 |.un,_,_,h=>by simp only[LRep] at h;subst h;simp
theorem Zs1 {t:Ty} :∀(l:List (El t)) (ad:Addr),(∀(i:Nat) x,l[i]? =some x→∃cs,LRep F w t x cs∧cellsAt w (ad.add (i*t.cells)) cs)→
  ∃news:List Value,news.length=l.length*t.cells∧cellsAt w ad news∧(∀v∈news,v.oneCell'=true)∧∀(i:Nat) x,l[i]? =some x→∃cs,LRep F w t x cs∧∀j u,cs[j]? =some u→news[i*t.cells+j]? =some u
 | [],ad,_=>⟨[],by simp,fun j v h=>by simp at h,by simp,fun i x h=>by simp at h⟩
 | x :: l,ad,h=>by
  obtain ⟨cs,h1,h2⟩:=h 0 x rfl
  have e0:ad.add (0*t.cells)=ad:=by simp[Addr.add]
  rw[e0] at h2
  obtain ⟨news,n1,n2,n3,n4⟩:=Zs1 l (ad.add t.cells) fun i y hy=>by
   obtain ⟨cs',a1,a2⟩:=h (i+1) y (by simpa using hy)
   refine ⟨cs',a1,?_⟩
   rw[Addr.add_add,show t.cells+i*t.cells=(i+1)*t.cells by rw[Nat.add_mul];omega]
   exact a2
  have hl:=h1.length
  refine ⟨cs++news,by simp[hl,n1,Nat.add_mul];omega,fun j v hv=>?_,fun v hv=>?_,fun i y hy=>?_⟩
  ·by_cases hj:j < cs.length
   ·rw[List.getElem?_append_left hj] at hv
    exact h2 j v hv
   ·rw[List.getElem?_append_right (by omega)] at hv
    have:=n2 _ v hv
    rw[Addr.add_add,show t.cells+(j - cs.length)=j by omega] at this
    exact this
  ·rcases List.mem_append.1 hv with hv | hv
   ·exact h1.ones v hv
   ·exact n3 v hv
  ·cases i with
   | zero=>
    simp at hy
    subst hy
    exact ⟨cs,h1,fun j u hu=>by rw[Nat.zero_mul,Nat.zero_add,List.getElem?_append_left (List.getElem?_eq_some_iff.1 hu).1];exact hu⟩
   | succ i=>
    obtain ⟨cs',a1,a2⟩:=n4 i y (by simpa using hy)
    refine ⟨cs',a1,fun j u hu=>?_⟩
    rw[List.getElem?_append_right (by rw[hl,Nat.add_mul];omega),show (i+1)*t.cells+j - cs.length=i*t.cells+j by rw[hl,Nat.add_mul];omega]
    exact a2 j u hu
theorem ZmJ {v:Value} {n size:Nat} {E:TypeId} {xs:List Value} (h:ownsAt w E size v n xs):hb v=v.ownBlock.toList:=by
 rcases h.2 with ⟨rfl,_⟩ | ⟨g,off,cap,cur,rfl,_⟩ <;> rfl
theorem Zld (T ty E:TypeId) {E0:TypeId} (i:TypeInfo) (ht:P.underlying T=some (.slice E)) (hi:P.info? E=some i)
  (g off sLen sCap:Nat) (cur:Array Value) (hg:w.heap[g]? =some (.cells cur E0 (0,0)))
  (a:Addr) (m c:Nat) (news:List Value) (hl:news.length=m*i.size) (hnews:∀j u,news[j]? =some u→w.cell? (a.add j)=some u) (h1:∀u∈news,u.oneCell'=true)
  (hroom:sLen+m≤sCap) (hfit:off+sLen*i.size+news.length≤cur.size):
  (Builtin.append_ #[T,T] ty #[.slice (some ⟨g,off,none⟩) sLen sCap,.slice (some a) m c]).run P w=
   .ok (.slice (some ⟨g,off,none⟩) (sLen+m) sCap) (w.setRow g (cur.toList.take (off+sLen*i.size)++news++cur.toList.drop (off+sLen*i.size+news.length)).toArray):=by
 have hf:=run_firstCells_some (P:=P) w i.size m a m c news hl hnews
 have hst:=run_storeCells_at P g (off+sLen*i.size) E0 news 0 cur w hg (by simpa using hfit) h1
 simp only[Nat.add_zero] at hst
 simp[Builtin.append_,run_underlying ht,Go.sizeOf,typeInfo,hi,Builtin.lenOf,hroom,hf,Addr.add_lit,hst]
structure Runs (P:Program) (w:World) (T Tx ty E:TypeId) (i:TypeInfo) (z:Value) (m:Nat) (u:Value) (news:List Value):Prop where
 zer:m=0→(Builtin.append_ #[T,Tx] ty #[.slice none 0 0,u]).run P w=.ok (.slice none 0 0) w
 same:m=0→∀g off n cap,n≤cap→(Builtin.append_ #[T,Tx] ty #[.slice (some ⟨g,off,none⟩) n cap,u]).run P w=.ok (.slice (some ⟨g,off,none⟩) n cap) w
 nil:0 < m→(m:Int)≤9223372036854775807→m*i.bytes≤281474976710656→(Builtin.append_ #[T,Tx] ty #[.slice none 0 0,u]).run P w=
  .ok (.slice (some ⟨w.heap.size,0,none⟩) m (grownCap w m 0 E)) (w.drew.alloc (.cells (news.toArray++Builtin.zeroCells z.cells (grownCap w m 0 E - m)) E))
 room:0 < m→∀(E0:TypeId) g off n cap (cur:Array Value),w.heap[g]? =some (.cells cur E0 (0,0))→n+m≤cap→off+n*i.size+news.length≤cur.size→(Builtin.append_ #[T,Tx] ty #[.slice (some ⟨g,off,none⟩) n cap,u]).run P w=
  .ok (.slice (some ⟨g,off,none⟩) (n+m) cap) (w.setRow g (cur.toList.take (off+n*i.size)++news++cur.toList.drop (off+n*i.size+news.length)).toArray)
 grow:0 < m→∀g off n cap (olds:List Value),olds.length=n*i.size→(∀j v,olds[j]? =some v→w.cell? ((⟨g,off,Option.none⟩:Addr).add j)=some v)→cap < n+m→((n+m:Nat):Int)≤9223372036854775807→
  Builtin.nextslicecap (n+m) cap*i.bytes≤281474976710656→(Builtin.append_ #[T,Tx] ty #[.slice (some ⟨g,off,none⟩) n cap,u]).run P w=
  .ok (.slice (some ⟨w.heap.size,0,none⟩) (n+m) (grownCap w (n+m) cap E)) (w.drew.alloc (.cells (olds.toArray++news.toArray++Builtin.zeroCells z.cells (grownCap w (n+m) cap E - (n+m))) E))
theorem Runs.ofSlice {T E ty:TypeId} {i:TypeInfo} {z:Value} (ht:P.underlying T=some (.slice E)) (hi:P.info? E=some i) (hz:i.zero=some z)
  {A:Option Addr} {m c:Nat} {news:List Value} (hl:news.length=m*i.size) (hA:∀ad,A=some ad→cellsAt w ad news) (hA0:A=none→m=0) (h1:∀u∈news,u.oneCell'=true):
  Runs P w T T ty E i z m (.slice A m c) news where
 zer:=fun hm=>by
  subst hm
  cases A <;> simp[Builtin.append_,run_underlying ht,Go.sizeOf,typeInfo,hi,Builtin.lenOf,Builtin.firstCells,loadCells,loadCellsFrom]
 same:=fun hm g off n cap hnc=>by
  subst hm
  cases A <;> simp[Builtin.append_,run_underlying ht,Go.sizeOf,typeInfo,hi,Builtin.lenOf,Builtin.firstCells,loadCells,loadCellsFrom,hnc,storeCells]
 nil:=fun hm h63 h48=>by
  cases A with
  | none=>have:=hA0 rfl;omega
  | some a=>exact run_append_nil (P:=P) w T ty E i z ht hi hz a m c news hl (hA a rfl) hm h63 h48
 room:=fun hm E0 g off n cap cur hg hroom hfit=>by
  cases A with
  | none=>have:=hA0 rfl;omega
  | some a=>exact Zld (P:=P) (w:=w) T ty E i ht hi g off n cap cur hg a m c news hl (hA a rfl) h1 hroom hfit
 grow:=fun hm g off n cap olds hlo holds hg h63 hfit=>by
  cases A with
  | none=>have:=hA0 rfl;omega
  | some a=>exact run_append_grow (P:=P) w T ty E i z ht hi hz ⟨g,off,Option.none⟩ n cap olds hlo holds a m c news hl (hA a rfl) hg h63 hfit
theorem Runs.ofZeros {T Tx E ty:TypeId} {k kn:IntKind} {i:TypeInfo} {z:Value} (ht:P.underlying T=some (.slice E)) (htx:P.underlying Tx=some (.int kn)) (hi:P.info? E=some i) (hz:i.zero=some z)
  (hs:0 < i.size) (hzs:z.cells.size=i.size) {m:Nat} (hm63:(m:Int)≤9223372036854775807) (hm48:m*i.bytes≤281474976710656) (h1:∀u∈z.cells.toList,u.oneCell'=true):
  Runs P w T Tx ty E i z m (.int k m) (Builtin.zeroCells z.cells m).toList:=by
 have hw:IntKind.i64.wrap (m:Int)=m:=by rw[IntKind.wrap_i64];omega
 have hneg:¬((m:Int) < 0):=by omega
 have h48i:¬(281474976710656 < (m:Int)*(i.bytes:Int)):=by
  rw[←Int.natCast_mul]
  omega
 refine ⟨fun h0=>?_,fun h0 g off n cap hnc=>?_,fun h0 h63 h48=>?_,fun h0 E0 g off n cap cur hg hroom hfit=>?_,fun h0 g off n cap olds hlo holds hg h63 hfit=>?_⟩
 ·subst h0
  have hw0:IntKind.i64.wrap 0=0:=by decide
  simp[Builtin.append_,run_underlying ht,run_underlying htx,Go.sizeOf,typeInfo,hi,asInt,asIntOf,hw0]
 ·subst h0
  have hw0:IntKind.i64.wrap 0=0:=by decide
  simp[Builtin.append_,run_underlying ht,run_underlying htx,Go.sizeOf,typeInfo,hi,asInt,asIntOf,hw0,hnc,storeCells]
 ·exact Lib.run_append_nil_zeros w T Tx ty E i z k kn ht htx hi hz m h0 hs h63 h48
 ·have hns:¬(m*i.size=0):=Nat.mul_ne_zero (by omega) (by omega)
  have hst:=run_storeCells_at P g (off+n*i.size) E0 (Builtin.zeroCells z.cells m).toList 0 cur w hg (by simpa using hfit) (fun u hu=>by
   simp only[Builtin.zeroCells,Array.toList_map,List.mem_map,Array.toList_range,List.mem_range] at hu
   obtain ⟨j,hj,rfl⟩:=hu
   have hlt:j % z.cells.size < z.cells.size:=Nat.mod_lt _ (by omega)
   rw[getElem!_pos z.cells _ hlt]
   exact h1 _ (by simp))
  simp only[Nat.add_zero] at hst
  simp[Builtin.append_,run_underlying ht,run_underlying htx,Go.sizeOf,typeInfo,zeroValue,hi,hz,asInt,asIntOf,hw,hneg,hns,h48i,hroom,Addr.add_lit,hst]
 ·have hfo:=run_firstCells_some (P:=P) w.drew i.size n ⟨g,off,Option.none⟩ n cap olds hlo (by simpa using holds)
  have:=Lib.run_append_grow_zeros w T Tx ty E i z k kn ht htx hi hz (some ⟨g,off,Option.none⟩) n cap olds hfo m h0 hs hg h63 hm48 hfit
  rw[this]
theorem Zqn {T Tx E ty:TypeId} {i:TypeInfo} {z:Value} {size:Nat} (hsize:i.size=size) (hzs:z.cells.size=size)
  {v:Value} {n:Nat} {xs:List Value} (hown:ownsAt w E size v n xs) {u:Value} {m:Nat} {news:List Value} (hl:news.length=m*size) (hR:Runs P w T Tx ty E i z m u news)
  (h63:n+m≤maxLen) (hbytes:(n+m)*i.bytes≤140737488355328):
  ∃v' w',(Builtin.append_ #[T,Tx] ty #[v,u]).run P w=.ok v' w'∧ownsAt w' E size v' (n+m) (xs++news)∧w.grownBy w' v.ownBlock∧(hb v'=hb v∨hb v'=[w.heap.size]):=by
 subst hsize
 have hsmall:n+m≤9223372036854775807:=by simp only[maxLen] at h63;omega
 have hlen:(xs++news).length=(n+m)*i.size:=by rw[List.length_append,hown.1,hl,Nat.add_mul]
 have same:w.grownBy w v.ownBlock:=⟨rfl,rfl,rfl,Nat.le_refl _,fun _ _ _=>rfl⟩
 by_cases hm:m=0
 ·subst hm
  have hn:news=[]:=List.eq_nil_of_length_eq_zero (by simpa using hl)
  subst hn
  rcases hown.2 with ⟨rfl,rfl⟩ | ⟨g,off,cap,cur,rfl,hg,hnc,rest⟩
  ·exact ⟨.slice none 0 0,w,hR.zer rfl,by simpa using hown,same,.inl rfl⟩
  ·exact ⟨_,w,hR.same rfl g off n cap hnc,by simpa using hown,same,.inl rfl⟩
 ·have hm0:0 < m:=Nat.pos_of_ne_zero hm
  have grown:∀(old:Nat),old < n+m→
    ownsAt (w.drew.alloc (.cells (xs.toArray++news.toArray++Builtin.zeroCells z.cells (grownCap w (n+m) old E - (n+m))) E)) E i.size
     (.slice (some ⟨w.heap.size,0,none⟩) (n+m) (grownCap w (n+m) old E)) (n+m) (xs++news):=by
   intro old ho
   have hge:=grownCap_ge w (n+m) old E
   have hcm:grownCap w (n+m) old E≤maxLen:=grownCap_le_maxLen w (n+m) old E h63
   refine ownsAt.of ⟨hlen,.inr ⟨w.heap.size,_,_,rfl,Nat.zero_le _,heap_alloc_new w.drew _,hge,hcm,?_,?_⟩⟩
   ·have hzc:(Builtin.zeroCells z.cells (grownCap w (n+m) old E - (n+m))).size=(grownCap w (n+m) old E - (n+m))*i.size:=by rw[size_zeroCells,hzs]
    have hx:=hown.1
    simp only[Array.size_append,List.size_toArray,hzc,hx,hl]
    rw[←Nat.add_mul,←Nat.add_mul]
    congr 1
    omega
   ·simp only[Array.toList_append,List.append_assoc]
    rw[←List.append_assoc,←hlen]
    exact List.take_left
  have gb:∀(ob:Go.Obj),w.grownBy (w.drew.alloc ob) v.ownBlock:=fun ob=>⟨rfl,rfl,rfl,by simp,fun k hk _=>Zcp w.drew ob hk⟩
  rcases hown.2 with ⟨rfl,rfl⟩ | ⟨g,off,cap,cur,rfl,hg,hnc,hcm,hcs,htake⟩
  ·have hx:xs=[]:=List.eq_nil_of_length_eq_zero (by simpa using hown.1)
   subst hx
   have hr:=hR.nil hm0 (by omega) (by have hb:=hbytes;simp only[Nat.zero_add] at hb;omega)
   have hgr:=grown 0 (by omega)
   simp only[Nat.zero_add,List.nil_append,Array.empty_append] at hgr ⊢
   exact ⟨_,_,hr,hgr,gb _,.inr rfl⟩
  ·by_cases hroom:n+m≤cap
   ·have hfit:off+n*i.size+news.length≤cur.size:=by
     have:n*i.size+m*i.size≤cap*i.size:=by rw[←Nat.add_mul];exact Nat.mul_le_mul_right _ hroom
     rw[hl];omega
    have hr:=hR.room hm0 E g off n cap cur hg hroom hfit
    refine ⟨_,_,hr,⟨hlen,.inr ⟨g,off,cap,_,rfl,setRow_heap w g cur _ E _ hg,hroom,hcm,?_,?_⟩⟩,⟨rfl,rfl,rfl,by simp,fun k _ hk=>setRow_other w g k _ (fun e=>hk (by simp[Value.ownBlock,e]))⟩,.inl rfl⟩
    ·simp only[List.size_toArray,List.length_append,List.length_take,List.length_drop,Array.length_toList]
     omega
    ·have htl:(cur.toList.take (off+n*i.size)).length=off+n*i.size:=by rw[List.length_take,Array.length_toList];omega
     have e:(cur.toList.take (off+n*i.size)++news++cur.toList.drop (off+n*i.size+news.length)).drop off=xs++news++cur.toList.drop (off+n*i.size+news.length):=by
      rw[List.append_assoc,List.drop_append_of_le_length (by omega),←List.append_assoc,List.drop_take,Nat.add_sub_cancel_left,htake]
     show List.take _ (List.drop off (cur.toList.take (off+n*i.size)++news++cur.toList.drop (off+n*i.size+news.length)).toArray.toList)=_
     rw[e,←hlen]
     exact List.take_left
   ·have holds:∀j u,xs[j]? =some u→w.cell? ((⟨g,off,none⟩:Addr).add j)=some u:=fun j u hu=>by rw[Z7];exact hown.cells hu
    have hr:=hR.grow hm0 g off n cap xs hown.1 holds (by omega) (by omega) (growslice_fits (by omega) hbytes)
    exact ⟨_,_,hr,grown cap (by omega),gb _,.inr rfl⟩
theorem Zu8 {T Tx E E0 ty:TypeId} {i:TypeInfo} {z:Value} {size:Nat} (hsize:i.size=size) (hzs:z.cells.size=size)
  {v:Value} {n:Nat} {xs:List Value} (hown:ownsAt w E0 size v n xs) {u:Value} {m:Nat} {news:List Value} (hl:news.length=m*size) (hR:Runs P w T Tx ty E i z m u news)
  (h63:n+m≤maxLen) (hbytes:(n+m)*i.bytes≤140737488355328):
  ∃v' w' E2,(Builtin.append_ #[T,Tx] ty #[v,u]).run P w=.ok v' w'∧ownsAt w' E2 size v' (n+m) (xs++news)∧w.grownBy w' v.ownBlock∧(hb v'=hb v∨hb v'=[w.heap.size]):=by
 subst hsize
 have hsmall:n+m≤9223372036854775807:=by simp only[maxLen] at h63;omega
 have hlen:(xs++news).length=(n+m)*i.size:=by rw[List.length_append,hown.1,hl,Nat.add_mul]
 have same:w.grownBy w v.ownBlock:=⟨rfl,rfl,rfl,Nat.le_refl _,fun _ _ _=>rfl⟩
 by_cases hm:m=0
 ·subst hm
  have hn:news=[]:=List.eq_nil_of_length_eq_zero (by simpa using hl)
  subst hn
  rcases hown.2 with ⟨rfl,rfl⟩ | ⟨g,off,cap,cur,rfl,hg,hnc,rest⟩
  ·exact ⟨.slice none 0 0,w,E0,hR.zer rfl,by simpa using hown,same,.inl rfl⟩
  ·exact ⟨_,w,E0,hR.same rfl g off n cap hnc,by simpa using hown,same,.inl rfl⟩
 ·have hm0:0 < m:=Nat.pos_of_ne_zero hm
  have grown:∀(old:Nat),old < n+m→
    ownsAt (w.drew.alloc (.cells (xs.toArray++news.toArray++Builtin.zeroCells z.cells (grownCap w (n+m) old E - (n+m))) E)) E i.size
     (.slice (some ⟨w.heap.size,0,none⟩) (n+m) (grownCap w (n+m) old E)) (n+m) (xs++news):=by
   intro old ho
   have hge:=grownCap_ge w (n+m) old E
   have hcm:grownCap w (n+m) old E≤maxLen:=grownCap_le_maxLen w (n+m) old E h63
   refine ownsAt.of ⟨hlen,.inr ⟨w.heap.size,_,_,rfl,Nat.zero_le _,heap_alloc_new w.drew _,hge,hcm,?_,?_⟩⟩
   ·have hzc:(Builtin.zeroCells z.cells (grownCap w (n+m) old E - (n+m))).size=(grownCap w (n+m) old E - (n+m))*i.size:=by rw[size_zeroCells,hzs]
    have hx:=hown.1
    simp only[Array.size_append,List.size_toArray,hzc,hx,hl]
    rw[←Nat.add_mul,←Nat.add_mul]
    congr 1
    omega
   ·simp only[Array.toList_append,List.append_assoc]
    rw[←List.append_assoc,←hlen]
    exact List.take_left
  have gb:∀(ob:Go.Obj),w.grownBy (w.drew.alloc ob) v.ownBlock:=fun ob=>⟨rfl,rfl,rfl,by simp,fun k hk _=>Zcp w.drew ob hk⟩
  rcases hown.2 with ⟨rfl,rfl⟩ | ⟨g,off,cap,cur,rfl,hg,hnc,hcm,hcs,htake⟩
  ·have hx:xs=[]:=List.eq_nil_of_length_eq_zero (by simpa using hown.1)
   subst hx
   have hr:=hR.nil hm0 (by omega) (by have hb:=hbytes;simp only[Nat.zero_add] at hb;omega)
   have hgr:=grown 0 (by omega)
   simp only[Nat.zero_add,List.nil_append,Array.empty_append] at hgr ⊢
   exact ⟨_,_,E,hr,hgr,gb _,.inr rfl⟩
  ·by_cases hroom:n+m≤cap
   ·have hfit:off+n*i.size+news.length≤cur.size:=by
     have:n*i.size+m*i.size≤cap*i.size:=by rw[←Nat.add_mul];exact Nat.mul_le_mul_right _ hroom
     rw[hl];omega
    have hr:=hR.room hm0 E0 g off n cap cur hg hroom hfit
    refine ⟨_,_,E0,hr,⟨hlen,.inr ⟨g,off,cap,_,rfl,setRow_heap w g cur _ E0 _ hg,hroom,hcm,?_,?_⟩⟩,⟨rfl,rfl,rfl,by simp,fun k _ hk=>setRow_other w g k _ (fun e=>hk (by simp[Value.ownBlock,e]))⟩,.inl rfl⟩
    ·simp only[List.size_toArray,List.length_append,List.length_take,List.length_drop,Array.length_toList]
     omega
    ·have htl:(cur.toList.take (off+n*i.size)).length=off+n*i.size:=by rw[List.length_take,Array.length_toList];omega
     have e:(cur.toList.take (off+n*i.size)++news++cur.toList.drop (off+n*i.size+news.length)).drop off=xs++news++cur.toList.drop (off+n*i.size+news.length):=by
      rw[List.append_assoc,List.drop_append_of_le_length (by omega),←List.append_assoc,List.drop_take,Nat.add_sub_cancel_left,htake]
     show List.take _ (List.drop off (cur.toList.take (off+n*i.size)++news++cur.toList.drop (off+n*i.size+news.length)).toArray.toList)=_
     rw[e,←hlen]
     exact List.take_left
   ·have holds:∀j u,xs[j]? =some u→w.cell? ((⟨g,off,none⟩:Addr).add j)=some u:=fun j u hu=>by rw[Z7];exact hown.cells hu
    have hr:=hR.grow hm0 g off n cap xs hown.1 holds (by omega) (by omega) (growslice_fits (by omega) hbytes)
    exact ⟨_,_,E,hr,grown cap (by omega),gb _,.inr rfl⟩
theorem ZbZ {T E:TypeId} {t:Ty} {bytes:Nat} (h:Go.Ev.elemOf P T=some (E,t,bytes)):P.underlying T=some (.slice E)∧tyOf P 20 E=some t∧∃i z,P.info? E=some i∧i.size=t.cells∧0 < i.size∧i.zero=some z∧z.cells.size=t.cells∧i.bytes=bytes∧0 < bytes:=by
 unfold Go.Ev.elemOf at h
 split at h
 ·rename_i e hu
  cases ht:tyOf P 20 e with
  | none=>simp[ht] at h
  | some ty=>
   cases hi:P.info? e with
   | none=>simp[ht,hi] at h
   | some i=>
    cases hz:i.zero with
    | none=>simp[ht,hi,hz] at h
    | some z=>
     simp only[ht,hi,hz,Option.bind_some] at h
     split at h
     ·rename_i hc
      simp only[Option.some.injEq,Prod.mk.injEq] at h
      obtain ⟨rfl,rfl,rfl⟩:=h
      exact ⟨hu,ht,i,z,hi,hc.1,hc.2.1,hz,by rw[hc.2.2.1,hc.1],rfl,hc.2.2.2⟩
     ·cases h
 ·cases h
theorem ZtO {tm:Array Value} (hR:R Mod F ρ w st tm) {t:Ty} {x:AV} {ys:List (El t)} {is:List Id} (hx:extra st t x=some (ys,is)) {v:Value} (h:ARep F ρ w st x v):
  ∃A c,v=.slice A ys.length c∧(A=none→ys.length=0)∧∀ad,A=some ad→∀(i:Nat) y,ys[i]? =some y→∃cs,LRep F w t y cs∧cellsAt w (ad.add (i*t.cells)) cs:=by
 unfold extra at hx
 split at hx
 ·cases hx
  cases h
  exact ⟨none,0,rfl,fun _=>rfl,fun ad e=>by cases e⟩
 ·rename_i t' l
  split at hx
  ·rename_i ht
   subst ht
   cases hx
   cases h with
   | d _ _ _ hl=>
    obtain ⟨A,c,e1,hle,hall⟩:=hl
    simp only[List.cons.injEq,and_true] at e1
    subst e1
    refine ⟨A,c,rfl,fun e=>?_,fun ad e i y hy=>?_⟩
    ·cases l with
     | nil=>rfl
     | cons y l=>
      obtain ⟨ad,cs,e2,_⟩:=hall 0 y rfl
      rw[e] at e2;cases e2
    ·obtain ⟨ad',cs,e2,_,h2,h3⟩:=hall i y hy
     rw[e] at e2
     cases e2
     exact ⟨cs,h2,h3⟩
  ·cases hx
 ·rename_i id ver pre
  split at hx
  ·rename_i E t' l lk ho
   split at hx
   ·rename_i ht
    subst ht
    cases hx
    cases h with
    | own _ _ _ _ hbn h1 hp=>
     obtain ⟨hn,A,c,hρ,rfl⟩:=hp E t' l lk ho
     have hrow:RowRep F w E t' l (ρ id):=hR.obs id ver _ (Zw.1 ho)
     have hle:pre.getD l.length≤l.length:=by
      cases pre with
      | none=>exact Nat.le_refl _
      | some n=>exact hn n rfl
     have hdat:=hrow.data (F':=fun b=>F b∨b∈hb (ρ id)) (fun _ h=>.inl h) (fun _ h=>.inr h) hρ hle
     show ∃A' c',Value.slice A (pre.getD l.length) c=Value.slice A' (preL pre l).length c'∧(A'=none→(preL pre l).length=0)∧∀ad,A'=some ad→∀(i:Nat) y,(preL pre l)[i]? =some y→∃cs,LRep F w t' y cs∧cellsAt w (ad.add (i*t'.cells)) cs
     rw[Zow]
     obtain ⟨A',c',e2,_,hall⟩:=hdat
     simp only[List.cons.injEq,Value.slice.injEq,and_true] at e2
     obtain ⟨rfl,e3,rfl⟩:=e2
     refine ⟨A,c,congrArg (fun n=>Value.slice A n c) e3,fun e=>?_,fun ad e i y hy=>?_⟩
     ·cases hl:l.take (pre.getD l.length) with
      | nil=>rfl
      | cons y l2=>
       obtain ⟨ad,cs,e2,_⟩:=hall 0 y (by rw[hl];rfl)
       rw[e] at e2;cases e2
     ·obtain ⟨cells,hown,hcl⟩:=hrow
      have hy':l[i]? =some y:=by
       rw[List.getElem?_take] at hy
       split at hy
       ·exact hy
       ·cases hy
      obtain ⟨cs,h2,h3⟩:=hcl i y hy'
      refine ⟨cs,h2,fun j u hu=>?_⟩
      have h5:=h3 j u hu
      rw[hρ] at hown
      rcases hown.2 with ⟨h6,_⟩ | ⟨g,off,cap,cur,h6,_⟩
      ·simp only[Value.slice.injEq] at h6
       rw[h6.1] at e
       cases e
      ·cases h6
       cases e
       rw[Addr.add_add,Z7]
       exact hown.cells h5
   ·cases hx
  ·cases hx
 ·cases hx
end
end Go.Ev
end

section
namespace Go.Ev
variable [Tabs] [Orgs]
open Go
section
variable {P:Program} {Mod:Nat→Prop} {o:Oper} {st:St} {F:Nat→Prop} {ρ:Rho} {w:World}
theorem Zdt {a:Act} (hR:R Mod F ρ w st a.tmps):∀(xs:List Operand),CsRep F ρ w st (asArg st xs) (xs.map a.eval)
 | []=>.nil
 | x :: r=>.cons (Zt hR x) (Zdt hR r)
theorem ZrD {n b:Nat} (h:Nat.ble (n*b) limit=true):n*b≤140737488355328:=by
 have:=Nat.le_of_ble_eq_true h
 simp only[limit] at this
 omega
theorem ZnS {n b:Nat} (hb:0 < b) (h:n*b≤140737488355328):n≤maxLen:=by
 have:n≤n*b:=Nat.le_mul_of_pos_right _ hb
 simp only[maxLen]
 omega
def SrcOK (P:Program) (Mod:Nat→Prop) (o:Oper) (st:St) (T Tx E:TypeId) (t:Ty) (x:AV) (ys:List (El t)):Prop:=
 ∀F ρ w (a:Act),R Mod F ρ w st a.tmps→∀u,ARep F ρ w st x u→∀i z,P.info? E=some i→i.zero=some z→i.size=t.cells→0 < i.size→z.cells.size=t.cells→
  ∃news:List Value,news.length=ys.length*t.cells∧(∀(i:Nat) x,ys[i]? =some x→∃cs,LRep F w t x cs∧∀j u,cs[j]? =some u→news[i*t.cells+j]? =some u)∧
   Runs P w T Tx o.type E i z ys.length u news
theorem Zny {T E:TypeId} {t:Ty} (hu:P.underlying T=some (.slice E)) {x:AV} {ys:List (El t)} {is:List Id} (hx:extra st t x=some (ys,is)):SrcOK P Mod o st T T E t x ys:=by
 intro F ρ w a hR u hu2 i z hi hz hsz hpos hzs
 obtain ⟨A,c',rfl,hA0,hA⟩:=ZtO hR hx hu2
 obtain ⟨news,n1,n2,n3,n4⟩:∃news:List Value,news.length=ys.length*t.cells∧(∀ad,A=some ad→cellsAt w ad news)∧(∀v∈news,v.oneCell'=true)∧∀(i:Nat) x,ys[i]? =some x→∃cs,LRep F w t x cs∧∀j u,cs[j]? =some u→news[i*t.cells+j]? =some u:=by
  cases A with
  | none=>
   have hy:ys=[]:=List.eq_nil_of_length_eq_zero (hA0 rfl)
   subst hy
   exact ⟨[],by simp,(fun ad e=>by cases e),by simp,fun i x h=>by simp at h⟩
  | some ad=>
   obtain ⟨news,a1,a2,a3,a4⟩:=Zs1 ys ad (hA ad rfl)
   exact ⟨news,a1,fun ad' e=>by cases e;exact a2,a3,a4⟩
 exact ⟨news,n1,n4,Runs.ofSlice hu hi hz (by rw[n1,hsz]) n2 hA0 n3⟩
theorem ZuH {T Tx E:TypeId} {t:Ty} {kn:IntKind} {bytes:Nat} (hel:Go.Ev.elemOf P T=some (E,t,bytes)) (htx:P.underlying Tx=some (.int kn)) {zv:El t} (hz:(zeroAV P E).bind (packAll t)=some zv) {m:Nat} (hm:m*bytes≤35184372088832):
  SrcOK P Mod o st T Tx E t (.d (.int .i64) (m:Int)) (List.replicate m zv):=by
 intro F ρ w a hR u hu2 i z hi hzz hsz hpos hzs
 obtain ⟨hu,hty,i',z',hi',hsz',hpos',hzz',hzs',hby,hbp⟩:=ZbZ hel
 rw[hi] at hi'
 cases hi'
 rw[hzz] at hzz'
 cases hzz'
 have hzl:LRep F w t zv z.cells.toList:=by
  unfold zeroAV at hz
  rw[hi] at hz
  simp only[Option.bind_some,hzz,Option.map_some] at hz
  exact Za4 hz (CsRep.ofVals (ρ:=ρ) (st:=st) _)
 have hu3:u=.int .i64 (m:Int):=Zaq hu2
 subst hu3
 have hml:m≤maxLen:=ZnS hbp (by omega)
 refine ⟨(Builtin.zeroCells z.cells m).toList,by simp[size_zeroCells,hzs],fun j x hx=>?_,?_⟩
 ·have hjm:j < m:=by have:=(List.getElem?_eq_some_iff.1 hx).1;simpa using this
  have hxz:x=zv:=by have:=(List.getElem?_eq_some_iff.1 hx).2;simpa using this.symm
  subst hxz
  refine ⟨_,hzl,fun q u hu=>?_⟩
  have hq:q < t.cells:=by have:=(List.getElem?_eq_some_iff.1 hu).1;rw[hzl.length] at this;exact this
  have hlt:j*t.cells+q < m*z.cells.size:=by
   have:j*t.cells+t.cells≤m*t.cells:=by rw[←Nat.succ_mul];exact Nat.mul_le_mul_right _ hjm
   rw[hzs];omega
  have hmod:(j*t.cells+q) % z.cells.size=q:=by rw[hzs,Nat.mul_comm,Nat.mul_add_mod,Nat.mod_eq_of_lt hq]
  have hq':q < z.cells.size:=by omega
  simp only[Builtin.zeroCells,Array.toList_map,List.getElem?_map,Array.toList_range]
  rw[List.getElem?_range hlt]
  simp only[Option.map_some,hmod]
  rw[getElem!_pos z.cells q hq']
  rw[Array.getElem?_toList,Array.getElem?_eq_getElem hq'] at hu
  exact hu
 ·rw[List.length_replicate]
  exact Runs.ofZeros hu htx hi hzz hpos (by rw[hzs,hsz]) (by simp only[maxLen] at hml;omega) (by rw[hby];omega) hzl.ones
theorem Ztn {d:Nat} (hd:o.dst=some d) {T Tx E:TypeId} {t:Ty} {bytes:Nat} (hel:Go.Ev.elemOf P T=some (E,t,bytes)) {c:Call} (hop:o.op=.call c) (hcal:c.callee=.builtin .append) (hat:c.argTypes= #[T,Tx])
  {xs:List Operand} (hargs:c.args.toList=xs) {x s:AV} (hxs:asArg st xs=[s,x]) {ys:List (El t)} (hsrc:SrcOK P Mod o st T Tx E t x ys)
  {l0:List (El t)} {id ver':Nat} (hbnd:Nat.ble ((l0.length+ys.length)*bytes) limit=true)
  (hs:∀F ρ w (a:Act),R Mod F ρ w st a.tmps→∀v,ARep F ρ w st s v→ver'=st.nextVer id∧∃cells,ownsAt w E t.cells v l0.length cells∧
   (∀(i:Nat) x,l0[i]? =some x→∃cs,LRep F w t x cs∧∀j u,cs[j]? =some u→cells[i*t.cells+j]? =some u)∧
   (∀b,b∈hb v→∃vv oo,find id st.ob=some (vv,oo)∧oo.free=true∧b∈hb (ρ id))):
  OpOK P Mod o st ((st.setOb id ver' (.row E t (l0++ys) false)).put (some d) (.own id ver' none)):=by
 intro F ρ w a Q hR hdef
 obtain ⟨hu,hty,i,z,hi,hsz,hpos,hz,hzs,hby,hbp⟩:=ZbZ hel
 have hargr:=Zdt hR xs
 rw[hxs] at hargr
 obtain ⟨vs,hvs⟩:∃vs,xs.map a.eval=vs:=⟨_,rfl⟩
 rw[hvs] at hargr
 match vs,hargr.1 with
 | [v,u],_=>
  have hv:ARep F ρ w st s v:=hargr.2 0 _ _ rfl rfl
  have hu2:ARep F ρ w st x u:=hargr.2 1 _ _ rfl rfl
  obtain ⟨hver,cells,hown,hcl,hblk⟩:=hs F ρ w a hR v hv
  obtain ⟨news,n1,n4,hruns⟩:=hsrc F ρ w a hR u hu2 i z hi hz hsz hpos hzs
  have hbytes:=ZrD hbnd
  have h63:l0.length+ys.length≤maxLen:=ZnS hbp hbytes
  obtain ⟨v',w',hrun,hown',hg,hwhere⟩:=Zqn (P:=P) (ty:=o.type) hsz hzs hown n1 hruns h63 (by rw[hby];exact hbytes)
  have hrun':(execOp a.eval o).run P w=.ok (.value v') w':=by
   have hargs':c.args.map a.eval= #[v,u]:=by
    apply Array.ext'
    rw[Array.toList_map,hargs,hvs]
   simp[execOp,hop,resolve,hcal,invoke,builtin,hat,hargs']
   rw[hrun]
   rfl
  unfold Oper.wp
  rw[hrun']
  show OpPost Mod F w _ (a.put o.dst v') _
  rw[hd]
  have hk:Keeps F w F w':=⟨fun _ h=>h,fun b hF=>hg.block b (hR.low b hF) fun e=>by
   have he:b∈hb v:=by rw[ZmJ hown,e.symm];simp
   obtain ⟨vv,oo,hf,hfr,hbb⟩:=hblk b he
   exact (hR.sep _ _ _ _ hf hfr hbb).1 hF⟩
  have hset:=R.set hR (w':=w') (id:=id) (ver':=ver') (o':=.row E t (l0++ys) false) (h':=v') hg.os hg.tape hg.output hg.size (.inr hver)
   (fun k hk hne=>hg.block k hk fun e=>by
    have he:k∈hb v:=by rw[ZmJ hown,e.symm];simp
    obtain ⟨vv,oo,hf,hfr,hbb⟩:=hblk k he
    exact hne vv oo hf hfr hbb)
   (fun _ b hbv=>by
    rcases hwhere with hw | hw
    ·rw[hw] at hbv
     obtain ⟨vv,oo,hf,hfr,hbb⟩:=hblk b hbv
     obtain ⟨s1,s2,s3,_⟩:=hR.sep _ _ _ _ hf hfr hbb
     exact ⟨s1,s2,Nat.lt_of_lt_of_le s3 hg.size,.inr ⟨vv,oo,hf,hfr,hbb⟩⟩
    ·rw[hw] at hbv
     obtain rfl:=List.mem_singleton.1 hbv
     refine ⟨fun hF=>by have:=hR.low _ hF;omega,hR.hi _ (Nat.le_refl _),?_,.inl (Nat.le_refl _)⟩
     exact hown'.lt _ (by rw[ZmJ hown'] at hw;cases h:v'.ownBlock with | none=>rw[h] at hw;simp at hw | some c=>rw[h] at hw;simpa using hw))
   (fun _ _ _ e=>by cases e) ?_
  ·obtain ⟨hR',hE⟩:=hset
   refine ⟨by rw[ZX];exact hdef,F,_,R.put (a:=a) hR' (.own _ _ _ _ ZcJ ?_ fun E' t' l' lk' ho=>?_) (some d),hE⟩
   ·rcases hown'.2 with ⟨rfl,_⟩ | ⟨g,off,cap,cur,rfl,_⟩ <;> rfl
   ·rw[ZlH] at ho
    cases ho
    refine ⟨(fun n e=>by cases e),?_⟩
    have hlen:(l0++ys).length=l0.length+ys.length:=List.length_append
    rcases hown'.2 with ⟨h1,h2⟩ | ⟨g,off,cap,cur,h1,_⟩
    ·exact ⟨none,0,by simp only[updR,if_true];rw[h1,hlen,h2],by simp only[Option.getD_none];rw[h1,hlen,h2]⟩
    ·exact ⟨_,cap,by simp only[updR,if_true];rw[h1,hlen],by simp only[Option.getD_none];rw[h1,hlen]⟩
  ·refine ⟨cells++news,by rw[List.length_append];exact hown',fun i x hx=>?_⟩
   by_cases hil:i < l0.length
   ·rw[List.getElem?_append_left hil] at hx
    obtain ⟨cs,h1,h2⟩:=hcl i x hx
    refine ⟨cs,h1.keep hk,fun j u hu=>?_⟩
    have:=h2 j u hu
    rw[List.getElem?_append_left (List.getElem?_eq_some_iff.1 this).1]
    exact this
   ·rw[List.getElem?_append_right (by omega)] at hx
    obtain ⟨cs,h1,h2⟩:=n4 _ x hx
    refine ⟨cs,h1.keep hk,fun j u hu=>?_⟩
    have h3:=h2 j u hu
    have hcl':=hown.1
    have:l0.length*t.cells≤i*t.cells:=Nat.mul_le_mul_right _ (by omega)
    rw[List.getElem?_append_right (by rw[hcl'];omega),hcl']
    rw[show i*t.cells+j - l0.length*t.cells=(i - l0.length)*t.cells+j by rw[Nat.sub_mul];omega]
    exact h3
theorem ZpR {d:Nat} (hd:o.dst=some d) {T Tx E:TypeId} {t:Ty} {bytes:Nat} (hel:Go.Ev.elemOf P T=some (E,t,bytes)) {c:Call} (h:o.op=.call c) (hc:c.callee=.builtin .append) (hat:c.argTypes= #[T,Tx])
  {x s:AV} (hargs:asArg st c.args.toList=[s,x]) {ys:List (El t)} (hsrc:SrcOK P Mod o st T Tx E t x ys):Sat (appendB st d E t bytes s ys) (OpOK P Mod o st):=by
 unfold appendB
 split
 ·refine Sat.guard fun hbnd=>Sat.pure ?_
  have:=Ztn (Mod:=Mod) hd hel h hc hat rfl hargs hsrc (l0:=[]) (id:=rootId d) (ver':=st.nextVer (rootId d)) (by simpa using hbnd) fun F ρ w a hR v hv=>by
   cases hv
   exact ⟨rfl,[],Zj3 _ _ _,(fun i x h=>by simp at h),fun b hb=>by cases hb⟩
  simpa using this
 ·rename_i id ver pre
  split
  ·rename_i E' t' l ho
   split
   ·rename_i ht
    subst ht
    split
    ·rename_i hE
     subst hE
     refine Sat.guard fun hbnd=>Sat.pure ?_
     refine Ztn (Mod:=Mod) hd hel h hc hat rfl hargs hsrc (l0:=preL pre l) hbnd fun F ρ w a hR v hv=>?_
     have hf:=Zw.1 ho
     cases hv with
     | own _ _ _ _ hbn h1 hp=>
      obtain ⟨hn,A,c',hρ,rfl⟩:=hp _ _ _ _ ho
      obtain ⟨cells,hown,hcl⟩:=hR.obs id ver _ hf
      have hle:pre.getD l.length≤l.length:=by
       cases pre with
       | none=>exact Nat.le_refl _
       | some n=>exact hn n rfl
      have hll:(preL pre l).length=pre.getD l.length:=by rw[Zow,List.length_take,Nat.min_eq_left hle]
      refine ⟨by rw[St.nextVer,hf],cells.take ((preL pre l).length*t'.cells),⟨?_,?_⟩,fun i x hx=>?_,fun b hb=>⟨_,_,hf,rfl,?_⟩⟩
      ·have:=hown.1
       rw[List.length_take,this,hll]
       exact Nat.min_eq_left (Nat.mul_le_mul_right _ hle)
      ·rcases hown.2 with ⟨h2,h3⟩ | ⟨g,off,cap,cur,h2,h4,h5,h6,h7,h8⟩
       ·rw[hρ] at h2
        simp only[Value.slice.injEq] at h2
        obtain ⟨rfl,h9,rfl⟩:=h2
        have:pre.getD l.length=0:=by omega
        exact .inl ⟨by rw[this],by rw[hll,this]⟩
       ·rw[hρ] at h2
        cases h2
        refine .inr ⟨g,off,c',cur,by rw[hll],h4,by omega,h6,h7,?_⟩
        rw[←h8,List.take_take,hll,Nat.min_eq_left (Nat.mul_le_mul_right _ hle)]
      ·rw[Zow,List.getElem?_take] at hx
       split at hx
       ·rename_i hlt
        obtain ⟨cs,h2,h3⟩:=hcl i x hx
        refine ⟨cs,h2,fun j u hu=>?_⟩
        have hj:j < t'.cells:=by have:=(List.getElem?_eq_some_iff.1 hu).1;rw[h2.length] at this;exact this
        have hm:i*t'.cells+t'.cells≤(preL pre l).length*t'.cells:=by rw[←Nat.succ_mul,hll];exact Nat.mul_le_mul_right _ hlt
        rw[List.getElem?_take,if_pos (by omega)]
        exact h3 j u hu
       ·cases hx
      ·rw[hρ]
       cases A with
       | none=>cases hb
       | some ad=>exact hb
    ·exact Sat.fail
   ·exact Sat.fail
  ·exact Sat.fail
 ·exact Sat.fail
theorem Zww {cl:Cl} {c:Call} (h:o.op=.call c) (hc:c.callee=.builtin .append):Sat (opA P cl o st) (OpOK P Mod o st):=by
 simp only[opA,h,hc]
 split
 ·rename_i s x T T' d hargs hT hd
  have hat:c.argTypes= #[T,T']:=by apply Array.ext';exact hT
  refine Sat.cond (fun hb=>?_) fun _=>?_
  ·have hb:=Nat.eq_of_beq_eq_true hb
   subst hb
   unfold appendA
   split
   ·exact Sat.fail
   ·rename_i E t bytes hel
    split
    ·exact Sat.fail
    ·rename_i ys is hx
     exact ZpR hd hel h hc hat hargs (Zny (ZbZ hel).1 hx)
  ·split
   ·rename_i kn n htx
    unfold appendZ
    split
    ·exact Sat.fail
    ·rename_i E t bytes hel
     split
     ·exact Sat.fail
     ·rename_i z hz
      refine Sat.guard fun hb=>?_
      simp only[Bool.and_eq_true,decide_eq_true_eq] at hb
      obtain ⟨h0,hlim⟩:=hb
      obtain ⟨m,rfl⟩:=Int.eq_ofNat_of_zero_le h0
      have hlim':m*bytes≤35184372088832:=by
       have:((m*bytes:Nat):Int)≤((35184372088832:Nat):Int):=by rw[Int.natCast_mul];simpa[limit] using hlim
       exact Int.ofNat_le.1 this
      exact ZpR hd hel h hc hat hargs (by simpa using ZuH hel htx hz hlim')
   ·exact Sat.fail
 ·exact Sat.fail
end
end Go.Ev
end

section
namespace Go.Ev
variable [Tabs] [Orgs]
open Go
section
variable {P:Program} {Mod:Nat→Prop} {o:Oper} {st:St} {F:Nat→Prop} {ρ:Rho} {w:World}
theorem ZtS {d:Nat} (hd:o.dst=some d) {st1:St} {E:TypeId} {t:Ty} {l:List (El t)}
  (h:∀F ρ w (a:Act),R Mod F ρ w st a.tmps→∃F1 cells,R Mod F1 ρ w st1 a.tmps∧Evo Mod F w F1 w∧
   (execOp a.eval o).run P w=.ok (.value (.slice (some ⟨w.heap.size,0,none⟩) l.length l.length)) (w.alloc (.cells cells E))∧cells.size=l.length*t.cells∧l.length≤maxLen∧
   ∀(i:Nat) x,l[i]? =some x→∃cs,LRep F1 w t x cs∧∀j u,cs[j]? =some u→cells.toList[i*t.cells+j]? =some u):
  OpOK P Mod o st ((st1.setOb (rootId d) (st1.nextVer (rootId d)) (.row E t l false)).put (some d) (.own (rootId d) (st1.nextVer (rootId d)) none)):=by
 intro F ρ w a Q hR hdef
 obtain ⟨F1,cells,hR1,hE1,hrun,hsz,hml,hel⟩:=h F ρ w a hR
 have hk:Keeps F1 w F1 (w.alloc (.cells cells E)):=⟨fun _ h=>h,fun b hF=>Zcp w _ (hR1.low b hF)⟩
 obtain ⟨hR',hE⟩:=R.alloc hR1 (w0:=w) rfl rfl rfl rfl (id:=rootId d) (ob:=.cells cells E) (o':=.row E t l false) (h':=.slice (some ⟨w.heap.size,0,none⟩) l.length l.length)
  (fun b hb=>by simpa[Go.Ev.hb] using hb) (fun _ _ _ e=>by cases e)
  ⟨cells.toList,ownsAt.of ⟨by simp[hsz],.inr ⟨_,l.length,cells,rfl,Nat.zero_le _,Zb4 _ _,Nat.le_refl _,hml,hsz,by rw[←hsz,←Array.length_toList,List.take_length]⟩⟩,
   fun i x hx=>let ⟨cs,h1,h2⟩:=hel i x hx;⟨cs,h1.keep hk,h2⟩⟩
 unfold Oper.wp
 rw[hrun]
 show OpPost Mod F w _ (a.put o.dst _) _
 rw[hd]
 refine ⟨by rw[ZX];exact hdef,F1,_,R.put (a:=a) hR' (.own _ _ _ _ ZcJ rfl fun E' t' l' lk' ho=>?_) (some d),hE1.trans hE⟩
 rw[ZlH] at ho
 cases ho
 exact ⟨fun n e=>(by cases e),_,_,by simp only[updR,if_true],rfl⟩
theorem Ztr {cl:Cl} {T:TypeId} {n c:Operand} (h:o.op=.makeSlice T n c):Sat (opA P cl o st) (OpOK P Mod o st):=by
 simp only[opA,h]
 refine Sat.bind Sat.toI fun p hp=>Sat.bind Sat.toI fun q hq=>?_
 obtain ⟨k1,n1⟩:=p
 obtain ⟨k2,n2⟩:=q
 simp only at hp hq ⊢
 split
 ·exact Sat.fail
 ·rename_i E t bytes hel
  split
  ·exact Sat.fail
  ·rename_i z hz
   refine Sat.guard fun hb=>?_
   simp only[Bool.and_eq_true,decide_eq_true_eq,beq_iff_eq] at hb
   obtain ⟨⟨rfl,h0⟩,hlim⟩:=hb
   obtain ⟨hu,hty,i,zv,hi,hsz,hpos,hzz,hzs,hby,hbp⟩:=ZbZ hel
   obtain ⟨m,rfl⟩:=Int.eq_ofNat_of_zero_le h0
   have hlim':m*bytes≤35184372088832:=by
    have:((m*bytes:Nat):Int)≤((35184372088832:Nat):Int):=by rw[Int.natCast_mul];simpa[limit] using hlim
    exact Int.ofNat_le.1 this
   unfold makeObj
   split
   ·rename_i d hd
    rw[show (st.setOb (rootId d) (st.nextVer (rootId d)) (.row E t (List.replicate (m:Int).toNat z) false)).put (some d) (.own (rootId d) (st.nextVer (rootId d)) none)=(st.setOb (rootId d) (st.nextVer (rootId d)) (.row E t (List.replicate m z) false)).put (some d) (.own (rootId d) (st.nextVer (rootId d)) none) by simp]
    refine Sat.pure (ZtS hd fun F ρ w a hR=>?_)
    have hml:m≤maxLen:=ZnS hbp (by omega)
    have e1:=Zt hR n
    have e2:=Zt hR c
    rw[hp] at e1
    rw[hq] at e2
    have hml':(m:Int)≤9223372036854775807:=by simp only[maxLen] at hml;omega
    have hr:=run_make (P:=P) w T E i zv hu hi hzz k1 k2 m m (by omega) (Int.le_refl _) (by
     have:((i.bytes*m:Nat):Int)≤281474976710656:=by rw[hby,Nat.mul_comm];omega
     rwa[Int.natCast_mul] at this) hml'
    simp only[Int.toNat_natCast] at hr
    refine ⟨F,madeCells zv.cells (m*i.size),hR,Evo.refl _ _ _,?_,by simp[size_madeCells,hsz],by simpa using hml,fun j x hx=>?_⟩
    ·simp[execOp,h,Zaq e1,Zaq e2,hr]
    ·have hjm:j < m:=by have:=(List.getElem?_eq_some_iff.1 hx).1;simpa using this
     have hxz:x=z:=by have:=(List.getElem?_eq_some_iff.1 hx).2;simpa using this.symm
     subst hxz
     have hzl:LRep F w t x zv.cells.toList:=by
      unfold zeroAV at hz
      rw[hi] at hz
      simp only[Option.bind_some,hzz,Option.map_some] at hz
      exact Za4 hz (CsRep.ofVals (ρ:=ρ) (st:=st) _)
     refine ⟨_,hzl,fun q u hu=>?_⟩
     have hq:q < t.cells:=by have:=(List.getElem?_eq_some_iff.1 hu).1;rw[hzl.length] at this;exact this
     have hlt:j*t.cells+q < m*i.size:=by
      have:j*t.cells+t.cells≤m*t.cells:=by rw[←Nat.succ_mul];exact Nat.mul_le_mul_right _ hjm
      rw[hsz];omega
     have hmod:(j*t.cells+q) % zv.cells.size=q:=by rw[hzs,Nat.mul_comm,Nat.mul_add_mod,Nat.mod_eq_of_lt hq]
     have hq':q < zv.cells.size:=by omega
     simp only[madeCells,Array.toList_map,List.getElem?_map,Array.toList_range]
     rw[List.getElem?_range hlt]
     simp only[Option.map_some,hmod]
     rw[getElem!_pos zv.cells q hq']
     rw[Array.getElem?_toList,Array.getElem?_eq_getElem hq'] at hu
     exact hu
   ·exact Sat.fail
theorem ZqU {cl:Cl} {T:TypeId} {len:Nat} {parts:Array (Nat×Operand)} (h:o.op=.buildSlice T len parts):Sat (opA P cl o st) (OpOK P Mod o st):=by
 simp only[opA,h]
 split
 ·exact Sat.fail
 ·rename_i E t bytes hel
  obtain ⟨hu,hty,i,zv,hi,hsz,hpos,hzz,hzs,hby,hbp⟩:=ZbZ hel
  split
  ·rename_i s z hs hz
   refine Sat.cond (fun hle=>?_) fun _=>Sat.fail
   have hle:=Nat.le_of_ble_eq_true hle
   split
   ·exact Sat.fail
   ·rename_i cs hfl
    split
    ·exact Sat.fail
    ·rename_i cs' is hd
     split
     ·exact Sat.fail
     ·rename_i l hl
      unfold makeObj
      split
      ·rename_i d hdst
       have hs':s=t.cells:=by
        unfold szOf at hs;rw[hi] at hs;simp at hs;omega
       subst hs'
       refine Sat.pure (ZtS hdst fun F ρ w a hR=>?_)
       have hzv:z=zv.cells.toList.map ofVal:=by
        unfold zeroAV at hz
        rw[hi] at hz
        simpa[hzz] using hz.symm
       obtain ⟨F1,hR1,hE1,hr1,hF1⟩:=ZbO is hR
       have hk1:Keeps F w F1 w:=⟨hE1.more,fun _ _=>rfl⟩
       have hz0:CsRep F ρ w st ((List.range (len*t.cells)).map fun i=>z.getD (i % z.length) .top) ((Array.range (len*t.cells)).map (zv.cells[· % zv.cells.size]!)).toList:=by
        refine ⟨by simp,fun j c u h1 h2=>?_⟩
        simp only[List.getElem?_map] at h1
        simp only[Array.toList_map,Array.toList_range,List.getElem?_map] at h2
        cases hj:(List.range (len*t.cells))[j]? with
        | none=>rw[hj] at h1;cases h1
        | some j'=>
         rw[hj] at h1 h2
         simp only[Option.map_some,Option.some.injEq] at h1 h2
         subst h1
         subst h2
         have hlz:0 < zv.cells.size:=by omega
         have hlt:=Nat.mod_lt j' hlz
         rw[hzv]
         simp only[List.length_map,Array.length_toList,List.getD_eq_getElem?_getD,List.getElem?_map]
         rw[Array.getElem?_toList,Array.getElem?_eq_getElem hlt,getElem!_pos zv.cells _ hlt]
         exact Zi2 _
       obtain ⟨us,h1,h2⟩:=Zlv (qs:=(parts.map fun (i,x)=>(i,a.eval x)).toList) hfl hz0 (by simp) (ZlM hR parts)
       have h3:=ZfG hR hk1 hr1 hd h2 hF1
       obtain ⟨e1,e2,e3⟩:=Zsy hl h3
       have hsl:(Go.sizeOf E).run P w=.ok t.cells w:=ZP hs
       refine ⟨F1,us,hR1,hE1,?_,by rw[e1,←Array.length_toList,e2],by rw[e1];exact ZnS (b:=t.cells) (by omega) (by omega),fun j x hx=>?_⟩
       ·rw[e1]
        have hn:¬(len*t.cells > 2 ^ 24):=by simp;omega
        by_cases h0:len*t.cells=0
        ·have hr0:∀(f:Nat→Value),(Array.range (len*t.cells)).map f= #[]:=fun f=>by
          apply Array.ext'
          rw[h0]
          simp
         rw[hr0] at h1
         simp only[execOp,h,Instr.buildSlice,Sem.run_bind,run_underlying hu,Result.andThen_ok,hsl,if_neg hn,if_pos h0,Sem.run_pure,hr0,h1,newRow]
         rfl
        ·simp only[execOp,h,Instr.buildSlice,Sem.run_bind,run_underlying hu,Result.andThen_ok,hsl,if_neg hn,if_neg h0]
         have hzr:(Go.zeroValue E).run P w=.ok zv w:=Zhz (by rw[hi];exact hzz)
         simp only[Sem.run_bind,hzr,Result.andThen_ok,Sem.run_pure,h1,newRow]
         rfl
       ·obtain ⟨us',h4,h5⟩:=e3 j x hx
        exact ⟨us',h4,h5⟩
      ·exact Sat.fail
  ·exact Sat.fail
end
end Go.Ev
end

section
namespace Go.Ev
variable [Tabs] [Orgs]
open Go
section
variable {P:Program} {Mod:Nat→Prop} {o:Oper} {st:St} {F:Nat→Prop} {ρ:Rho} {w:World}
theorem ZwR {c:Call} {a:Act} {x:AV} (hxy:asArg st c.args.toList=[x]) (hR:R Mod F ρ w st a.tmps):∃u,c.args.map a.eval= #[u]∧ARep F ρ w st x u:=by
 have hr:=Zdt hR c.args.toList
 rw[hxy] at hr
 obtain ⟨vs,hvs⟩:∃vs,c.args.toList.map a.eval=vs:=⟨_,rfl⟩
 rw[hvs] at hr
 match vs,hr.1 with
 | [u],_=>exact ⟨u,by apply Array.ext';rw[Array.toList_map,hvs],hr.2 0 _ _ rfl rfl⟩
theorem ZtL {c:Call} {a:Act} {x y:AV} (hxy:asArg st c.args.toList=[x,y]) (hR:R Mod F ρ w st a.tmps):∃u v,c.args.map a.eval= #[u,v]∧ARep F ρ w st x u∧ARep F ρ w st y v:=by
 have hr:=Zdt hR c.args.toList
 rw[hxy] at hr
 obtain ⟨vs,hvs⟩:∃vs,c.args.toList.map a.eval=vs:=⟨_,rfl⟩
 rw[hvs] at hr
 match vs,hr.1 with
 | [u,v],_=>exact ⟨u,v,by apply Array.ext';rw[Array.toList_map,hvs],hr.2 0 _ _ rfl rfl,hr.2 1 _ _ rfl rfl⟩
theorem Zsn {T:TypeId} {x:AV} (hx:(∃t l,x=.d (.sl t) l)∨x=.nil∨∃id v p,x=.own id v p) (h:lenTy P T x=true):∃e,P.underlying T=some (.slice e):=by
 unfold lenTy at h
 cases hu:P.underlying T with
 | none=>rw[hu] at h;simp at h
 | some d=>
  rw[hu] at h
  rcases hx with ⟨t,l,rfl⟩ | rfl | ⟨id,v,p,rfl⟩ <;> cases d <;> first | (simp at h;done) | exact ⟨_,rfl⟩
theorem Zwi {T:TypeId} {s:ByteArray} (h:lenTy P T (.d .str s)=true):P.underlying T=some .string:=by
 unfold lenTy at h
 cases hu:P.underlying T with
 | none=>rw[hu] at h;simp at h
 | some d=>
  rw[hu] at h
  cases d <;> first | (simp at h;done) | rfl
theorem ZxI {T:TypeId} {id ver:Nat} (h:lenTy P T (.mp id ver)=true):∃k v,P.underlying T=some (.map k v):=by
 unfold lenTy at h
 cases hu:P.underlying T with
 | none=>rw[hu] at h;simp at h
 | some d=>
  rw[hu] at h
  cases d <;> first | (simp at h;done) | exact ⟨_,_,rfl⟩
theorem ZxQ {T:TypeId} {id ver:Nat} {p:Path} (h:lenTy P T (.dn id ver p)=true):∃e,P.underlying T=some (.slice e):=by
 unfold lenTy at h
 cases hu:P.underlying T with
 | none=>rw[hu] at h;simp at h
 | some d=>
  rw[hu] at h
  cases d <;> first | (simp at h;done) | exact ⟨_,rfl⟩
theorem Zyt {cl:Cl} {c:Call} (h:o.op=.call c) (hc:c.callee=.builtin .len):Sat (opA P cl o st) (OpOK P Mod o st):=by
 simp only[opA,h,hc]
 split
 ·rename_i x T hx hT
  refine Sat.cond (fun hty=>?_) fun _=>Sat.fail
  refine Sat.bind (p:=fun v=>Yields1 P Mod o st v) ?_ fun v hv=>Sat.pure (ZG hv)
  have run:∀ {F ρ w} {a:Act},R Mod F ρ w st a.tmps→∃u,ARep F ρ w st x u∧(execOp a.eval o).run P w=((Builtin.len_ c.argTypes o.type #[u]).run P w).andThen fun v w'=>.ok (.value v) w':=by
   intro F ρ w a hR
   obtain ⟨u,e,hu⟩:=ZwR hx hR
   exact ⟨u,hu,by simp[execOp,h,resolve,hc,invoke,builtin,e]⟩
  have slen:∀(e:TypeId),P.underlying T=some (.slice e)→∀w A n c',(Builtin.len_ c.argTypes o.type #[.slice A n c']).run P w=.ok (.int .i64 n) w:=by
   intro e hu w A n c'
   simp[Builtin.len_,hT,run_underlying hu,goInt]
  unfold lenA
  split
  ·rename_i t l
   obtain ⟨e,hu⟩:=Zsn (.inl ⟨_,_,rfl⟩) hty
   refine Sat.pure fun F ρ w a hR=>?_
   obtain ⟨u,hu2,hr⟩:=run hR
   cases hu2 with
   | d _ _ _ hl=>
    obtain ⟨A,c',e2,_⟩:=hl
    simp only[List.cons.injEq,and_true] at e2
    subst e2
    exact ⟨.int .i64 (List.length l),by rw[hr,slen _ hu];rfl,ZkE _⟩
  ·rename_i s
   have hu:=Zwi hty
   refine Sat.pure fun F ρ w a hR=>?_
   obtain ⟨u,hu2,hr⟩:=run hR
   have:=Zgz hu2
   subst this
   exact ⟨.int .i64 (ByteArray.size s),by rw[hr];simp[Builtin.len_,hT,run_underlying hu,goInt],ZkE _⟩
  ·obtain ⟨e,hu⟩:=Zsn (.inr (.inl rfl)) hty
   refine Sat.pure fun F ρ w a hR=>?_
   obtain ⟨u,hu2,hr⟩:=run hR
   cases hu2
   exact ⟨.int .i64 0,by rw[hr,slen _ hu];rfl,ZkE _⟩
  ·rename_i id ver pre
   obtain ⟨e,hu⟩:=Zsn (.inr (.inr ⟨_,_,_,rfl⟩)) hty
   split
   ·rename_i E t l lk ho
    refine Sat.pure fun F ρ w a hR=>?_
    obtain ⟨u,hu2,hr⟩:=run hR
    cases hu2 with
    | own _ _ _ _ hbn h1 hp=>
     obtain ⟨hn,A,c',hρ,rfl⟩:=hp E t l lk ho
     refine ⟨.int .i64 (preN pre l),by rw[hr,slen _ hu,Zrr];rfl,ZkE _⟩
   ·exact Sat.fail
  ·rename_i id ver
   obtain ⟨kk,vv,hu⟩:=ZxI hty
   split
   ·rename_i kt vt l ho
    refine Sat.pure fun F ρ w a hR=>?_
    obtain ⟨u,hu2,hr⟩:=run hR
    cases hu2 with
    | mp _ _ _ hbn h1 hp=>
     have hv:=hp _ ho
     obtain ⟨r,es,clock,hρ,hh,_,_,l0,hperm,_,hes,_⟩:=hR.obs id ver _ (Zw.1 ho)
     rw[hρ] at hv
     subst hv
     have hsz:es.size=l.length:=by have:=congrArg List.length hes;rw[←hperm.length_eq];simpa using this
     exact ⟨.int .i64 l.length,by rw[hr];simp[Builtin.len_,hT,run_underlying hu,goInt,getObj,Sem.run,hh,hsz],ZkE _⟩
   ·exact Sat.fail
  ·rename_i id ver p
   obtain ⟨e,hu⟩:=ZxQ hty
   split
   ·rename_i E d l ho
    split
    ·rename_i q hq
     refine Sat.pure fun F ρ w a hR=>?_
     obtain ⟨u,hu2,hr⟩:=run hR
     cases hu2 with
     | dn _ _ _ _ hbn h1 hp=>
      obtain ⟨hpa,rfl⟩:=hp E d l ho
      obtain ⟨_,hrow⟩:=hR.obs id ver _ (Zw.1 ho)
      obtain ⟨q2,Eq,Bq,a1,a2,a3⟩:=Zek hrow hpa
      rw[hq] at a1
      cases a1
      obtain ⟨cells,Bs,hown,hbl,hB,hel⟩:=a2
      refine ⟨.int .i64 q.2.length,?_,ZkE _⟩
      rcases hown.2 with ⟨h3,h4⟩ | ⟨g,off,cap,cur,h3,_⟩
      ·rw[hr,h3,slen _ hu,h4];rfl
      ·rw[hr,h3,slen _ hu];rfl
    ·exact Sat.fail
   ·exact Sat.fail
  ·exact Sat.fail
 ·exact Sat.fail
theorem ZsJ {cl:Cl} {c:Call} (h:o.op=.call c) (hc:c.callee=.builtin .min∨c.callee=.builtin .max):Sat (opA P cl o st) (OpOK P Mod o st):=by
 rcases hc with hc | hc <;> simp only[opA,h,hc]
 ·split
  ·rename_i x y hxy
   refine Sat.bind Sat.toI fun p hp=>Sat.bind Sat.toI fun q hq=>?_
   obtain ⟨k1,n1⟩:=p
   obtain ⟨k2,n2⟩:=q
   simp only at hp hq ⊢
   refine Sat.pure (ZG fun F ρ w a hR=>⟨.int k1 (if n2 < n1 then n2 else n1),?_,.d _ _ _ rfl⟩)
   obtain ⟨u,v,e,h1,h2⟩:=ZtL hxy hR
   rw[hp] at h1
   rw[hq] at h2
   simp[execOp,h,resolve,hc,invoke,builtin,e,Zaq h1,Zaq h2,Builtin.min_,Builtin.min2]
  ·exact Sat.fail
 ·split
  ·rename_i x y hxy
   refine Sat.bind Sat.toI fun p hp=>Sat.bind Sat.toI fun q hq=>?_
   obtain ⟨k1,n1⟩:=p
   obtain ⟨k2,n2⟩:=q
   simp only at hp hq ⊢
   refine Sat.pure (ZG fun F ρ w a hR=>⟨.int k1 (if n1 < n2 then n2 else n1),?_,.d _ _ _ rfl⟩)
   obtain ⟨u,v,e,h1,h2⟩:=ZtL hxy hR
   rw[hp] at h1
   rw[hq] at h2
   simp[execOp,h,resolve,hc,invoke,builtin,e,Zaq h1,Zaq h2,Builtin.max_,Builtin.max2]
  ·exact Sat.fail
theorem ZxG {cl:Cl} {T:TypeId} {x:Operand} (h:o.op=.range T x):Sat (opA P cl o st) (OpOK P Mod o st):=by
 simp only[opA,h]
 split
 ·rename_i s hu hx
  refine Zie fun d hd=>Zu0 hd (ob:=fun _ _=>default) (fun _ _ _ e=>by cases e) fun F ρ w a hR=>?_
  have h1:=Zt hR x
  rw[hx] at h1
  refine ⟨w,.stringIter s 0,.pointer (some ⟨w.heap.size,0,none⟩),rfl,rfl,rfl,rfl,?_,fun b hb=>by simpa[Go.Ev.hb] using hb,rfl,⟨_,rfl,Zb4 _ _⟩,.it _ _ _ ZcJ rfl fun s' p' ho=>by simp only[updR,if_true]⟩
  simp[execOp,h,Zgz h1,Instr.range,run_underlying hu]
 ·exact Sat.fail
theorem Zyb {cl:Cl} {x:Operand} (h:o.op=.next x true):Sat (opA P cl o st) (OpOK P Mod o st):=by
 simp only[opA,h]
 split
 ·rename_i id ver hx
  split
  ·rename_i s pos ho
   have hf:=Zw.1 ho
   have geth:∀ {F:Nat→Prop} {ρ:Rho} {w:World} {a:Act},R Mod F ρ w st a.tmps→∃r,a.eval x=.pointer (some ⟨r,0,none⟩)∧ρ id=.pointer (some ⟨r,0,none⟩)∧w.heap[r]? =some (.stringIter s pos):=by
    intro F ρ w a hR
    have h1:=Zt hR x
    rw[hx] at h1
    generalize hu:a.eval x=u at h1
    cases h1 with
    | it _ _ _ hb h1 hp=>
     obtain ⟨r,hr,hh⟩:=hR.obs id ver _ hf
     exact ⟨r,(hp s pos ho).trans hr,hr,hh⟩
   refine Sat.bind Sat.branch fun b hb=>?_
   cases b with
   | true=>
    have hlt:pos < s.size:=by simpa using hb.symm
    refine Sat.pure ?_
    intro F ρ w a Q hR hdef
    obtain ⟨r,e1,e2,hh⟩:=geth hR
    have hrl:r < w.heap.size:=(Array.getElem?_eq_some_iff.1 hh).1
    have hrun:(execOp a.eval o).run P w=.ok (.value (.tuple #[.bool true,goInt pos,.int .i32 ((Utf8.decode s pos).1:Int)])) { w with heap:=w.heap.setIfInBounds r (.stringIter s (pos+(Utf8.decode s pos).2)) } :=by
     simp[execOp,h,e1,Instr.next,getObj,setObj,Sem.run,hh,hlt]
    unfold Oper.wp
    rw[hrun]
    have hset:=R.set hR (w':= { w with heap:=w.heap.setIfInBounds r (.stringIter s (pos+(Utf8.decode s pos).2)) }) (id:=id) (ver':=ver) (o':=.sit s (pos+(Utf8.decode s pos).2)) (h':=ρ id)
     rfl rfl rfl (by simp) (.inl ⟨_,hf,rfl,trivial⟩)
     (fun k hk hne=>by
      have:r≠k:=fun e=>hne ver _ hf rfl (by rw[e2,e];exact List.mem_singleton.2 rfl)
      simp[Array.getElem?_setIfInBounds_ne this])
     (fun _ b2 hb2=>by
      obtain ⟨s1,s2,s3,_⟩:=hR.sep id ver _ b2 hf rfl hb2
      exact ⟨s1,s2,by simpa using s3,.inr ⟨_,_,hf,rfl,hb2⟩⟩)
     (fun _ _ _ e=>by cases e) ⟨r,e2,by simp[hrl]⟩
    obtain ⟨hR',hE⟩:=hset
    refine ⟨by rw[ZX];exact hdef,F,_,R.put (a:=a) hR' (.tu _ _ (by simp) fun i c v h1 h2=>?_) o.dst,hE⟩
    match i with
    | 0=>simp at h1 h2;subst h1;subst h2;exact Zc3 _
    | 1=>simp at h1 h2;subst h1;subst h2;exact ZkE _
    | 2=>simp at h1 h2;subst h1;subst h2;exact .d _ _ _ rfl
    | n+3=>simp at h1
   | false=>
    have hlt:¬pos < s.size:=by simpa using hb.symm
    refine Sat.pure (ZG fun F ρ w a hR=>?_)
    obtain ⟨r,e1,e2,hh⟩:=geth hR
    refine ⟨.tuple #[.bool false],?_,.tu _ _ (by simp) fun i c v h1 h2=>?_⟩
    ·simp[execOp,h,e1,Instr.next,getObj,Sem.run,hh,hlt]
    ·match i with
     | 0=>simp at h1 h2;subst h1;subst h2;exact Zc3 _
     | n+1=>simp at h1
  ·exact Sat.fail
 ·exact Sat.fail
theorem Zxi {cl:Cl} {T:TypeId} {x:Operand} (h:o.op=.makeInterface T x):Sat (opA P cl o st) (OpOK P Mod o st):=by
 simp only[opA,h]
 have key:∀(y:AV),st.ev x=y→(∀ms,P.underlying T≠some (.interface ms))→(∃d,P.underlying T=some d)→OpOK P Mod o st (st.put o.dst (.ifc T y)):=by
  intro y hy hni ⟨dd,hd⟩
  refine ZG fun F ρ w a hR=>⟨.iface T (a.eval x),?_,.ifc _ _ _ (by rw[←hy];exact Zt hR x)⟩
  have hc:P.concrete T=true:=by
   unfold Program.concrete
   rw[hd]
   cases dd <;> first | rfl | exact absurd hd (hni _)
  simp[execOp,h,run_makeInterface w T _ hc]
 split
 ·exact Sat.fail
 ·rename_i dd t v hni hu hx
  exact Sat.pure (key _ hx (fun ms e=>by rw[hu] at e;cases e;exact hni _ rfl) ⟨dd,hu⟩)
 ·rename_i dd cs hni hu hx
  exact Sat.pure (key _ hx (fun ms e=>by rw[hu] at e;cases e;exact hni _ rfl) ⟨dd,hu⟩)
 ·exact Sat.fail
theorem ZvO {cl:Cl} {src dst:TypeId} {x:Operand} (h:o.op=.convert src dst x):Sat (opA P cl o st) (OpOK P Mod o st):=by
 simp only[opA,h]
 split
 ·rename_i d1 k k' n hs hdd hx
  refine Sat.pure (ZG fun F ρ w a hR=>⟨.int k (k.wrap n),?_,.d _ _ _ rfl⟩)
  have h1:=Zt hR x
  rw[hx] at h1
  simp[execOp,h,Zaq h1,convert,run_underlying hs,run_underlying hdd,Conv.intToInt]
 ·rename_i s hs hdd hx
  refine Sat.pure (ZG fun F ρ w a hR=>⟨.string s,?_,.d _ _ _ rfl⟩)
  have h1:=Zt hR x
  rw[hx] at h1
  simp[execOp,h,Zgz h1,convert,run_underlying hs,run_underlying hdd]
 ·rename_i e hs hdd
  split
  ·rename_i he
   split
   ·rename_i l is hx
    refine Sat.pure (ZG fun F ρ w a hR=>⟨.string (bytesText l),?_,.d _ _ _ rfl⟩)
    obtain ⟨A,c,hv,hA,hall⟩:=ZtO hR hx (Zt hR x)
    have hc:(convert src dst (a.eval x)).run P w=(Conv.bytesToString (.slice A l.length c)).run P w:=by
     rw[hv];exact run_convert_bytes_string w src dst e A l.length c hs he hdd
    have hb:(Conv.bytesToString (.slice A l.length c)).run P w=.ok (.string (bytesText l)) w:=by
     cases A with
     | none=>
      have:l=[]:=List.eq_nil_of_length_eq_zero (hA rfl)
      subst this
      rfl
     | some ad=>
      refine run_bytesToString w ad l.length c l ?_
      have:=run_loadCells_list (P:=P) w ad ((show List Int from l).map (Value.int .u8)) (fun j u hu=>by
       rw[List.getElem?_map] at hu
       cases hj:(show List Int from l)[j]? with
       | none=>rw[hj] at hu;cases hu
       | some n=>
        rw[hj] at hu
        cases hu
        obtain ⟨cs,h1,h2⟩:=hall ad rfl j n hj
        simp only[LRep] at h1
        subst h1
        have:=h2 0 _ rfl
        simpa[Ty.cells,Addr.add_add] using this)
      rw[List.length_map] at this
      exact this
    show (execOp a.eval o).run P w=_
    simp only[execOp,h]
    rw[Sem.run_bind,hc,hb]
    rfl
   ·exact Sat.fail
  ·exact Sat.fail
 ·exact Sat.fail
end
end Go.Ev
end

section
namespace Go.Ev
variable [Tabs] [Orgs]
open Go
section
variable {P:Program} {Mod:Nat→Prop} {o:Oper} {st:St} {F:Nat→Prop} {ρ:Rho} {w:World}
theorem Zn6 {T:TypeId} {z:AV} (h:zeroOne P T=some z):∃v,(P.info? T).bind (·.zero)=some v∧∀(F:Nat→Prop) (ρ:Rho) (w:World),ARep F ρ w st z v:=by
 unfold zeroOne at h
 split at h
 ·rename_i cs hz
  cases h
  refine ⟨_,hz,fun F ρ w=>.ag _ _ (by simp) fun i c v h1 h2=>(CsRep.ofVals cs.toList).2 i c v h1 (by simpa using h2)⟩
 ·rename_i v hz hz'
  cases h
  exact ⟨v,hz',fun F ρ w=>Zi2 v⟩
 ·cases h
theorem Zwa {cl:Cl} {x:Operand} {T0 T:TypeId} {ok:Bool} (h:o.op=.typeAssert x T0 T ok):Sat (opA P cl o st) (OpOK P Mod o st):=by
 simp only[opA,h]
 split
 ·exact Sat.fail
 ·exact Sat.fail
 ·rename_i dd t v hni hu hx
  have hrun:∀(w:World) (u:Value),(Instr.typeAssert (.iface t u) T0 T ok).run P w=(if t=T then (.ok (if ok then .tuple #[u,.bool true] else u) w) else
    (if ok then ((Go.zeroValue T).run P w).andThen fun z w'=>.ok (.tuple #[z,.bool false]) w' else (Instr.typeAssert (.iface t u) T0 T ok).run P w)):=by
   intro w u
   have hne:∀ms,dd≠ .interface ms:=fun ms e=>hni ms e
   by_cases ht:t=T
   ·rw[if_pos ht]
    cases dd <;> first | exact absurd rfl (hne _) | (simp[Instr.typeAssert,run_underlying hu,ht];done)
   ·rw[if_neg ht]
    cases ok with
    | true=>
     simp only[if_true]
     cases dd <;> first | exact absurd rfl (hne _) | (simp[Instr.typeAssert,run_underlying hu,ht];done)
    | false=>rfl
  refine Sat.cond (fun ht=>?_) fun ht=>?_
  ·have ht:=Nat.eq_of_beq_eq_true ht
   subst ht
   cases ok with
   | true=>
    refine Sat.pure (ZG fun F ρ w a hR=>?_)
    have h1:=Zt hR x
    rw[hx] at h1
    generalize hu':a.eval x=u at h1
    cases h1 with
    | ifc _ _ u' h2=>
     refine ⟨.tuple #[u',.bool true],?_,.tu _ _ (by simp) fun i c v h3 h4=>?_⟩
     ·simp[execOp,h,hu',hrun w u']
     ·match i with
      | 0=>simp at h3 h4;subst h3;subst h4;exact h2
      | 1=>simp at h3 h4;subst h3;subst h4;exact Zc3 _
      | n+2=>simp at h3
   | false=>
    refine Sat.pure (ZG fun F ρ w a hR=>?_)
    have h1:=Zt hR x
    rw[hx] at h1
    generalize hu':a.eval x=u at h1
    cases h1 with
    | ifc _ _ u' h2=>exact ⟨u',by simp[execOp,h,hu',hrun w u'],h2⟩
  ·have ht:t≠T:=fun e=>by subst e;simp at ht
   refine Sat.cond (fun hok=>?_) fun _=>Sat.fail
   subst hok
   split
   ·rename_i z hz
    obtain ⟨zv,hzv,hzr⟩:=Zn6 (st:=st) hz
    refine Sat.pure (ZG fun F ρ w a hR=>?_)
    have h1:=Zt hR x
    rw[hx] at h1
    generalize hu':a.eval x=u at h1
    cases h1 with
    | ifc _ _ u' h2=>
     refine ⟨.tuple #[zv,.bool false],?_,.tu _ _ (by simp) fun i c v h3 h4=>?_⟩
     ·simp[execOp,h,hu',hrun w u',ht,Zhz hzv]
     ·match i with
      | 0=>simp at h3 h4;subst h3;subst h4;exact hzr _ _ _
      | 1=>simp at h3 h4;subst h3;subst h4;exact Zc3 _
      | n+2=>simp at h3
   ·exact Sat.fail
 ·exact Sat.fail
theorem Zyu {a b:ByteArray} (h:(a==b)=true):a=b:=by
 rw[beq_toListBytes,beq_iff_eq,ByteArray.toList_eq,ByteArray.toList_eq] at h
 obtain ⟨⟨x⟩⟩:=a
 obtain ⟨⟨y⟩⟩:=b
 simp only at h
 rw[h]
theorem ZvK {cl:Cl} {T:TypeId} (h:o.op=.makeMap T none):Sat (opA P cl o st) (OpOK P Mod o st):=by
 simp only[opA,h]
 split
 ·rename_i K V hu
  split
  ·rename_i kt vt h1 h2
   refine Sat.cond (fun hl=>?_) fun _=>Sat.fail
   rw[Bool.and_eq_true] at hl
   refine Zie fun d hd=>Zu0 hd (ob:=fun _ _=>default) (fun _ _ _ e=>by cases e) fun F ρ w a hR=>?_
   refine ⟨w,.map #[] 0,.map (some w.heap.size),rfl,rfl,rfl,rfl,?_,fun b hb=>by simpa[Go.Ev.hb] using hb,rfl,⟨_,_,_,rfl,Zb4 _ _,hl.1,hl.2,[],.refl _,List.nodup_nil,rfl,fun b hb=>by simp at hb,List.nodup_nil⟩,.mp _ _ _ ZcJ rfl fun o' ho=>by simp only[updR,if_true]⟩
   simp[execOp,h,Instr.makeMap]
  ·exact Sat.fail
 ·exact Sat.fail
theorem Zso {t:Ty} (hl:leafTy t=true) {x:El t} {v:Value} (h:LRep F w t x [v]):v=leafV t x:=by
 cases t <;> simp only[leafTy] at hl <;> first | (cases hl;done) | (simp only[LRep,List.cons.injEq,and_true] at h;exact h)
theorem Zvm {t:Ty} (hl:leafTy t=true) (x:El t):ARep F ρ w st (.d t x) (leafV t x):=by
 cases t <;> simp only[leafTy] at hl <;> first | (cases hl;done) | exact .d _ _ _ rfl
theorem Ztj {kt:Ty} {x:AV} {k:El kt} (h:asKey kt x=some k) {v:Value} (hv:ARep F ρ w st x v):leafTy kt=true∧v=leafV kt k:=by
 unfold asKey at h
 split at h
 ·rename_i hl
  exact ⟨hl,Zso hl (Za4 h (.cons hv .nil))⟩
 ·cases h
theorem ZqT {K:TypeId} {kt vt:Ty} {d:TypeDesc} (hd:P.underlying K=some d) (hk:leafUnder P K kt=true) (key:El kt):∀(l:List (El kt×El vt)) (es:List MapEntry) (n:Nat),
  es.map (fun e=>(e.key,e.val))=l.map (fun x=>(leafV kt x.1,leafV vt x.2))→
  (mget key l=none∧Instr.findNow d (leafV kt key) es n=some none∧∀v:El vt,mput key v l=l++[(key,v)])∨
  (∃u i e,mget key l=some u∧Instr.findNow d (leafV kt key) es n=some (some (n+i,leafV vt u))∧es[i]? =some e∧e.key=leafV kt key∧
   ∀(v:El vt) (e':MapEntry),e'.key=leafV kt key→e'.val=leafV vt v→(es.set i e').map (fun e=>(e.key,e.val))=(mput key v l).map (fun x=>(leafV kt x.1,leafV vt x.2)))
 | [],es,n,h=>by
  have:es=[]:=by cases es <;> simp_all
  subst this
  exact .inl ⟨rfl,rfl,fun v=>rfl⟩
 | (k,u) :: l,[],n,h=>by simp at h
 | (k,u) :: l,e :: es,n,h=>by
  simp only[List.map_cons,List.cons.injEq,Prod.mk.injEq] at h
  obtain ⟨⟨h1,h2⟩,h3⟩:=h
  have same:Instr.sameNow d (leafV kt key) (leafV kt k)=some (keyEq kt key k):=by
   unfold leafUnder at hk
   rw[hd] at hk
   cases d <;> cases kt <;> first | (simp at hk;done) | skip
   ·rfl
   ·simp only[leafV,Instr.sameNow,keyEq,if_true]
   ·rfl
  by_cases hke:keyEq kt key k=true
  ·right
   have hkk:leafV kt key=leafV kt k:=by
    unfold leafUnder at hk
    rw[hd] at hk
    cases d <;> cases kt <;> first | (simp at hk;done) | skip
    ·simp only[keyEq,beq_iff_eq] at hke
     simp only[leafV]
     exact congrArg Value.bool hke
    ·simp only[keyEq,beq_iff_eq] at hke
     simp only[leafV]
     exact congrArg _ hke
    ·simp only[keyEq] at hke
     have:=Zyu hke
     simp only[leafV]
     exact congrArg Value.string this
   refine ⟨u,0,e,by simp[mget,hke],?_,rfl,by rw[h1,hkk],fun v e' h4 h5=>?_⟩
   ·rw[Instr.findNow,h1,same,hke]
    simp[h2]
   ·simp only[List.set_cons_zero,List.map_cons,mput,hke,cond_true,h4,h5,h3]
  ·have hke:keyEq kt key k=false:=by simpa using hke
   have hstep:Instr.findNow d (leafV kt key) (e :: es) n=Instr.findNow d (leafV kt key) es (n+1):=by
    rw[Instr.findNow,h1,same,hke]
   rcases ZqT hd hk key l es (n+1) h3 with ⟨a1,a2,a3⟩ | ⟨u',i,e',a1,a2,a3,a4,a5⟩
   ·exact .inl ⟨by simp[mget,hke,a1],by rw[hstep,a2],fun v=>by simp[mput,hke,a3 v]⟩
   ·refine .inr ⟨u',i+1,e',by simp[mget,hke,a1],by rw[hstep,a2];congr 3;omega,by simpa using a3,a4,fun v e'' h4 h5=>?_⟩
    simp only[List.set_cons_succ,List.map_cons,mput,hke,cond_false,h1,h2,a5 v e'' h4 h5]
theorem Zl3 {K:TypeId} {kt:Ty} {key:El kt} {d:TypeDesc} (hd:P.underlying K=some d) (hk:leafUnder P K kt=true) (b:Bool):(Instr.checkKey b 10000 K (leafV kt key)).run P w=.ok () w:=by
 unfold leafUnder at hk
 rw[hd] at hk
 rw[show (10000:Nat)=9999+1 from rfl,Instr.checkKey,Sem.run_bind,run_underlying hd]
 simp only[Result.andThen_ok]
 cases d <;> cases kt <;> first | (simp at hk;done) | rfl
theorem Zij {K:TypeId} {d:TypeDesc} (hd:P.underlying K=some d) {k:Value} {es:List MapEntry} {r:Option (Nat×Value)} (h:Instr.findNow d k es 0=some r):(Instr.findKey K k es).run P w=.ok r w:=by
 simp only[Instr.findKey,Sem.run_bind,run_underlying hd,Result.andThen_ok,h]
 rfl
theorem Zkl {K:TypeId} {kt:Ty} (hk:leafUnder P K kt=true):∃d,P.underlying K=some d:=by
 unfold leafUnder at hk
 cases hd:P.underlying K with
 | none=>rw[hd] at hk;simp at hk
 | some d=>exact ⟨d,rfl⟩
theorem Zem {kt:Ty} (h:leafTy kt=true) {a b:El kt} :keyEq kt a b=true↔a=b:=by
 cases kt <;> simp only[leafTy] at h <;> first | (cases h;done) | skip
 ·show ((show Int from a)==b)=true↔a=b
  exact beq_iff_eq
 ·show ((show Bool from a)==b)=true↔a=b
  exact beq_iff_eq
 ·constructor
  ·exact fun h=>Zyu h
  ·rintro rfl
   show ((show ByteArray from a).data==(show ByteArray from a).data)=true
   exact beq_self_eq_true _
theorem ZoI {kt:Ty} (h:leafTy kt=true) {V:Type} {k:El kt} :∀ {l:List (El kt×V)},k∉l.map Prod.fst→mget k l=none
 | [],_=>rfl
 | (x,u) :: r,hk=>by
  simp only[List.map_cons,List.mem_cons,not_or] at hk
  have:keyEq kt k x=false:=by rw[←Bool.not_eq_true,Zem h];exact hk.1
  simp only[mget,this,cond_false]
  exact ZoI h hk.2
theorem Zq7 {kt:Ty} (h:leafTy kt=true) {V:Type} {k:El kt} {v:V} :∀ {l:List (El kt×V)},(l.map Prod.fst).Nodup→(k,v)∈l→mget k l=some v
 | (x,u) :: r,hn,hm=>by
  simp only[List.map_cons,List.nodup_cons] at hn
  rcases List.mem_cons.1 hm with e | hm
  ·cases e
   simp only[mget,(Zem h).2 rfl,cond_true]
  ·have hne:¬k=x:=fun e=>hn.1 (e▸List.mem_map.2 ⟨(k,v),hm,rfl⟩)
   have:keyEq kt k x=false:=by rw[←Bool.not_eq_true,Zem h];exact hne
   simp only[mget,this,cond_false]
   exact Zq7 h hn.2 hm
theorem ZvY {kt:Ty} (h:leafTy kt=true) {V:Type} (k:El kt) {l0 l:List (El kt×V)} (hp:l0.Perm l) (hn:(l.map Prod.fst).Nodup):mget k l0=mget k l:=by
 have hn0:(l0.map Prod.fst).Nodup:=(hp.map Prod.fst).nodup_iff.2 hn
 by_cases hk:k∈l.map Prod.fst
 ·obtain ⟨⟨k',v⟩,hm,rfl⟩:=List.mem_map.1 hk
  rw[Zq7 h hn hm,Zq7 h hn0 (hp.mem_iff.2 hm)]
 ·rw[ZoI h hk,ZoI h fun h0=>hk ((hp.map Prod.fst).mem_iff.1 h0)]
theorem Znp {kt:Ty} (h:leafTy kt=true) {V:Type} {k:El kt} {v:V} :∀ {l:List (El kt×V)},k∉l.map Prod.fst→mput k v l=l++[(k,v)]
 | [],_=>rfl
 | (x,u) :: r,hk=>by
  simp only[List.map_cons,List.mem_cons,not_or] at hk
  have:keyEq kt k x=false:=by rw[←Bool.not_eq_true,Zem h];exact hk.1
  simp only[mput,this,cond_false,List.cons_append]
  rw[Znp h hk.2]
theorem ZtI {kt:Ty} (h:leafTy kt=true) {V:Type} {k:El kt} {v:V} :∀ {l:List (El kt×V)},k∈l.map Prod.fst→(mput k v l).map Prod.fst=l.map Prod.fst
 | (x,u) :: r,hk=>by
  by_cases he:k=x
  ·subst he
   simp only[mput,(Zem h).2 rfl,cond_true,List.map_cons]
  ·have:keyEq kt k x=false:=by rw[←Bool.not_eq_true,Zem h];exact he
   simp only[List.map_cons,List.mem_cons] at hk
   simp only[mput,this,cond_false,List.map_cons,ZtI h (hk.resolve_left he)]
theorem Zvy {kt:Ty} (h:leafTy kt=true) {V:Type} {k:El kt} {v:V} {l:List (El kt×V)} (hn:(l.map Prod.fst).Nodup):((mput k v l).map Prod.fst).Nodup:=by
 by_cases hk:k∈l.map Prod.fst
 ·rw[ZtI h hk];exact hn
 ·rw[Znp h hk,List.map_append]
  exact List.nodup_append.2 ⟨hn,by simp,fun a ha b hb e=>by simp at hb;subst hb;exact hk (e▸ha)⟩
theorem Zme {kt:Ty} (h:leafTy kt=true) {V:Type} {k:El kt} {v u:V} :∀ {l:List (El kt×V)},(l.map Prod.fst).Nodup→(k,u)∈l→∃a b,l=a++(k,u) :: b∧mput k v l=a++(k,v) :: b
 | (x,w) :: r,hn,hm=>by
  simp only[List.map_cons,List.nodup_cons] at hn
  rcases List.mem_cons.1 hm with e | hm
  ·cases e
   exact ⟨[],r,rfl,by simp only[mput,(Zem h).2 rfl,cond_true,List.nil_append]⟩
  ·have hne:¬k=x:=fun e=>hn.1 (e▸List.mem_map.2 ⟨(k,u),hm,rfl⟩)
   have:keyEq kt k x=false:=by rw[←Bool.not_eq_true,Zem h];exact hne
   obtain ⟨a,b,h1,h2⟩:=Zme h (v:=v) hn.2 hm
   exact ⟨(x,w) :: a,b,by rw[h1];rfl,by simp only[mput,this,cond_false,h2];rfl⟩
theorem Zv1 {kt:Ty} (h:leafTy kt=true) {V:Type} (k:El kt) (v:V) {l0 l:List (El kt×V)} (hp:l0.Perm l) (hn:(l.map Prod.fst).Nodup):(mput k v l0).Perm (mput k v l):=by
 have hn0:(l0.map Prod.fst).Nodup:=(hp.map Prod.fst).nodup_iff.2 hn
 by_cases hk:k∈l.map Prod.fst
 ·obtain ⟨⟨k',u⟩,hm,rfl⟩:=List.mem_map.1 hk
  obtain ⟨a,b,e1,e2⟩:=Zme h (v:=v) hn hm
  obtain ⟨a0,b0,f1,f2⟩:=Zme h (v:=v) hn0 (hp.mem_iff.2 hm)
  rw[e2,f2]
  rw[e1,f1] at hp
  have hab:(a0++b0).Perm (a++b):=(List.perm_cons _).1 (List.perm_middle.symm.trans (hp.trans List.perm_middle))
  exact List.perm_middle.trans ((List.Perm.cons _ hab).trans List.perm_middle.symm)
 ·rw[Znp h hk,Znp h fun h0=>hk ((hp.map Prod.fst).mem_iff.1 h0)]
  exact hp.append_right _
theorem Zp2 {F:Nat→Prop} {ρ:Rho} {w:World} {a:Act} {x:Operand} (hR:R Mod F ρ w st a.tmps) {id ver:Nat} (hx:st.ev x=.mp id ver) {kt vt:Ty} {l:List (El kt×El vt)} (ho:st.obj id ver=some (.map kt vt l)):
  ∃r es clock,a.eval x=.map (some r)∧ρ id=.map (some r)∧w.heap[r]? =some (.map es clock)∧∃l0:List (El kt×El vt),l0.Perm l∧(l.map Prod.fst).Nodup∧es.toList.map (fun e=>(e.key,e.val))=l0.map (fun x=>(leafV kt x.1,leafV vt x.2))∧Stamps es clock:=by
 have h1:=Zt hR x
 rw[hx] at h1
 generalize hu:a.eval x=u at h1
 cases h1 with
 | mp _ _ _ hbn h2 hp=>
  obtain ⟨r,es,clock,hρ,hh,_,_,hes⟩:=hR.obs id ver _ (Zw.1 ho)
  exact ⟨r,es,clock,(hp _ ho).trans hρ,hρ,hh,hes⟩
theorem Zwj {cl:Cl} {T:TypeId} {x k:Operand} {ok:Bool} (h:o.op=.lookup T x k ok):Sat (opA P cl o st) (OpOK P Mod o st):=by
 simp only[opA,h]
 split
 ·rename_i K V id ver hu hx
  split
  ·rename_i kt vt l ho
   split
   ·rename_i key z hkey hz
    refine Sat.cond (fun hl=>?_) fun _=>Sat.fail
    rw[Bool.and_eq_true] at hl
    obtain ⟨hlv,hlk⟩:=hl
    obtain ⟨d,hd⟩:=Zkl hlk
    cases hz1:zeroOne P V with
    | none=>rw[hz1] at hz;cases hz
    | some za=>
     rw[hz1] at hz
     simp only[Option.bind_some] at hz
     obtain ⟨zv,hzv,hzr⟩:=Zn6 (st:=st) hz1
     have hzl:zv=leafV vt z:=Zso hlv (Za4 hz (.cons (hzr (fun _=>False) (fun _=>undef) default) .nil))
     have hrun:∀ {F ρ w} {a:Act},R Mod F ρ w st a.tmps→(execOp a.eval o).run P w=.ok (.value (if ok then .tuple #[leafV vt ((mget key l).getD z),.bool (mget key l).isSome] else leafV vt ((mget key l).getD z))) w:=by
      intro F ρ w a hR
      obtain ⟨r,es,clock,e1,e2,hh,l0,hperm,hnd,hes,_⟩:=Zp2 hR hx ho
      obtain ⟨hlkt,e3⟩:=Ztj hkey (Zt hR k)
      rw[←ZvY hlkt key hperm hnd]
      have hck:=Zl3 (w:=w) (key:=key) hd hlk es.isEmpty
      have hzrun:(Go.zeroValue V).run P w=.ok (leafV vt z) w:=by rw[←hzl];exact Zhz hzv
      rcases ZqT hd hlk key l0 es.toList 0 hes with ⟨a1,a2,_⟩ | ⟨u,i,e,a1,a2,_⟩
      ·have hfk:=Zij (P:=P) (w:=w) hd a2
       simp only[execOp,h,e1,e3,Instr.lookup,Sem.run_bind,run_underlying hu,Result.andThen_ok]
       simp only[getObj,Sem.run,hh,Sem.run_bind,Result.andThen_ok,Sem.run_pure,hck,hfk,hzrun,a1]
       cases ok <;> rfl
      ·have hfk:=Zij (P:=P) (w:=w) hd a2
       simp only[execOp,h,e1,e3,Instr.lookup,Sem.run_bind,run_underlying hu,Result.andThen_ok]
       simp only[getObj,Sem.run,hh,Sem.run_bind,Result.andThen_ok,Sem.run_pure,hck,hfk,a1]
       cases ok <;> rfl
     cases ok with
     | true=>
      simp only[cond_true]
      have tup:∀(v:El vt) (b:Bool),(mget key l).getD z=v→(mget key l).isSome=b→OpOK P Mod o st (st.put o.dst (.tu [.d vt v,mkB b])):=by
       intro v b hv hb
       refine ZG fun F ρ w a hR=>⟨_,hrun hR,?_⟩
       simp only[if_true,hv,hb]
       refine .tu _ _ (by simp) fun i c u h3 h4=>?_
       match i with
       | 0=>simp at h3 h4;subst h3;subst h4;exact Zvm hlv v
       | 1=>simp at h3 h4;subst h3;subst h4;exact Zc3 _
       | n+2=>simp at h3
      cases hm:mget key l with
      | none=>exact Sat.pure (tup z false (by rw[hm];rfl) (by rw[hm];rfl))
      | some v=>exact Sat.pure (tup v true (by rw[hm];rfl) (by rw[hm];rfl))
     | false=>
      simp only[cond_false]
      exact Sat.pure (ZG fun F ρ w a hR=>⟨_,hrun hR,Zvm hlv _⟩)
   ·exact Sat.fail
  ·exact Sat.fail
 ·exact Sat.fail
end
end Go.Ev
end

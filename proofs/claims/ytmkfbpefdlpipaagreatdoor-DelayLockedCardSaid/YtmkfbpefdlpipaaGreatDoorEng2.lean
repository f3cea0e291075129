/- Part of the proof of: In the programs that the book makes, with each instruction that writes locked, there is no delay; nor is there one where one of two threads alone touches memory: for every input the law answers true. -/
import Derived.Carry
import Derived.ChangeArms
import Derived.ChangeSame
import Derived.Deep.DeepHandedRow
import Derived.Maps.RangeRun
import Derived.OpenShut
import Derived.Sort.OwnSortedInts
import Derived.WideKeyArgs
import Derived.Test.YtmkfbpefdlpipaaGreatDoorEng1
set_option maxRecDepth 100000
set_option linter.unusedSectionVars false
set_option linter.unusedVariables false
set_option linter.unusedSimpArgs false
section
namespace Go.Ev
variable [Tabs]
open Go
theorem Det.makeObj {st:St} {d:Option Nat} {o:Obj} {ref:Id→Nat→AV} :Det (makeObj st d o ref):=by
 unfold Go.Ev.makeObj
 split
 ·exact Det.pure _
 ·exact Det.fail
theorem Det.none {α:Type} :Det (fun _=>none:M α):=.inl fun _=>rfl
theorem Det.appendB {st:St} {d:Nat} {E:TypeId} {t:Ty} {bytes:Nat} {s:AV} {ys:List (El t)} :Det (appendB st d E t bytes s ys):=by
 unfold Go.Ev.appendB
 repeat' (first
  | exact Det.pure _
  | exact Det.fail
  | exact Det.guard (Det.pure _)
  | split)
theorem Det.appendA {P:Program} {st:St} {d:Nat} {T:TypeId} {s x:AV} :Det (appendA P st d T s x):=by
 unfold Go.Ev.appendA
 repeat' (first
  | exact Det.appendB
  | exact Det.fail
  | split)
theorem Det.appendZ {P:Program} {st:St} {d:Nat} {T:TypeId} {s:AV} {n:Int} :Det (appendZ P st d T s n):=by
 unfold Go.Ev.appendZ
 repeat' (first
  | exact Det.guard Det.appendB
  | exact Det.fail
  | split)
theorem Det.callA {cl:Cl} (hcl:DetC cl) {f:FuncId} {args:List AV} {d:Option Nat} {st:St} :Det (callA cl f args d st):=by
 unfold Go.Ev.callA
 split
 ·exact Det.fail
 ·refine Det.cond (Det.bind (hcl _ _) fun a=>?_) Det.fail
  repeat' (first
   | exact Det.pure _
   | exact Det.fail
   | split)
theorem Det.callX {cl:Cl} (hcl:DetC cl) {f:FuncId} {args:List AV} {d:Option Nat} {st:St} :Det (callX cl f args d st):=by
 unfold Go.Ev.callX
 split
 ·exact Det.callA fun f xs=>hcl f _
 ·exact Det.callA hcl
theorem Det.opt {st:St} {d:Option Nat} (x:Option AV):Det (match x with | Option.some v=>(M.pure (st.put d v):M St) | Option.none=>Go.Ev.fail):=by
 cases x
 ·exact Det.fail
 ·exact Det.pure _
theorem Det.elim {β:Type} {b:Option β} {x:St} {f:β→St} :Det (fun c=>Option.elim b ((M.pure x:M St) c) (fun v=>(M.pure (f v):M St) c)):=by
 cases b
 ·exact Det.pure _
 ·exact Det.pure _
theorem ZES {P:Program} {cl:Cl} (hcl:DetC cl) (o:Oper) (st:St):Det (opA P cl o st):=by
 unfold opA
 repeat' (first
  | exact Det.pure _
  | exact Det.fail
  | exact Det.opt _
  | exact Det.elim
  | exact Det.makeObj
  | exact Det.appendA
  | exact Det.appendZ
  | exact Det.callA hcl
  | exact Det.callX hcl
  | (refine Det.bind (by first | exact Det.toI | exact Det.toB | exact Det.branch | exact Det.unA | exact Det.binA | exact Det.lenA | exact Det.boundI | exact Det.caseNat | exact Det.upto) fun _=>?_)
  | exact Det.guard (Det.pure _)
  | exact Det.guard Det.makeObj
  | (refine Det.cond ?_ ?_)
  | split)
theorem ZmH {op:Oper→St→M St} (hop:∀o st,Det (op o st)) {ops:Array Oper} :∀(l:List Oper) (st:St),Det (opsG op ops l st)
 | [],st=>Det.pure _
 | o :: r,st=>by
  unfold opsG
  split
  ·exact Det.bind (hop o st) fun st=>ZmH hop r st
  ·split
   ·exact Det.fail
   ·split
    ·refine Det.bind Det.branch fun b=>?_
     simp only
     split
     ·exact Det.bind (hop o _) fun st=>ZmH hop r st
     ·exact Det.bind (hop o _) fun st=>ZmH hop r st
     ·exact ZmH hop r _
    ·exact Det.cond (ZmH hop r _) Det.fail
    ·exact Det.fail
theorem ZDS {P:Program} {cl:Cl} (hcl:DetC cl) {ops:Array Oper} (l:List Oper) (st:St):Det (opsA P cl ops l st):=ZmH (ZES hcl) l st
theorem Zvc {P:Program} {cl:Cl} (hcl:DetC cl) (o:Oper) (st:St):Det (opD P cl o st):=by
 rcases ZDr (P:=P) hcl o st with h | ⟨v,h⟩
 ·exact .inl h
 ·exact .inr ⟨_,h⟩
theorem Zm2 {P:Program} {cl:Cl} (hcl:DetC cl) {ops:Array Oper} :∀(l:List Oper) (st:St),Det (opsD P cl ops l st)
 | [],st=>Det.pure _
 | o :: r,st=>by
  unfold opsD
  split
  ·exact Det.bind (Zvc hcl o st) fun st=>Zm2 hcl r st
  ·split
   ·exact Det.fail
   ·split
    ·refine Det.bind Det.branch fun b=>?_
     simp only
     split
     ·exact Det.bind (Zvc hcl o _) fun st=>Zm2 hcl r st
     ·exact Det.bind (Zvc hcl o _) fun st=>Zm2 hcl r st
     ·exact Zm2 hcl r _
    ·exact Det.cond (Zm2 hcl r _) Det.fail
    ·exact Det.fail
theorem Zwt {P:Program} {cl:Cl} (hcl:DetC cl) (o:Oper) (st:St):Det (opE P cl o st):=by
 rcases ZDu (P:=P) hcl o st with h | ⟨u,_,h⟩
 ·exact .inl h
 ·exact .inr ⟨_,h⟩
theorem ZmX {P:Program} {cl:Cl} (hcl:DetC cl) {ops:Array Oper} :∀(l:List Oper) (st:St) (log:LogE),Det (opsE P cl ops l st log)
 | [],st,log=>Det.pure _
 | o :: r,st,log=>by
  unfold opsE
  split
  ·exact Det.bind (Zwt hcl o st) fun st'=>ZmX hcl r st' _
  ·split
   ·exact Det.fail
   ·split
    ·refine Det.bind Det.branch fun b=>?_
     simp only
     split
     ·exact Det.bind (Zwt hcl o _) fun st'=>ZmX hcl r st' _
     ·exact Det.bind (Zwt hcl o _) fun st'=>ZmX hcl r st' _
     ·exact ZmX hcl r _ _
    ·exact Det.cond (ZmX hcl r _ _) Det.fail
    ·exact Det.fail
theorem ZEh {P:Program} {cl:Cl} (hcl:DetC cl) {ops:Array Oper} {st:St} :Det (runE P cl ops st):=
 Det.bind (ZmX hcl _ st []) fun p=>Det.cond (Det.pure _) Det.fail
def DK (g:(Ans→Option Ans)→Option Ans):Prop:=(∀f,g f=none)∨∃a,∀f,g f=f a
theorem DK.none:DK fun _=>Option.none:=.inl fun _=>rfl
theorem DK.of {m:M St} (h:Det m) {k:(Ans→Option Ans)→Kt} (hk:∀st,DK fun f=>k f st):DK fun f=>m (k f):=by
 rcases h with h | ⟨st,h⟩
 ·exact .inl fun f=>h _
 ·rcases hk st with h' | ⟨a,h'⟩
  ·exact .inl fun f=>(h _).trans (h' f)
  ·exact .inr ⟨a,fun f=>(h _).trans (h' f)⟩
theorem ZpR {P:Program} {cl:Cl} (hcl:DetC cl):∀(c:Code) (i:Nat) (k:(Ans→Option Ans)→Kt) (x:(Ans→Option Ans)→Nat→Kt) (r:(Ans→Option Ans)→Kt),(∀st,DK fun f=>k f st)→(∀j st,DK fun f=>x f j st)→(∀st,DK fun f=>r f st)→
  ∀st,DK fun f=>evC P cl [] (fun _ _=>none) c i (k f) (x f) (r f) st
 |.skip,i,k,x,r,hk,hx,hr,st=>by simpa only[evC] using hk st
 |.region id ops draw,i,k,x,r,hk,hx,hr,st=>by
  cases draw with
  | false=>simpa only[evC,cond_false,labOf] using DK.of (ZDS hcl ops.toList st) hk
  | true=>
   simp only[evC,cond_true]
   cases (P.follows .mixedOrders&&drawOK ops) with
   | false=>exact DK.none
   | true=>
    simp only[cond_true]
    cases ops.toList.all (isD P) with
    | true=>exact DK.of (Zm2 hcl ops.toList st) hk
    | false=>exact DK.of (ZEh hcl) hk
 |.seq a b,i,k,x,r,hk,hx,hr,st=>by
  simp only[evC,labOf]
  exact ZpR hcl a (i+1) (fun f=>evC P cl [] (fun _ _=>none) b (i+1+nn a) (k f) (x f) (r f)) x r (ZpR hcl b _ k x r hk hx hr) hx hr st
 |.cond c a b,i,k,x,r,hk,hx,hr,st=>by
  simp only[evC]
  rcases (Det.bind Det.toB fun b=>Det.branch:Det (M.bind (toB (st.ev c)) branch)) with h | ⟨t,h⟩
  ·exact .inl fun f=>h _
  ·cases t with
   | true=>
    rcases ZpR hcl a i k x r hk hx hr st with h' | ⟨y,h'⟩
    ·exact .inl fun f=>(h _).trans (h' f)
    ·exact .inr ⟨y,fun f=>(h _).trans (h' f)⟩
   | false=>
    rcases ZpR hcl b (i+nn a) k x r hk hx hr st with h' | ⟨y,h'⟩
    ·exact .inl fun f=>(h _).trans (h' f)
    ·exact .inr ⟨y,fun f=>(h _).trans (h' f)⟩
 |.block id c,i,k,x,r,hk,hx,hr,st=>by
  simp only[evC]
  exact ZpR hcl c i k (fun f j st=>bif Nat.beq j id then k f st else x f j st) r hk (fun j st=>by
   cases Nat.beq j id
   ·exact hx j st
   ·exact hk st) hr st
 |.loop c,i,k,x,r,hk,hx,hr,st=>by simpa only[evC,labOf] using DK.none
 |.exit id,i,k,x,r,hk,hx,hr,st=>by simpa only[evC] using hx id st
 |.ret,i,k,x,r,hk,hx,hr,st=>by simpa only[evC] using hr st
 |.rangeFunc _ _ _ _,i,k,x,r,hk,hx,hr,st=>by simpa only[evC] using DK.none
 |.scope _,i,k,x,r,hk,hx,hr,st=>by simpa only[evC] using DK.none
 |.label _,i,k,x,r,hk,hx,hr,st=>by simpa only[evC] using DK.none
 |.refuse _,i,k,x,r,hk,hx,hr,st=>by simpa only[evC] using DK.none
 |.goto _,i,k,x,r,hk,hx,hr,st=>by simpa only[evC] using DK.none
def entE (P:Program) (t:Tbl) (fn:Func) (c:Code):Run:=fun xs f=>
 match initA ⟨[],[]⟩ 0 xs with
 | none=>none
 | some (vs,st)=>evC P (clOf t) [] (fun _ _=>none) c 0 (fun st=>(finA P [] fn xs st).bind f) (fun _ _=>none) (fun st=>(finA P [] fn xs st).bind f) { st with tm:=vs++tops (fn.ntmps - vs.length) }
theorem ZAu {P:Program} {t:Tbl} {f:FuncId} {fn:Func} {c:Code} (ht:∀p∈t,EntOK P p.1 p.2) (hf:P.funcs[f]? =some fn) (hname:(fn.name== "runtime.NumGoroutine")=false) (hb:fn.body=some c)
  (hnd:∀xs,nodupB ((procsF P (clOf t) [] fn c xs).map (·.1))=true):EntOK P f (entE P t fn c):=by
 obtain ⟨h1,h2⟩:=Zoq ht
 refine ⟨⟨fn,c,hf,hname,hb⟩,fun xs=>?_⟩
 have hfin:∀st,DK fun f=>(finA P [] fn xs st).bind f:=fun st=>by
  cases h:finA P [] fn xs st with
  | none=>exact .inl fun _=>rfl
  | some a=>exact .inr ⟨a,fun _=>rfl⟩
 have hd:DK (entE P t fn c xs):=by
  unfold entE
  cases hi:initA ⟨[],[]⟩ 0 xs with
  | none=>exact DK.none
  | some p=>exact ZpR h2 c 0 (fun f st=>(finA P [] fn xs st).bind f) (fun _ _ _=>none) _ hfin (fun _ _=>DK.none) hfin _
 have he:entE P t fn c xs some=evF P (clOf t) [] fn 0 xs:=by
  unfold entE evF
  rw[hb]
  simp only[entryA]
  have hs:(fun st=>(finA P [] fn xs st).bind some)=finA P [] fn xs:=by funext st;cases finA P [] fn xs st <;> rfl
  cases initA ⟨[],[]⟩ 0 xs with
  | none=>rfl
  | some p=>simp only[hs];rfl
 refine ⟨hd,fun k y hk=>?_⟩
 rcases hd with hn | ⟨a,ha⟩
 ·rw[hn] at hk;cases hk
 ·rw[ha] at he hk
  exact ⟨a,ZoI h1 h2 hf hb (hnd xs) he.symm,hk⟩
end Go.Ev
end

section
namespace Go.Ev
variable [Tabs]
open Go
inductive JT (J α:Type) where
 | leaf (a:α)
 | no
 | jmp (j:J)
 | br (c:Bool) (t f:JT J α)
def JT.run {J α:Type} (k:α→Option Ans) (g:J→Option Ans):JT J α→Option Ans
 |.leaf a=>k a
 |.no=>none
 |.jmp j=>g j
 |.br c t f=>bif c then t.run k g else f.run k g
inductive Goes {J α:Type} (T:J→JT J α):JT J α→α→Prop
 | leaf {a:α} :Goes T (.leaf a) a
 | jmp {j:J} {a:α} :Goes T (T j) a→Goes T (.jmp j) a
 | brt {t f:JT J α} {a:α} :Goes T t a→Goes T (.br true t f) a
 | brf {t f:JT J α} {a:α} :Goes T f a→Goes T (.br false t f) a
section
variable {J α:Type} {T:J→JT J α}
omit [Tabs]
theorem Z9 {a b:α} :Goes T (.leaf b) a↔b=a:=⟨fun h=>(by cases h;rfl),fun h=>h▸ .leaf⟩
theorem Zn {j:J} {a:α} :Goes T (.jmp j) a↔Goes T (T j) a:=⟨fun h=>(by cases h;assumption),.jmp⟩
theorem Zf {c:Bool} {t f:JT J α} {a:α} :Goes T (.br c t f) a↔if c=true then Goes T t a else Goes T f a:=by
 cases c
 ·exact ⟨fun h=>(by cases h;simpa),fun h=>.brf (by simpa using h)⟩
 ·exact ⟨fun h=>(by cases h;simpa),fun h=>.brt (by simpa using h)⟩
theorem Goes.br {c:Bool} {t f:JT J α} {a b:α} (ht:Goes T t a) (hf:Goes T f b):Goes T (.br c t f) (bif c then a else b):=by
 cases c
 ·exact .brf hf
 ·exact .brt ht
theorem Goes.brk {c:Bool} {t f:JT J α} {a b:α} {k1 k2:Bool} (hk:(bif c then k1 else k2)=true) (ht:k1=true→Goes T t a) (hf:k2=true→Goes T f b):Goes T (.br c t f) (bif c then a else b):=by
 cases c
 ·exact .brf (hf hk)
 ·exact .brt (ht hk)
theorem Goes.nok {a:α} (hk:false=true):Goes T .no a:=by cases hk
end
section
variable {P:Program} {cl:Cl} {tb:Tb} {fn:Func} {c:Code} {J α:Type} {T:J→JT J α} {ps:List (Nat×(Lt→Kt))} {S:J→Nat×St} {K:α→Ans} {args:List AV}
omit [Tabs]
theorem ZA3 (hl:∀L j,procOf ps (S j).1 L (S j).2=(T j).run (fun v=>some (K v)) fun j=>L (S j).1 (S j).2) {d:JT J α} {a:α} (h:Goes T d a):
  ∃n,d.run (fun v=>some (K v)) (fun j=>Ls ps n (S j).1 (S j).2)=some (K a):=by
 induction h with
 | leaf=>exact ⟨0,rfl⟩
 | @jmp j a _ ih=>
  obtain ⟨n,hn⟩:=ih
  refine ⟨n+1,?_⟩
  show Ls ps (n+1) (S j).1 (S j).2=some (K a)
  show procOf ps (S j).1 (Ls ps n) (S j).2=some (K a)
  rw[hl]
  exact hn
 | brt _ ih=>exact ih
 | brf _ ih=>exact ih
theorem Zp (hb:fn.body=some c) {d:JT J α} (he:∀L,entryA P cl tb fn c L args=d.run (fun v=>some (K v)) fun j=>L (S j).1 (S j).2)
  (hl:∀L j,procOf (procsF P cl tb fn c args) (S j).1 L (S j).2=(T j).run (fun v=>some (K v)) fun j=>L (S j).1 (S j).2) {a:α} (h:Goes T d a):
  ∃n,evF P cl tb fn n args=some (K a):=by
 obtain ⟨n,hn⟩:=ZA3 hl h
 refine ⟨n,?_⟩
 unfold evF
 rw[hb]
 simp only
 rw[he]
 exact hn
end
def bs (l:List Nat):ByteArray:=⟨(l.map UInt8.ofNat).toArray⟩
@[reducible] def eqB (a b:ByteArray):Bool:=a.data.toList==b.data.toList
@[reducible] def ltB (a b:ByteArray):Bool:=lessB a.data.toList b.data.toList
def bitAnd (k:IntKind) (a b:Int):Int:=k.wrap ((BitVec.ofInt k.bits a) &&& (BitVec.ofInt k.bits b)).toNat
def bitOr (k:IntKind) (a b:Int):Int:=k.wrap ((BitVec.ofInt k.bits a) ||| (BitVec.ofInt k.bits b)).toNat
@[reducible] def minI (a b:Int):Int:=if b < a then b else a
@[reducible] def maxI (a b:Int):Int:=if a < b then b else a
end Go.Ev
end

section
namespace Go.Ev
open Go Go.ChangeShapes Go.RowKit
variable [Tabs]
def fieldsC (chk:TypeId→Ty→Bool) (P:Program):List (TypeId×Nat)→Nat→Ty→Bool
 | [],_,.un=>true
 | [f],off,ty=>f.2==off&&(chk f.1 ty&&P.cellsOf f.1==ty.cells)
 | f :: r,off,.pr a b=>f.2==off&&(chk f.1 a&&(P.cellsOf f.1==a.cells&&fieldsC chk P r (off+a.cells) b))
 | _,_,_=>false
def tyC (P:Program):Nat→TypeId→Ty→Bool
 | 0,_,_=>false
 | n+1,t,ty=>match P.underlying t with
  | some (.int k)=>decide (ty=.int k)
  | some .bool=>decide (ty=.bool)
  | some .string=>decide (ty=.str)
  | some (.slice e)=>match ty with
   |.sl u=>tyC P n e u&&(P.cellsOf e==u.cells&&Nat.blt 0 u.cells)
   | _=>false
  | some (.struct fs)=>fieldsC (tyC P n) P (fs.toList.map fun f=>(f.type,f.offset)) 0 ty&&P.cellsOf t==ty.cells
  | some (.array k e)=>fieldsC (tyC P n) P ((List.range k).map fun i=>(e,i*P.cellsOf e)) 0 ty&&P.cellsOf t==ty.cells
  | _=>false
def small:(t:Ty)→El t→Prop
 |.int k,n=>k.min≤(show Int from n)∧(show Int from n)≤k.max
 |.str,s=>(show ByteArray from s).size≤maxLen
 |.sl t,l=>List.length (show List (El t) from l)≤maxLen∧∀x∈(show List (El t) from l),small t x
 |.pr a b,x=>small a x.1∧small b x.2
 | _,_=>True
section
variable {H:Type} {enc:TypeId×Value→H} {P:Program} {w:World} {base:Nat} {spare:Nat→Bool} {held:Bool}
theorem ZCS {a:Addr} {n:Nat} {cs:List Value} (h:w.cells? base a n=some cs):cs.length=n∧cellsAt w a cs:=by
 unfold World.cells? at h
 split at h
 ·have hl:cs.length=n:=by have:=mapM_some_length h;rw[List.length_range] at this;exact this
  refine ⟨hl,fun j v hv=>?_⟩
  have hj:j < cs.length:=(List.getElem?_eq_some_iff.1 hv).1
  have:=mapM_some_get h j j (by rw[List.getElem?_range (by omega)])
  rw[this];exact hv
 ·cases h
theorem ZpY {chk:TypeId→Ty→Bool} {F:Nat→Prop} (hchk:∀t ty cs d,chk t ty=true→(∃n,DataW.trod enc P w base spare held n t cs=some d)→∃x:El ty,LRep F w ty x cs∧small ty x):
  ∀(fs:List (TypeId×Nat)) (off:Nat) (ty:Ty) (cs:List Value),fieldsC chk P fs off ty=true→(∀f∈fs,∃n d,DataW.trod enc P w base spare held n f.1 ((cs.drop f.2).take (P.cellsOf f.1))=some d)→off+ty.cells≤cs.length→
   ∃x:El ty,LRep F w ty x ((cs.drop off).take ty.cells)∧small ty x
 | [],off,ty,cs,h,_,_=>by
  cases ty <;> simp only[fieldsC] at h <;> first | (cases h;done) | skip
  exact ⟨(),by simp[LRep,Ty.cells],trivial⟩
 | [f],off,ty,cs,h,hf,hl=>by
  have h':(f.2==off&&(chk f.1 ty&&P.cellsOf f.1==ty.cells))=true:=by
   cases ty <;> exact h
  simp only[Bool.and_eq_true,beq_iff_eq] at h'
  obtain ⟨h1,h2,h3⟩:=h'
  obtain ⟨n,d,hd⟩:=hf f (by simp)
  rw[h1,h3] at hd
  exact hchk _ _ _ d h2 ⟨n,hd⟩
 | f :: g :: r,off,ty,cs,h,hf,hl=>by
  cases ty with
  | pr a b=>
   have h':(f.2==off&&(chk f.1 a&&(P.cellsOf f.1==a.cells&&fieldsC chk P (g :: r) (off+a.cells) b)))=true:=h
   simp only[Bool.and_eq_true,beq_iff_eq] at h'
   obtain ⟨h1,h2,h3,h4⟩:=h'
   obtain ⟨n,d,hd⟩:=hf f (by simp)
   rw[h1,h3] at hd
   obtain ⟨x,hx,sx⟩:=hchk _ _ _ d h2 ⟨n,hd⟩
   simp only[Ty.cells] at hl
   obtain ⟨y,hy,sy⟩:=ZpY hchk (g :: r) (off+a.cells) b cs h4 (fun f' hf'=>hf f' (by simp only[List.mem_cons] at hf' ⊢;exact .inr hf')) (by omega)
   refine ⟨(x,y),?_,sx,sy⟩
   simp only[LRep]
   refine ⟨_,_,?_,hx,hy⟩
   simp only[Ty.cells]
   rw[List.take_add,List.drop_drop]
  | _=>simp[fieldsC] at h
theorem ZDw {α:Type} {Q:Nat→α→Prop} :∀ {n:Nat},(∀i,i < n→∃x,Q i x)→∃l:List α,l.length=n∧∀i x,l[i]? =some x→Q i x
 | 0,_=>⟨[],rfl,fun i x hx=>by simp at hx⟩
 | n+1,h=>by
  obtain ⟨l,hl,hall⟩:=ZDw (n:=n) fun i hi=>h i (by omega)
  obtain ⟨x,hx⟩:=h n (by omega)
  refine ⟨l++[x],by simp[hl],fun i y hy=>?_⟩
  by_cases hi:i < n
  ·rw[List.getElem?_append_left (by omega)] at hy
   exact hall i y hy
  ·rw[List.getElem?_append_right (by omega)] at hy
   have hik:i=n:=by
    have:=(List.getElem?_eq_some_iff.1 hy).1
    simp at this;omega
   subst hik
   simp[hl] at hy
   subst hy
   exact hx
theorem Zru:∀(m:Nat) (t:TypeId) (ty:Ty) (cs:List Value) (d:DataW H×List MemPlace),tyC P m t ty=true→(∃n,DataW.trod enc P w base spare held n t cs=some d)→
  ∃x:El ty,LRep (fun b=>b < w.heap.size) w ty x cs∧small ty x
 | 0,_,_,_,_,h,_=>by cases h
 | m+1,t,ty,cs,d,h,⟨n,hd⟩=>by
  unfold tyC at h
  split at h
  ·rename_i k hu
   obtain rfl:=of_decide_eq_true h
   obtain ⟨i,rfl,_,hw⟩:=DataW.trod_int hu hd
   exact ⟨i,rfl,(show k.min≤i∧i≤k.max by simpa[Lit.wf] using hw)⟩
  ·rename_i hu
   obtain rfl:=of_decide_eq_true h
   obtain ⟨b,rfl,_⟩:=DataW.trod_bool hu hd
   exact ⟨b,rfl,trivial⟩
  ·rename_i hu
   obtain rfl:=of_decide_eq_true h
   obtain ⟨s,rfl,_,hs⟩:=DataW.trod_string hu hd
   exact ⟨s,rfl,hs⟩
  ·rename_i e hu
   split at h
   ·rename_i u
    simp only[Bool.and_eq_true,beq_iff_eq] at h
    obtain ⟨h1,h2,h0⟩:=h
    have hz:0 < u.cells:=Nat.le_of_ble_eq_true h0
    rcases DataW.trod_slice hu hd with ⟨rfl,_⟩ | ⟨a,len,cap,elems,rest,n',_,rfl,_,hb,hlc,hcm,hel,hat,_,_⟩
    ·exact ⟨[],⟨none,0,rfl,Nat.le_refl _,fun i x hx=>by simp at hx⟩,by simp[small]⟩
    ·have each:∀i,i < len→∃x:El u,(∃cs,LRep (fun b=>b < w.heap.size) w u x cs∧cellsAt w (a.add (i*u.cells)) cs∧(0 < cs.length→a.block < w.heap.size))∧small u x:=by
      intro i hi
      have h3:=hat i hi
      rw[List.getElem?_eq_getElem (by omega)] at h3
      obtain ⟨cs,hc,ht⟩:=Option.bind_eq_some_iff.1 h3
      rw[h2] at hc
      obtain ⟨hl,hca⟩:=ZCS hc
      obtain ⟨x,hx,sx⟩:=Zru m e u cs _ h1 ⟨n',ht⟩
      refine ⟨x,⟨cs,hx,hca,fun hp=>?_⟩,sx⟩
      have h0:=hca 0 cs[0] (by simp[hp])
      have:=World.cells?_block hc (by omega)
      rwa[Addr.add_block] at this
     have:=ZDw each
     obtain ⟨l,hl,hall⟩:=this
     refine ⟨l,⟨some a,cap,by rw[hl],by rw[hl];exact hlc,fun i x hx=>?_⟩,?_,fun x hx=>?_⟩
     ·obtain ⟨⟨cs,c1,c2,c3⟩,_⟩:=hall i x hx
      exact ⟨a,cs,rfl,c3 (by rw[c1.length];omega),c1,c2⟩
     ·rw[hl];omega
     ·obtain ⟨i,hi⟩:=List.getElem?_of_mem hx
      exact (hall i x hi).2
   ·cases h
  ·rename_i fs hu
   simp only[Bool.and_eq_true,beq_iff_eq] at h
   obtain ⟨h1,h2⟩:=h
   obtain ⟨xs,n',_,_,hl,hxl,hxs⟩:=DataW.trod_struct hu hd
   obtain ⟨x,hx,sx⟩:=ZpY (fun t ty cs d hc he=>Zru m t ty cs d hc he) (fs.toList.map fun f=>(f.type,f.offset)) 0 ty cs h1 (fun f hf=>by
    obtain ⟨g,hg,e⟩:=List.mem_map.1 hf
    subst e
    obtain ⟨i,hi⟩:=List.getElem?_of_mem hg
    have:=hxs i g (by simpa using hi)
    have hlt:i < xs.length:=by
     have:=(List.getElem?_eq_some_iff.1 hi).1
     simp at this;omega
    rw[List.getElem?_eq_getElem hlt] at this
    exact ⟨n',_,this⟩) (by omega)
   refine ⟨x,?_,sx⟩
   rw[List.drop_zero,List.take_of_length_le (by omega)] at hx
   exact hx
  ·rename_i k e hu
   simp only[Bool.and_eq_true,beq_iff_eq] at h
   obtain ⟨h1,h2⟩:=h
   obtain ⟨xs,n',_,_,hl,hxl,hxs⟩:=DataW.trod_array hu hd
   obtain ⟨x,hx,sx⟩:=ZpY (fun t ty cs d hc he=>Zru m t ty cs d hc he) ((List.range k).map fun i=>(e,i*P.cellsOf e)) 0 ty cs h1 (fun f hf=>by
    obtain ⟨i,hi,rfl⟩:=List.mem_map.1 hf
    rw[List.mem_range] at hi
    have:=hxs i hi
    rw[List.getElem?_eq_getElem (by omega)] at this
    exact ⟨n',_,this⟩) (by omega)
   refine ⟨x,?_,sx⟩
   rw[List.drop_zero,List.take_of_length_le (by omega)] at hx
   exact hx
  ·cases h
theorem ZxI {r:Reach} {b:Nat} {m:Nat} {t:TypeId} {ty:Ty} {v:Value} (hg:isAgg P t=some false) (ht:tyC P m t ty=true) (hv:Value.okWide P w r b t v):v.cells.toList=[v]:=by
 cases m with
 | zero=>cases ht
 | succ m=>
  unfold tyC at ht
  unfold isAgg at hg
  unfold Value.okWide at hv
  split at ht <;> rename_i hu
  case h_5=>rw[hu] at hg;simp at hg
  case h_6=>rw[hu] at hg;simp at hg
  case h_7=>cases ht
  all_goals
   rw[hu] at hv
   simp only[Cell.okWide,Cell.ok,hu] at hv
   cases v <;> first | rfl | (exact absurd hv (by simp))
def argsC (P:Program):List TypeId→Sig→Bool
 | [],[]=>true
 | t :: ts,(g,ty) :: s=>(match isAgg P t with | some g'=>g'==g | none=>false)&&(tyC P 12 t ty&&argsC P ts s)
 | _,_=>false
def smallArgs:(s:Sig)→Args s→Prop
 | [],_=>True
 | p :: r,a=>small p.2 a.1∧smallArgs r a.2
theorem ZBc {r:Reach} {b:Nat} :∀(ts:List TypeId) (s:Sig) (vs:List Value) (ds:List (DataW H)) (ps:List MemPlace),argsC P ts s=true→
  (∀(j:Nat) t v,ts[j]? =some t→vs[j]? =some v→Value.okWide P w r b t v)→DataW.TrodAll enc P w base spare held ts vs ds ps→
  ∃a:Args s,TReps (fun b=>b < w.heap.size) w (toForms s a) vs []∧smallArgs s a∧ds.length=ts.length
 | [],[],vs,ds,ps,_,_,h=>by
  obtain ⟨rfl,rfl,rfl⟩:=trodAll_nil h
  exact ⟨(),.nil,trivial,rfl⟩
 | [],_ :: _,_,_,_,h,_,_=>by cases h
 | _ :: _,[],_,_,_,h,_,_=>by cases h
 | t :: ts,(g,ty) :: s,vs,ds,ps,h,hv,hd=>by
  simp only[argsC,Bool.and_eq_true] at h
  obtain ⟨hg,ht,hr⟩:=h
  obtain ⟨v,vs1,d,ds1,p,q,rfl,rfl,rfl,h1,h2⟩:=trodAll_cons hd
  obtain ⟨a,ha,sa,la⟩:=ZBc ts s vs1 ds1 q hr (fun j t' v' e1 e2=>hv (j+1) t' v' e1 e2) h2
  obtain ⟨n,hn⟩:=h1
  obtain ⟨x,hx,sx⟩:=Zru 12 t ty v.cells.toList _ ht ⟨n,hn⟩
  have hok:=hv 0 t v rfl rfl
  have hf:CsRep (fun b=>b < w.heap.size) ρ0 w st0 (flat ty x) v.cells.toList:=Zft hx
  have hT:=Zm5 hf ZoV
  refine ⟨(x,a),?_,⟨sx,sa⟩,by simp[la]⟩
  cases hag:isAgg P t with
  | none=>rw[hag] at hg;cases hg
  | some g'=>
   rw[hag] at hg
   simp only[beq_iff_eq] at hg
   subst hg
   cases g' with
   | true=>
    have:∃cs,v=.agg cs:=by
     unfold isAgg at hag
     unfold Value.okWide at hok
     split at hok
     ·obtain ⟨cs,e,_⟩:=hok;exact ⟨cs,e⟩
     ·obtain ⟨cs,e,_⟩:=hok;exact ⟨cs,e⟩
     ·rename_i h1 h2
      split at hag
      ·rename_i fs hu;exact absurd hu (h1 fs)
      ·rename_i m e hu;exact absurd hu (h2 m e)
      ·cases hag
      ·cases hag
    obtain ⟨cs,rfl⟩:=this
    have:=TReps.ag hT ha
    simpa[toForms,toForm,Value.cells] using this
   | false=>
    have hs:=ZxI hag ht hok
    rw[hs] at hT hf
    have hlen:=hf.1
    show TReps _ w ((flat ty x).headD .top :: toForms s a) (v :: vs1) []
    match hm:flat ty x,hlen with
    | [c],_=>
     rw[hm] at hT
     have:=hT.append ha
     simpa using this
theorem ZCI {f:Func} {s:ChangeSpec} {W W':World} {args:Array Value} {v:Value} {ds gs:List (DataW H)} {before pa pv:List MemPlace} {apart fresh handsOn again:Bool}
  (hW:DataW.Whole enc P f.params.toList s.vars apart W args.toList ds gs before)
  (hres:∀(b:Nat) (sp:Nat→Bool) (hd:Bool),DataW.TrodAll enc P W' b sp hd f.resultTypes.toList (v.resultList f.resultTypes.size) (s.fn H (ds++gs)).results [])
  (hargs:∀sp:Nat→Bool,(∀p∈before,sp p.block=true)→DataW.TrodAll enc P W' 0 sp true f.params.toList args.toList (s.fn H (ds++gs)).args pa)
  (hvars:∀sp:Nat→Bool,(∀p∈before,sp p.block=true)→DataW.TrodVars enc P W' sp s.vars (s.fn H (ds++gs)).vars pv)
  (hps:before=pa++pv) (hk:W.keptBut W' (· ∈before)) (hfz:∀a:Addr,a.block < W.heap.size→W'.frozen? a=W.frozen? a)
  (hok:∀(j:Nat) (t:TypeId) (r:Value),f.resultTypes[j]? =some t→(v.resultList f.resultTypes.size)[j]? =some r→Value.okWide P W' .any 0 t r):
  s.post enc P f apart fresh handsOn again W args v W':=by
 have hold:∀p∈before,(fun b=>decide (b < W.heap.size)) p.block=true:=fun p hp=>by simpa using hW.lt p hp
 refine ⟨ds,gs,before,[],pa,pv,hW,hres _ _ _,hargs _ hold,hvars _ hold,World.keptBut_mono (fun p hp=>⟨hp,?_⟩) hk,fun _=>?_⟩
 ·rw[hps,List.mem_append] at hp
  exact Or.inr hp
 ·have hlt:=hW.lt
  obtain ⟨_,_,_,_,_,hz,hn⟩:=hW
  refine ⟨hok,_,_,([]++pa)++pv,⟨[]++pa,pv,trodAll_append (hargs _ (fun _ _=>rfl)) (hres _ _ _),hvars _ (fun _ _=>rfl),rfl,?_,?_⟩,?_⟩
  ·intro b off hp
   have hb:MemPlace.cell b off∈before:=by rw[hps];simpa using hp
   rw[hfz _ (hlt _ hb)]
   exact hz b off hb
  ·intro ha
   have:=hn ha
   rw[hps] at this
   simpa using this
  ·intro p hp _
   rw[hps]
   simpa using hp
end
theorem ZoO {H:Type} {enc:TypeId×Value→H} {P:Program} {W W':World} {sp:Nat→Bool} (hl:laidOutB P=true) (hb:Below W.heap.size W W'):
  ∀ {ts:List TypeId} {vs:List Value} {ds:List (DataW H)} {ps:List MemPlace},(∀t∈ts,P.readableRec t=true∧t < P.types.size)→(∀p∈ps,p.block < W.heap.size)→(∀p∈ps,sp p.block=true)→
   DataW.TrodAll enc P W 0 (fun _=>true) true ts vs ds ps→DataW.TrodAll enc P W' 0 sp true ts vs ds ps
 | [],_,_,_,_,_,_,h=>by
  obtain ⟨rfl,rfl,rfl⟩:=trodAll_nil h
  rfl
 | t :: ts,_,_,_,ht,hlt,hsp,h=>by
  obtain ⟨v,vs1,d,ds1,p,q,rfl,rfl,rfl,h1,h2⟩:=trodAll_cons h
  refine ⟨p,q,?_,ZoO hl hb (fun t' ht'=>ht t' (List.mem_cons_of_mem _ ht')) (fun x hx=>hlt x (List.mem_append_right _ hx)) (fun x hx=>hsp x (List.mem_append_right _ hx)) h2,rfl⟩
  exact WideElems.Trod_stays hl (ht t (by simp)).1 (ht t (by simp)).2 h1 (fun x hx=>hb.same (hlt x (List.mem_append_left _ hx))) (fun x hx=>hsp x (List.mem_append_left _ hx))
theorem Zyc {H:Type} {enc:TypeId×Value→H} {P:Program} {f:FuncId} {fn:Func} {s:ChangeSpec} {sg:Sig} {tb:TypeId} {fresh handsOn again:Bool} (hvars:s.vars=[]) (hres:fn.resultTypes= #[tb]) (hb:P.underlying tb=some .bool)
  (hl:laidOutB P=true) (hread:(fn.params.toList.all fun t=>P.readableRec t&&Nat.blt t P.types.size)=true) (hsg:argsC P fn.params.toList sg=true)
  (hs:∀ds:List (DataW H),ds.length=fn.params.toList.length→s.fn H ds= { results:=[.lit (.bool true)],args:=ds })
  {W:World} {base:Nat} {args:Array Value} {ds gs:List (DataW H)} {before:List MemPlace}
  (hval:∀(j:Nat) t v,fn.params[j]? =some t→args[j]? =some v→Value.okWide P W .any base t v)
  (hW:DataW.Whole enc P fn.params.toList s.vars false W args.toList ds gs before) (htab:Tabs.ok W) (hblocks:∀b∈Tabs.blocks,b < W.heap.size)
  (hcall:∀a:Args sg,smallArgs sg a→∃outs,CallOK P f (toForms sg a) (.d .bool true,outs)):
  Calls P f args W fun e W'=>∃v,e=.returned v∧s.post enc P fn false fresh handsOn again W args v W':=by
 have hW':=hW
 obtain ⟨p,q,hA,hV,rfl,_,_⟩:=hW
 rw[hvars] at hV
 obtain ⟨rfl,rfl⟩:=trodVars_none hV
 obtain ⟨a,hT,hsm,hlen⟩:=ZBc fn.params.toList sg args.toList ds p hsg (fun j t v h1 h2=>hval j t v (by simpa using h1) (by simpa using h2)) hA
 obtain ⟨outs,hc⟩:=hcall a hsm
 have hcl:=hc.1 (fun b=>b < W.heap.size) W args.toList [] hT List.nodup_nil (fun b hb=>by simp at hb) (fun b hb=>hb) ⟨hblocks,htab⟩
 rw[Array.toArray_toList] at hcl
 refine Calls.mono hcl ?_
 intro e W' he
 cases e with
 | returned v=>
  obtain ⟨F',Lr,Lo,hE,hlow,hTr,_,_,_⟩:=he
  have hv:v=.bool true:=by
   cases hTr with
   | flat h1 h2 h3=>cases h2 with | d _ _ _ h=>simpa[LRep] using h
  subst hv
  have hsame:∀i,i < W.heap.size→W'.heap[i]? =W.heap[i]?:=fun i hi=>hE.same i hi (.inl hi)
  have hbel:Below W.heap.size W W':=⟨hE.os,hE.tape,hE.output,hE.size,hsame⟩
  have hlt:=hW'.lt
  have hfn:s.fn H (ds++[])= { results:=[.lit (.bool true)],args:=ds } :=by rw[List.append_nil];exact hs ds hlen
  have hvs:(s.fn H (ds++[])).vars=[]:=by rw[hfn]
  refine ⟨_,rfl,ZCI (pa:=p) (pv:=[]) hW' (fun b sp hd=>?_) (fun sp hsp=>?_) (fun sp _=>?_) rfl ⟨hE.os,hE.output,fun i hi=>?_⟩ (fun x hx=>?_) (ok_one hres rfl (okWide_bool_mk hb true))⟩
  ·rw[hfn,hres]
   exact trodAll_mk1 (shut_bool hb _)
  ·rw[hfn]
   refine ZoO hl hbel (fun t ht=>?_) (fun x hx=>hlt x (by simpa using hx)) (fun x hx=>hsp x (by simpa using hx)) hA
   have:=List.all_eq_true.1 hread t ht
   simp only[Bool.and_eq_true] at this
   exact ⟨this.1,Nat.le_of_ble_eq_true this.2⟩
  ·rw[hvars,hvs]
   rfl
  ·rw[hsame i hi]
   cases W.heap[i]? with
   | none=>rfl
   | some o=>
    cases o with
    | cells c t fr=>exact ⟨rfl,rfl,rfl,fun _ _=>rfl⟩
    | map es clock=>exact .inr ⟨rfl,rfl⟩
    | _=>rfl
  ·unfold World.frozen?
   rw[hsame _ hx]
 | _=>exact he.elim
end Go.Ev
end

section
namespace Go.Ev
variable [Tabs]
open Go
inductive CK where
 | d (t:Ty)
 | w (E:TypeId) (t:Ty)
 | m (kt vt:Ty)
@[reducible] def CK.ty:CK→Ty
 |.d t=>t
 |.w _ t=>.sl t
 |.m kt vt=>.sl (.pr kt vt)
@[reducible] def cksTy:List CK→Ty
 | []=>.un
 | [c]=>c.ty
 | c :: r=>.pr c.ty (cksTy r)
inductive PK where
 | dat (g:Bool) (t:Ty)
 | obj (T:TypeId) (cs:List CK)
 | ptr (T S:TypeId) (cs:List CK) -- a box that holds the address of such a box
 | nilp
 | row (E:TypeId) (t:Ty) -- a row of one's own,handed over whole
@[reducible] def PK.ty:PK→Ty
 |.dat _ t=>t
 |.obj _ cs=>cksTy cs
 |.ptr _ _ cs=>cksTy cs
 |.nilp=>.un
 |.row _ t=>.sl t
abbrev PSig:=List PK
@[reducible] def PArgs:PSig→Type
 | []=>Unit
 | p :: r=>El p.ty×PArgs r
def ofCell:(c:CK)→AV→Option (El c.ty)
 |.d t,x=>ofForm (false,t) x
 |.w E t,.rw E' t' l=>if E'=E then (if h:t'=t then some (show List (El t) from h▸l) else none) else none
 |.w _ _,.nil=>some []
 |.m kt vt,.mv kt' vt' l=>if h:kt'=kt∧vt'=vt then some (show List (El kt×El vt) from h.1▸h.2▸l) else none
 | _,_=>none
def toCell:(c:CK)→El c.ty→AV
 |.d t,v=>toForm (false,t) v
 |.w E t,l=>.rw E t l
 |.m kt vt,l=>.mv kt vt l
def ofCells:(cs:List CK)→List AV→Option (El (cksTy cs))
 | [],[]=>some ()
 | [c],[x]=>ofCell c x
 | c :: d :: r,x :: xs=>(ofCell c x).bind fun a=>(ofCells (d :: r) xs).map fun b=>(a,b)
 | _,_=>none
def toCells:(cs:List CK)→El (cksTy cs)→List AV
 | [],_=>[]
 | [c],v=>[toCell c v]
 | c :: d :: r,v=>toCell c v.1 :: toCells (d :: r) v.2
def ofP:(p:PK)→AV→Option (El p.ty)
 |.dat g t,x=>ofForm (g,t) x
 |.obj T cs,.bx T' xs=>if T'=T then ofCells cs xs else none
 |.ptr T S cs,.bx T' [.bx S' xs]=>if T'=T∧S'=S then ofCells cs xs else none
 |.nilp,.cst (.pointer none)=>some ()
 |.row E t,x=>ofCell (.w E t) x
 | _,_=>none
def toP:(p:PK)→El p.ty→AV
 |.dat g t,v=>toForm (g,t) v
 |.obj T cs,v=>.bx T (toCells cs v)
 |.ptr T S cs,v=>.bx T [.bx S (toCells cs v)]
 |.nilp,_=>.cst (.pointer none)
 |.row E t,l=>.rw E t l
def ofPs:(s:PSig)→List AV→Option (PArgs s)
 | [],[]=>some ()
 | p :: r,x :: xs=>(ofP p x).bind fun a=>(ofPs r xs).map fun b=>(a,b)
 | _,_=>none
def toPs:(s:PSig)→PArgs s→List AV
 | [],_=>[]
 | p :: r,a=>toP p a.1 :: toPs r a.2
section
variable {F:Nat→Prop} {w:World}
theorem ZvF {c:CK} {x:AV} {a:El c.ty} {v:Value} {L:List Nat} (h:ofCell c x=some a) (hT:TReps F w [x] [v] L):TReps F w [toCell c a] [v] L:=by
 cases c with
 | d t=>
  obtain ⟨rfl,q⟩:=ZwS (p:=(false,t)) h hT
  exact q
 | w E t=>
  by_cases hn:x=.nil
  ·subst hn
   simp only[ofCell,Option.some.injEq] at h
   subst h
   cases hT with
   | flat hx ha hr=>
    cases ha
    cases hr
    have:=TReps.rw (F:=F) (E:=E) (t:=t) (l:=[]) (v:=.slice none 0 0) ⟨[],⟨by simp,.inl ⟨rfl,rfl⟩⟩,fun i x hx=>by simp at hx⟩ (TReps.nil (w:=w))
    exact this
  cases x <;> simp only[ofCell] at h <;> first | (cases h;done) | (exact absurd rfl hn) | skip
  rename_i E' t' l
  split at h
  ·rename_i hE
   subst hE
   split at h
   ·rename_i ht
    subst ht
    cases h
    exact hT
   ·cases h
  ·cases h
 | m kt vt=>
  cases x <;> simp only[ofCell] at h <;> first | (cases h;done) | skip
  rename_i kt' vt' l
  split at h
  ·rename_i hk
   obtain ⟨h1,h2⟩:=hk
   subst h1
   subst h2
   cases h
   exact hT
  ·cases h
theorem Zs0:∀ {cs:List CK} {xs:List AV} {a:El (cksTy cs)} {vs:List Value} {L:List Nat},ofCells cs xs=some a→TReps F w xs vs L→TReps F w (toCells cs a) vs L
 | [],[],a,vs,L,_,hT=>hT
 | [],_ :: _,a,vs,L,h,_=>by cases h
 | [c],[x],a,vs,L,h,hT=>by
  obtain ⟨v,us,L1,L2,rfl,rfl,t1,t2⟩:=hT.split
  cases t2
  have:=ZvF (c:=c) h t1
  simpa[toCells] using this
 | [c],[],a,vs,L,h,_=>by cases h
 | [c],_ :: _ :: _,a,vs,L,h,_=>by cases h
 | c :: d :: r,[],a,vs,L,h,_=>by cases h
 | c :: d :: r,x :: xs,a,vs,L,h,hT=>by
  simp only[ofCells] at h
  obtain ⟨b,h1,h⟩:=Option.bind_eq_some_iff.1 h
  obtain ⟨e,h2,rfl⟩:=Option.map_eq_some_iff.1 h
  obtain ⟨v,us,L1,L2,rfl,rfl,t1,t2⟩:=hT.split
  have q1:=ZvF h1 t1
  have q2:=Zs0 h2 t2
  have:=q1.append q2
  simpa[toCells] using this
theorem ZCA {p:PK} {x:AV} {a:El p.ty} {v:Value} {L:List Nat} (h:ofP p x=some a) (hT:TReps F w [x] [v] L):TReps F w [toP p a] [v] L:=by
 cases p with
 | dat g t=>
  obtain ⟨rfl,q⟩:=ZwS (p:=(g,t)) h hT
  exact q
 | obj T cs=>
  cases x <;> simp only[ofP] at h <;> first | (cases h;done) | skip
  rename_i T' xs
  split at h
  ·rename_i hTT
   subst hTT
   cases hT with
   | flat hx=>cases hx
   | bx hb h1 h2=>exact .bx hb (Zs0 h h1) h2
  ·cases h
 | ptr T S cs=>
  match x,h with
  |.bx T' [.bx S' xs],h=>
   simp only[ofP] at h
   split at h
   ·rename_i hTT
    obtain ⟨rfl,rfl⟩:=hTT
    cases hT with
    | flat hx=>cases hx
    | bx hb h1 h2=>
     cases h1 with
     | flat hx=>cases hx
     | bx hb' h1' h2'=>exact .bx hb (.bx hb' (Zs0 h h1') h2') h2
   ·cases h
 | nilp=>
  match x,h with
  |.cst (.pointer none),h=>exact hT
 | row E t=>exact ZvF (c:=.w E t) h hT
theorem ZuL:∀ {s:PSig} {xs:List AV} {a:PArgs s} {vs:List Value} {L:List Nat},ofPs s xs=some a→TReps F w xs vs L→TReps F w (toPs s a) vs L
 | [],[],a,vs,L,_,hT=>hT
 | [],_ :: _,a,vs,L,h,_=>by cases h
 | p :: s,[],a,vs,L,h,_=>by cases h
 | p :: s,x :: xs,a,vs,L,h,hT=>by
  simp only[ofPs] at h
  obtain ⟨b,h1,h⟩:=Option.bind_eq_some_iff.1 h
  obtain ⟨c,h2,rfl⟩:=Option.map_eq_some_iff.1 h
  obtain ⟨v,us,L1,L2,rfl,rfl,t1,t2⟩:=hT.split
  have:=(ZCA h1 t1).append (ZuL h2 t2)
  simpa[toPs] using this
end
def typedO (s:PSig) (run:PArgs s→M Ans) (els:Run):Run:=fun xs=>match ofPs s xs with
 | none=>els xs
 | some a=>run a
def noRun:Run:=fun _=>fail
theorem Zrp {P:Program} {f:FuncId} (hk:Known P f):EntOK P f noRun:=⟨hk,fun xs=>⟨Det.fail,Sat.fail⟩⟩
theorem ZFt {p:PK} {i v o:Nat} :ofP p (.pt i v o)=none:=by
 cases p with
 | dat g t=>exact Zxu
 | row E t=>rfl
 | _=>rfl
theorem ZE3 {i v o:Nat} {r:List AV} :∀ {s:PSig},ofPs s (.pt i v o :: r)=none
 | []=>rfl
 | p :: s=>by simp only[ofPs,ZFt];rfl
theorem Zxo {P:Program} {f:FuncId} {s:PSig} {run:PArgs s→M Ans} {els:Run} (he:EntOK P f els) (hd:∀a,Det (run a)) (h:∀a,Sat (run a) (CallOK P f (toPs s a))):EntOK P f (typedO s run els):=by
 refine ⟨he.1,fun xs=>⟨?_,?_⟩⟩
 ·unfold typedO
  split
  ·exact (he.2 xs).1
  ·exact hd _
 ·unfold typedO
  split
  ·exact (he.2 xs).2
  ·rename_i a ha
   refine (h a).mono fun r hr=>⟨?_,fun q e=>by rw[e,ZE3] at ha;cases ha⟩
   intro F w vals L hT hL hLF hlow htab
   exact hr.1 F w vals L (ZuL ha hT) hL hLF hlow htab
def entO {α:Type} (s:PSig) (K:α→Ans) (ok:PArgs s→Bool) (v:PArgs s→α) (els:Run:=noRun):Run:=typedO s (fun a k=>bif ok a then k (K (v a)) else none) els
section
variable {P:Program} {t:Tbl} {tb:Tb} {f:FuncId} {fn:Func} {c:Code} {s:PSig} {α:Type} {K:α→Ans} {els:Run}
theorem ZAL (he:EntOK P f els) (ht:∀p∈t,EntOK P p.1 p.2) (hf:P.funcs[f]? =some fn) (hb:fn.body=some c)
  (hnd:∀a,nodupB ((procsF P (clOf t) tb fn c (toPs s a)).map (·.1))=true) {ok:PArgs s→Bool} {v:PArgs s→α}
  (h:∀a,ok a=true→∃n,evF P (clOf t) tb fn n (toPs s a)=some (K (v a))):EntOK P f (entO s K ok v els):=by
 obtain ⟨h1,h2⟩:=Zoq ht
 exact Zxo he (fun a=>Det.guard (Det.pure _)) fun a=>Sat.guard fun hok=>Sat.pure (by
  obtain ⟨n,hn⟩:=h a hok
  exact ZoI h1 h2 hf hb (hnd a) hn)
theorem ZCV (he:EntOK P f els) {ok:PArgs s→Bool} {v:PArgs s→α} (h:∀a,ok a=true→CallOK P f (toPs s a) (K (v a))):EntOK P f (entO s K ok v els):=
 Zxo he (fun a=>Det.guard (Det.pure _)) fun a=>Sat.guard fun hok=>Sat.pure (h a hok)
theorem Zpn (hf:P.funcs[f]? =some fn) (hname:(fn.name== "runtime.NumGoroutine")=false) (hb:fn.body=some c):Known P f:=⟨fn,c,hf,hname,hb⟩
end
end Go.Ev
end

section
namespace Go.Ev
variable [Tabs]
open Go
theorem Zqv {P:Program} {tb:Tb} {f:FuncId} {fn:Func} {c:Code} {args:List AV} {ans:Ans} (hf:P.funcs[f]? =some fn) (hb:fn.body=some c) {vs:List AV} {st:St} (hi:initA ⟨[],[]⟩ 0 args=some (vs,st))
  (h:∀ [Orgs] (Mod F0:Nat→Prop) (w0:World) (a:Act) (w:World),Rel Mod F0 w0 { st with tm:=vs++tops (fn.ntmps - vs.length) } a w→
   c.wp P (fun e a' w'=>(e=.normal∨e=.ret)∧∃st',Rel Mod F0 w0 st' a' w'∧finA P tb fn args st'=some ans) a w):CallOK P f args ans:=by
 refine ⟨?_,fun r e=>by
  subst e
  have:initA ⟨[],[]⟩ 0 (.pt 0 0 1 :: r)=none:=rfl
  rw[this] at hi
  cases hi⟩
 intro F w vals L hT hL hLF hlow htab
 letI:Orgs:=⟨fun j=>vals.getD j undef⟩
 have hvo:∀k v,vals[k]? =some v→v=Orgs.org (0+k):=fun k v hk=>by
  rw[Nat.zero_add]
  show v=vals.getD k undef
  rw[List.getD_eq_getElem?_getD,hk];rfl
 refine calls_of_wp hf hb ?_
 have hlen:=hT.length
 have hR0:R (ModC L w) F ρ0 w ⟨[],[]⟩ #[]:=⟨rfl,fun i x hx=>by simp at hx,fun id ver o hf=>by simp[find] at hf,fun id ver o b hf=>by simp[find] at hf,fun id ver E t l hf=>by simp[find] at hf,hlow,fun b hb=>.inr hb,htab⟩
 have hF0:Fr (ModC L w) F ρ0 w ⟨[],[]⟩ L:=⟨hL,fun b hb=>⟨(hLF b hb).1,.inl hb,(hLF b hb).2,fun ⟨id,ver,o,hf,_⟩=>by simp[find] at hf⟩⟩
 obtain ⟨ρ1,r1,a1,c1⟩:=ZrR args 0 ⟨[],[]⟩ ρ0 vs vals st L hi hR0 hT hF0 hvo
 have hvl:vs.length=vals.length:=a1.1
 have hrel:Rel (ModC L w) F w { st with tm:=vs++tops (fn.ntmps - vs.length) } { tmps:=vals.toArray++Array.replicate (fn.ntmps - vals.toArray.size) undef,defers:=[] } w:=by
  refine ⟨rfl,F,ρ1,⟨?_,fun i x hx=>?_,fun id ver o hf=>?_,r1.sep,r1.data,r1.low,r1.hi,r1.tabs⟩,Evo.refl _ _ _⟩
  ·simp[Zew,hvl]
  ·rw[List.getElem?_append] at hx
   split at hx
   ·rename_i hlt
    have hlt':i < vals.length:=by omega
    refine ⟨vals[i],by simp[Array.getElem?_append,hlt'],?_⟩
    exact ARep.of_ob (st:=st) (st':=⟨vs++tops (fn.ntmps - vs.length),st.ob⟩) rfl (a1.2 i x vals[i] hx (by simp[hlt']))
   ·rename_i hge
    have hlt:=(List.getElem?_eq_some_iff.1 hx).1
    obtain rfl:=Zrx _ _ _ hx
    rw[Zew] at hlt
    refine ⟨undef,?_,.top _⟩
    have:¬i < vals.length:=by omega
    simp[Array.getElem?_append,this,Array.getElem?_replicate]
    omega
  ·exact ORep.mono (Keeps.refl _ _) (Ref.of_ob (st:=st) (st':=⟨vs++tops (fn.ntmps - vs.length),st.ob⟩) rfl) (fun _ _=>rfl) (r1.obs id ver o hf)
 refine wp_mono (h (ModC L w) F w _ w hrel) fun e a w' he=>?_
 obtain ⟨hen,st',⟨hd,F',ρ',hR,hE⟩,hk⟩:=he
 obtain ⟨F2,v,Lr,Lo,hE2,hlow2,h1,h2,h3,h4,h5⟩:=ZBb (L:=L) (w0:=w) hR (fun _ h=>h) hlen hvo hk
 have fin:a.defers=[]∧∃v,(results fn a.tmps).run P w'=.ok v w'∧CallPost F w L vals ans v w':=
  ⟨hd,v,h1,F2,Lr,Lo,hE.trans hE2,hlow2,h2,h3,(List.perm_append_comm.nodup_iff).1 h4,fun b hb=>h5 b (by simp only[List.mem_append] at hb ⊢;exact hb.symm)⟩
 cases e with
 | normal=>exact fin
 | ret=>exact fin
 | _=>simp at hen
section
variable [Orgs] {P:Program} {Mod F0:Nat→Prop} {w0:World} {cl:Cl} {st st1:St} {a:Act} {w:World} {Q:Exit→Act→World→Prop}
theorem ZjL (cl:Cl):∀(c:Code) (i:Nat) (k:Lt→Kt) (x:Lt→Nat→Kt) (r:Lt→Kt),procs P cl [] c i k x r=[]
 |.seq a b,i,k,x,r=>by simp[procs,labOf,ZjL cl a,ZjL cl b]
 |.cond _ a b,i,k,x,r=>by simp[procs,ZjL cl a,ZjL cl b]
 |.block _ c,i,k,x,r=>by simp[procs,ZjL cl c]
 |.loop c,i,k,x,r=>by simp[procs,labOf]
 |.skip,_,_,_,_=>rfl
 |.region _ _ _,_,_,_,_=>rfl
 |.exit _,_,_,_,_=>rfl
 |.ret,_,_,_,_=>rfl
 |.goto _,_,_,_,_=>rfl
 |.label _,_,_,_,_=>rfl
 |.scope _,_,_,_,_=>rfl
 |.rangeFunc _ _ _ _,_,_,_,_=>rfl
 |.refuse _,_,_,_,_=>rfl
open Classical in
theorem piece (hcl:Spec P cl) (hdet:DetC cl) {c:Code} (g:St→St) (hg:∀ {st a w},Rel Mod F0 w0 st a w→Rel Mod F0 w0 (g st) a w)
  (h:∀(L:Lt) (k:Kt) (x:Nat→Kt) (r:Kt),evC P cl [] L c 0 (fun s=>k (g s)) x r st=k st1) (hr:Rel Mod F0 w0 st a w) (hQ:∀a' w',Rel Mod F0 w0 st1 a' w'→Q .normal a' w'):c.wp P Q a w:=by
 have hs:=ZbW (Mod:=Mod) (F0:=F0) (w0:=w0) (ps:=[]) (tb:=[]) (y:=(AV.top,[])) hcl hdet c 0 (fun _ s=>if g s=st1 then some (AV.top,[]) else none) (fun _ _ _=>none) (fun _ _=>none)
  (by rw[ZjL];intro j p hj;simp at hj) 0 st a w (by
   have:=h (Ls [] 0) (fun s=>if s=st1 then some (AV.top,[]) else none) (fun _ _=>none) (fun _=>none)
   rw[if_pos rfl] at this
   exact this) hr
 refine wp_mono hs fun e a' w' he=>?_
 cases e with
 | normal=>
  obtain ⟨m,st',_,hr',hk⟩:=he
  simp only at hk
  split at hk
  ·rename_i e
   exact hQ a' w' (e▸hg hr')
  ·cases hk
 | exit j=>obtain ⟨m,st',_,_,hk⟩:=he;cases hk
 | ret=>obtain ⟨m,st',_,_,hk⟩:=he;cases hk
 | _=>exact he.elim
theorem handOp {ops:Array Oper} {i:Nat} {o:Oper} {rest:List Nat} (ho:ops[i]? =some o) (hg:o.guard=none) (h:o.wp P a w (wpOps P ops Q rest) Q):wpOps P ops Q (i :: rest) a w:=by
 rw[wpOps_cons]
 unfold wpOp
 simp only[ho]
 have hw:Region.wanted o (yielded ops a.tmps)=true:=by unfold Region.wanted;rw[hg]
 rw[if_pos hw]
 exact .inl h
open Classical in
theorem evOp (hcl:Spec P cl) {ops:Array Oper} {i:Nat} {o:Oper} {rest:List Nat} (ho:ops[i]? =some o) (hg:o.guard=none) (h:∀k,opA P cl o st k=k st1) (hr:Rel Mod F0 w0 st a w)
  (hQ:∀a' w',Rel Mod F0 w0 st1 a' w'→wpOps P ops Q rest a' w'):wpOps P ops Q (i :: rest) a w:=by
 refine handOp ho hg (Oper.wp_mono (fun a' w' he=>?_) (ZAF (y:=(AV.top,[])) (k:=fun s=>if s=st1 then some (AV.top,[]) else none) hcl (by rw[h,if_pos rfl]) hr Q))
 obtain ⟨st',hr',hk⟩:=he
 split at hk
 ·rename_i e
  exact hQ a' w' (e▸hr')
 ·cases hk
open Classical in
theorem evOps (hcl:Spec P cl) {ops:Array Oper} (l:List Oper) (i:Nat) (hl:ops.toList.drop i=l) (h:∀k,opsA P cl ops l st k=k st1) (hr:Rel Mod F0 w0 st a w)
  (hQ:∀a' w',Rel Mod F0 w0 st1 a' w'→Q .normal a' w'):wpOps P ops Q (List.range' i l.length) a w:=
 ZBl (y:=(AV.top,[])) (k:=fun s=>if s=st1 then some (AV.top,[]) else none) hcl (fun st' a' w' hr' hk=>by
  split at hk
  ·rename_i e
   exact hQ a' w' (e▸hr')
  ·cases hk) l i st a w hl (by rw[h,if_pos rfl]) hr
end
theorem ORep.orgs {O1 O2:Orgs} {F:Nat→Prop} {ρ:Rho} {w:World} {st:St} {v:Value} {o:Obj} (ht:∀j,o.tag=some j→O1.org j=O2.org j) (h: @ORep O1 F ρ w st v o): @ORep O2 F ρ w st v o:=by
 cases o with
 | box T cs tg=>exact ⟨fun j e=>(h.1 j e).trans (ht j e),h.2⟩
 | gone tg=>exact fun j e=>(h j e).trans (ht j e)
 | row E t l lk=>exact h
 | map kt vt l=>exact h
 | sit s p=>exact h
 | deep E d l=>exact h
theorem R.orgs {O1 O2:Orgs} {Mod F:Nat→Prop} {ρ:Rho} {w:World} {st:St} {tm:Array Value} (h: @R O1 _ Mod F ρ w st tm) (ht:∀id ver o j,find id st.ob=some (ver,o)→o.tag=some j→O1.org j=O2.org j): @R O2 _ Mod F ρ w st tm:=by
 cases h with
 | mk h1 h2 h3 h4 h5 h6 h7 h8=>exact @R.mk O2 _ Mod F ρ w st tm h1 h2 (fun id ver o hf=>ORep.orgs (ht id ver o · hf) (h3 id ver o hf)) h4 h5 h6 h7 h8
theorem R.mod [Orgs] {Mod Mod' F:Nat→Prop} {ρ:Rho} {w:World} {st:St} {tm:Array Value} (h:R Mod F ρ w st tm) (hi:∀b,w.heap.size≤b→Mod' b)
  (hm:∀id ver o b,find id st.ob=some (ver,o)→o.free=true→b∈hb (ρ id)→Mod b→Mod' b):R Mod' F ρ w st tm:=
 ⟨h.size,h.tms,h.obs,fun id ver o b h1 h2 h3=>let ⟨k1,k2,k3,k4⟩:=h.sep id ver o b h1 h2 h3;⟨k1,hm id ver o b h1 h2 h3 k2,k3,k4⟩,h.data,h.low,hi,h.tabs⟩
theorem Evo.mod {Mod Mod' F F':Nat→Prop} {w w':World} (h:Evo Mod' F w F' w') (hm:∀b,Mod' b→Mod b):Evo Mod F w F' w':=
 ⟨h.os,h.tape,h.output,h.size,h.more,fun b hb=>(h.new b hb).imp id (hm b),fun b hlt hF=>h.same b hlt (hF.imp id fun hn hm'=>hn (hm b hm'))⟩
end Go.Ev
end

section
namespace Go.Ev
variable [Tabs]
open Go
theorem ZC9 {es:Array MapEntry} (hn:(es.toList.map (·.born)).Nodup) {seen:Array Nat} {e:MapEntry} (he:e∈(leftOf es seen).toList):
  ∃A B,(leftOf es seen).toList=A++e :: B∧(leftOf es (seen.push e.born)).toList=A++B:=by
 obtain ⟨A,B,hAB⟩:=List.append_of_mem he
 refine ⟨A,B,hAB,?_⟩
 have h1:(leftOf es (seen.push e.born)).toList=(leftOf es seen).toList.filter fun x=>x.born !=e.born:=by
  unfold leftOf
  simp only[Array.toList_filter,List.filter_filter]
  congr 1
  funext x
  simp only[Array.contains_push]
  cases h:seen.contains x.born <;> cases h':(x.born==e.born) <;> simp_all
 have hnl:((leftOf es seen).toList.map (·.born)).Nodup:=by
  unfold leftOf
  simp only[Array.toList_filter]
  exact hn.sublist (List.filter_sublist.map _)
 rw[h1,hAB]
 rw[hAB,List.map_append,List.map_cons,List.nodup_append] at hnl
 obtain ⟨_,n2,n3⟩:=hnl
 rw[List.nodup_cons] at n2
 rw[List.filter_append,List.filter_cons]
 have hA:A.filter (fun x=>x.born !=e.born)=A:=List.filter_eq_self.2 fun x hx=>by
  have:=n3 x.born (List.mem_map.2 ⟨x,hx,rfl⟩) e.born (by simp)
  simpa using this
 have hB:B.filter (fun x=>x.born !=e.born)=B:=List.filter_eq_self.2 fun x hx=>by
  have:x.born≠e.born:=fun eq=>n2.1 (List.mem_map.2 ⟨x,hx,eq⟩)
  simpa using this
 rw[hA,hB]
 simp
structure RangeText where
 s1:Nat
 s2:Nat
 b0:Nat
 b1:Nat
 ops1:Array Oper
 ops2:Array Oper
 cr:Code
 tit:Nat
 tn:Nat
 tok:Nat
 td:Nat
 on:Oper
 en:Oper
@[reducible] def RangeText.code (X:RangeText):Code:=.block X.b0 (.loop (.seq (.region X.s1 X.ops1 false) (.seq (.cond (.tmp X.tok) .skip (.exit X.b0)) (.block X.b1 (.seq (.region X.s2 X.ops2 false) X.cr)))))
structure RangeText.OK (X:RangeText):Prop where
 n1:X.ops1.size=2
 g1:X.ops1[0]? =some X.on
 op1:X.on.op=.next (.tmp X.tit) false
 d1:X.on.dst=some X.tn
 gd1:X.on.guard=none
 g2:X.ops2[0]? =some X.en
 op2:X.en.op=.entry (.tmp X.tit)
 d2:X.en.dst=some X.td
 gd2:X.en.guard=none
structure RangeEv (P:Program) (cl:Cl) (X:RangeText) {kt vt:Ty} (l:List (El kt×El vt)) (lab:Lab) (idm J:Nat) (stI stE:Value→List (El kt×El vt)→St) (stT stU:Value→List (El kt×El vt)→El kt×El vt→St):Prop where
 it:∀v done,(stI v done).ev (.tmp X.tit)=.cst v
 r1:∀v done e k,opsA P cl X.ops1 (X.ops1.toList.drop 1) ((stI v done).put (some X.tn) (.tu [mkB true,.d kt e.1,.d vt e.2])) k=k (stT v done e)
 rt:∀v done e,(stT v done e).ev (.tmp X.tok)=.d .bool true
 re:∀v done e,(stT v done e).ev (.tmp X.tit)=.cst v
 r2:∀v done e k,opsA P cl X.ops2 (X.ops2.toList.drop 1) ((stT v done e).put (some X.td) (.tu [.d kt e.1,.d vt e.2])) k=k (stU v done e)
 r3:∀v done e rest,(done++e :: rest).Perm l→∀(L:Lt) (k:Kt) (x:Nat→Kt) (r:Kt),evC P cl [] L X.cr 0 (fun s=>k (norm P lab s)) x r (stU v done e)=k (stI v (done++[e]))
 f1:∀v done k,opsA P cl X.ops1 (X.ops1.toList.drop 1) ((stI v done).put (some X.tn) (.tu [mkB false])) k=k (stE v done)
 ft:∀v done,(stE v done).ev (.tmp X.tok)=.d .bool false
section
variable [Orgs] {P:Program} {Mod F0:Nat→Prop} {w0:World} {cl:Cl} {Q:Exit→Act→World→Prop}
theorem ZcP {st:St} {F:Nat→Prop} {ρ:Rho} {w:World} {a:Act} (hR:R Mod F ρ w st a.tmps) {x:Operand} {y:AV} (h:st.ev x=y):ARep F ρ w st y (a.eval x):=h▸ZD hR x
def leftN (es:Array MapEntry) (r:Nat) (w:World):Nat:=match w.heap[r]? with
 | some (.mapIter _ _ seen _)=>(leftOf es seen).size
 | _=>0
theorem ZCW (hcl:Spec P cl) (hdet:DetC cl) {X:RangeText} (hX:X.OK) {kt vt:Ty} (hlk:leafTy kt=true) (hlv:leafTy vt=true) {l l0:List (El kt×El vt)} {lab:Lab} {idm J:Nat}
  {stI stE:Value→List (El kt×El vt)→St} {stT stU:Value→List (El kt×El vt)→El kt×El vt→St} (hE:RangeEv P cl X l lab idm J stI stE stT stU)
  {m r clock:Nat} {es:Array MapEntry} (hst:Stamps es clock) (hes:es.toList.map (fun e=>(e.key,e.val))=l0.map (fun x=>(leafV kt x.1,leafV vt x.2))) (hp0:l0.Perm l)
  (hMr:Mod r) (hmr:m≠r)
  {a:Act} {w:World} (hd:a.defers=[]) {F:Nat→Prop} {ρ:Rho} (hR:R (fun b=>Mod b∧b≠r∧b≠m) F ρ w (stI (.pointer (some ⟨r,0,none⟩)) []) a.tmps) (hEv:Evo Mod F0 w0 F w)
  (hm:w.heap[m]? =some (.map es clock)) (hr:w.heap[r]? =some (.mapIter (some m) clock #[] clock)) (hFm:¬F m) (hFr:¬F r)
  (hQ:∀done a' w' F' ρ',done.Perm l→R (fun b=>Mod b∧b≠r∧b≠m) F' ρ' w' (stE (.pointer (some ⟨r,0,none⟩)) done) a'.tmps→a'.defers=[]→Evo Mod F0 w0 F' w'→w'.heap[m]? =some (.map es clock)→¬F' m→Q .normal a' w'):
  X.code.wp P Q a w:=by
 let it:Value:=.pointer (some ⟨r,0,none⟩)
 let M':Nat→Prop:=fun b=>Mod b∧b≠r∧b≠m
 let I:Act→World→Prop:=fun a w=>a.defers=[]∧∃F ρ done rest seen c0,R M' F ρ w (stI it done) a.tmps∧Evo Mod F0 w0 F w∧w.heap[m]? =some (.map es clock)∧w.heap[r]? =some (.mapIter (some m) clock seen c0)∧clock≤c0∧¬F m∧¬F r∧
  (done++rest).Perm l∧(leftOf es seen).toList.map (fun e=>(e.key,e.val))=rest.map (fun x=>(leafV kt x.1,leafV vt x.2))
 have h0:I a w:=by
  refine ⟨hd,F,ρ,[],l0, #[],clock,hR,hEv,hm,hr,Nat.le_refl _,hFm,hFr,hp0,?_⟩
  rw[←hes,show (leftOf es #[]).toList=es.toList by unfold leftOf;simp only[Array.toList_filter];exact List.filter_eq_self.2 (fun x _=>by simp)]
 unfold RangeText.code
 refine wp_block (wp_loop I (fun _ w=>leftN es r w) h0 fun a w hI=>?_)
 obtain ⟨hd,F,ρ,done,rest,seen,c0,hR,hEv,hm,hr,hc0,hFm,hFr,hperm,hleft⟩:=hI
 have hrl:r < w.heap.size:=(Array.getElem?_eq_some_iff.1 hr).1
 have hml:m < w.heap.size:=(Array.getElem?_eq_some_iff.1 hm).1
 refine wp_seq (wp_region ?_)
 rw[hX.n1,show List.range 2=0 :: List.range' 1 1 from rfl]
 have hlen1:(X.ops1.toList.drop 1).length=1:=by simp[hX.n1]
 have hr11:List.range' 1 1=List.range' 1 (X.ops1.toList.drop 1).length:=by rw[hlen1]
 refine handOp hX.g1 hX.gd1 ?_
 have hit:a.eval (.tmp X.tit)=it:=Zh8 (ZcP hR (hE.it it done))
 have hold:∀x∈es.toList,x.born < clock:=fun x hx=>hst.1 x.born (List.mem_map.2 ⟨x,hx,rfl⟩)
 unfold Oper.wp
 rcases run_next_at (P:=P) w X.on.type r m clock c0 seen es clock hr hm hold hc0 with ⟨hz,hrun⟩ | ⟨e,he,w1,hw1,hrun⟩
 ·-- nothing is left
  have hx:(execOp a.eval X.on).run P w=.ok (.value (.tuple #[.bool false])) w:=by
   simp only[execOp,hX.op1,hit]
   simp[it,hrun]
  rw[hx]
  show wpOps P X.ops1 _ (List.range' 1 1) (a.put X.on.dst _) w
  rw[hX.d1,hr11]
  have hR1:R M' F ρ w ((stI it done).put (some X.tn) (.tu [mkB false])) (a.put (some X.tn) (.tuple #[.bool false])).tmps:=
   R.put (a:=a) hR (.tu _ _ (by simp) fun i c v h1 h2=>by
    match i with
    | 0=>simp at h1 h2;subst h1;subst h2;exact ZcQ _
    | n+1=>simp at h1) (some X.tn)
  refine evOps (Mod:=M') (F0:=F) (w0:=w) (st1:=stE it done) hcl _ 1 rfl (hE.f1 it done) ⟨by rw[ZV];exact hd,F,ρ,hR1,Evo.refl _ _ _⟩ fun a' w' hr'=>?_
  obtain ⟨hd',F',ρ',hR',hE'⟩:=hr'
  have hok:a'.eval (.tmp X.tok)=.bool false:=Zcf (ZcP hR' (hE.ft it done))
  refine wp_seq (wp_cond_false hok (wp_exit ?_))
  show Exit.inBlock X.b0 Q (.exit X.b0) a' w'
  simp only[Exit.inBlock,if_true]
  have hrest:rest=[]:=by
   have h1:(leftOf es seen).toList.length=0:=by simpa using hz
   have h2:=congrArg List.length hleft
   simp only[List.length_map] at h2
   exact List.eq_nil_of_length_eq_zero (by omega)
  subst hrest
  rw[List.append_nil] at hperm
  refine hQ done a' w' F' ρ' hperm hR' hd' (hEv.trans (hE'.mod fun b hb=>hb.1)) ?_ ?_
  ·rw[hE'.same m hml (.inr fun h=>h.2.2 rfl)];exact hm
  ·exact fun h=>(hE'.new m h).elim hFm fun h=>h.2.2 rfl
 ·-- one entry comes out
  have hx:(execOp a.eval X.on).run P w=.ok (.value (.tuple #[.bool true,e.key,e.val])) (ChangeMaps.setBlock w1 r (.mapIter (some m) clock (seen.push e.born) clock)):=by
   simp only[execOp,hX.op1,hit]
   simp[it,hrun]
  rw[hx]
  generalize hw2:ChangeMaps.setBlock w1 r (.mapIter (some m) clock (seen.push e.born) clock)=w2
  have w2heap:∀b,b≠r→w2.heap[b]? =w.heap[b]?:=fun b hb=>by
   subst hw2
   rcases hw1 with h | h
   ·rw[h];exact Array.getElem?_setIfInBounds_ne (Ne.symm hb)
   ·rw[h];exact Array.getElem?_setIfInBounds_ne (Ne.symm hb)
  have w2r:w2.heap[r]? =some (.mapIter (some m) clock (seen.push e.born) clock):=by
   subst hw2
   rcases hw1 with h | h
   ·rw[h];exact Array.getElem?_setIfInBounds_self_of_lt hrl
   ·rw[h];exact Array.getElem?_setIfInBounds_self_of_lt (show r < w.heap.size from hrl)
  have w2size:w2.heap.size=w.heap.size:=by
   subst hw2
   rcases hw1 with h | h
   ·rw[h];exact Array.size_setIfInBounds
   ·rw[h];exact Array.size_setIfInBounds (xs:=w.heap)
  have w2os:w2.os=w.os∧w2.tape=w.tape∧w2.output=w.output:=by
   subst hw2
   rcases hw1 with h | h <;> rw[h] <;> exact ⟨rfl,rfl,rfl⟩
  show wpOps P X.ops1 _ (List.range' 1 1) (a.put X.on.dst _) w2
  rw[hX.d1,hr11]
  obtain ⟨A,B,hA,hB⟩:=ZC9 hst.2 he
  obtain ⟨A',B',e',hrest,hA',he',hB'⟩:∃A' B' e',rest=A'++e' :: B'∧A.map (fun e=>(e.key,e.val))=A'.map (fun x=>(leafV kt x.1,leafV vt x.2))∧(e.key,e.val)=(leafV kt e'.1,leafV vt e'.2)∧B.map (fun e=>(e.key,e.val))=B'.map (fun x=>(leafV kt x.1,leafV vt x.2)):=by
   rw[hA,List.map_append,List.map_cons] at hleft
   obtain ⟨A',R',e1,e2,e3⟩:=List.map_eq_append_iff.1 hleft.symm
   obtain ⟨e',B',e4,e5,e6⟩:=List.map_eq_cons_iff.1 e3
   exact ⟨A',B',e',by rw[e1,e4],e2.symm,e5.symm,e6.symm⟩
  simp only[Prod.mk.injEq] at he'
  obtain ⟨hk1,hv1⟩:=he'
  have hperm2:(done++e' :: (A'++B')).Perm l:=by
   refine List.Perm.trans ?_ hperm
   rw[hrest]
   exact (List.perm_middle.symm).append_left done
  have hR2:R M' F ρ w2 (stI it done) a.tmps∧Evo Mod F w F w2:=by
   have hRa:R (fun b=>Mod b∧b≠m) F ρ w (stI it done) a.tmps:=hR.mod (fun b hb=>⟨(hR.hi b hb).1,by omega⟩) fun id ver o b h1 h2 h3 h4=>⟨h4.1,h4.2.2⟩
   have hw:Evo (fun b=>b=r) F w F w2:=⟨w2os.1,w2os.2.1,w2os.2.2,by omega,fun _ h=>h,fun _ h=>.inl h,fun b _ hb=>w2heap b (hb.elim (fun h e=>hFr (e▸h)) id)⟩
   obtain ⟨h1,h2⟩:=hRa.world hw (fun b hb=>by subst hb;exact ⟨hMr,fun e=>hmr e.symm⟩) (fun b ⟨id,ver,o,k1,k2,k3⟩ hb=>by subst hb;exact (hR.sep id ver o b k1 k2 k3).2.1.2.1 rfl) (fun b hb=>by rw[w2size];exact hR.low b hb)
   refine ⟨h1.mod (fun b hb=>⟨(hR.hi b (by omega)).1,by omega,by omega⟩) fun id ver o b k1 k2 k3 k4=>(hR.sep id ver o b k1 k2 k3).2.1,h2.mod fun b hb=>hb.1⟩
  obtain ⟨hR2,hE2⟩:=hR2
  have hR3:R M' F ρ w2 ((stI it done).put (some X.tn) (.tu [mkB true,.d kt e'.1,.d vt e'.2])) (a.put (some X.tn) (.tuple #[.bool true,e.key,e.val])).tmps:=
   R.put (a:=a) hR2 (.tu _ _ (by simp) fun i c v h1 h2=>by
    match i with
    | 0=>simp at h1 h2;subst h1;subst h2;exact ZcQ _
    | 1=>simp at h1 h2;subst h1;subst h2;rw[hk1];exact Zna hlk _
    | 2=>simp at h1 h2;subst h1;subst h2;rw[hv1];exact Zna hlv _
    | n+3=>simp at h1) (some X.tn)
  refine evOps (Mod:=M') (F0:=F) (w0:=w2) (st1:=stT it done e') hcl _ 1 rfl (hE.r1 it done e') ⟨by rw[ZV];exact hd,F,ρ,hR3,Evo.refl _ _ _⟩ fun a3 w3 hr3=>?_
  have hkeep:∀ {F3:Nat→Prop} {w3:World},Evo M' F w2 F3 w3→w3.heap[m]? =some (.map es clock)∧w3.heap[r]? =some (.mapIter (some m) clock (seen.push e.born) clock):=fun h=>
   ⟨by rw[h.same m (by omega) (.inr fun h=>h.2.2 rfl),w2heap m hmr];exact hm,by rw[h.same r (by omega) (.inr fun h=>h.2.1 rfl)];exact w2r⟩
  obtain ⟨hd3,F3,ρ3,hR3,hE3⟩:=hr3
  have hok:a3.eval (.tmp X.tok)=.bool true:=Zcf (ZcP hR3 (hE.rt it done e'))
  have hit3:a3.eval (.tmp X.tit)=it:=Zh8 (ZcP hR3 (hE.re it done e'))
  refine wp_seq (wp_cond_true hok (wp_skip ?_))
  refine wp_block (wp_seq (wp_region ?_))
  have hsz2:0 < X.ops2.size:=(Array.getElem?_eq_some_iff.1 hX.g2).1
  have hlen2:(X.ops2.toList.drop 1).length=X.ops2.size - 1:=by simp
  rw[show List.range X.ops2.size=0 :: List.range' 1 (X.ops2.toList.drop 1).length from by
   rw[hlen2,List.range_eq_range']
   obtain ⟨n,hn⟩:∃n,X.ops2.size=n+1:=⟨X.ops2.size - 1,by omega⟩
   rw[hn,List.range'_succ];rfl]
  refine handOp hX.g2 hX.gd2 ?_
  unfold Oper.wp
  obtain ⟨hm3,hr3'⟩:=hkeep hE3
  have hx3:(execOp a3.eval X.en).run P w3=.ok (.value (.tuple #[e.key,e.val])) w3:=by
   simp only[execOp,hX.op2,hit3]
   simp[it,run_entry_at (P:=P) w3 r m clock seen es clock e hr3' hm3 (mem_left he).1 hst.2]
  rw[hx3]
  show wpOps P X.ops2 _ _ (a3.put X.en.dst _) w3
  rw[hX.d2]
  have hR4:R M' F3 ρ3 w3 ((stT it done e').put (some X.td) (.tu [.d kt e'.1,.d vt e'.2])) (a3.put (some X.td) (.tuple #[e.key,e.val])).tmps:=
   R.put (a:=a3) hR3 (.tu _ _ (by simp) fun i c v h1 h2=>by
    match i with
    | 0=>simp at h1 h2;subst h1;subst h2;rw[hk1];exact Zna hlk _
    | 1=>simp at h1 h2;subst h1;subst h2;rw[hv1];exact Zna hlv _
    | n+2=>simp at h1) (some X.td)
  refine evOps (Mod:=M') (F0:=F) (w0:=w2) (st1:=stU it done e') hcl _ 1 rfl (hE.r2 it done e') ⟨by rw[ZV];exact hd3,F3,ρ3,hR4,hE3⟩ fun a4 w4 hr4=>?_
  refine piece (Mod:=M') (F0:=F) (w0:=w2) (st1:=stI it (done++[e'])) hcl hdet (norm P lab) (fun h=>Zah h) (hE.r3 it done e' (A'++B') hperm2) hr4 fun a5 w5 hr5=>?_
  obtain ⟨hd5,F5,ρ5,hR5,hE5⟩:=hr5
  obtain ⟨hm5,hr5'⟩:=hkeep hE5
  refine ⟨⟨hd5,F5,ρ5,done++[e'],A'++B',seen.push e.born,clock,hR5,(hEv.trans hE2).trans (hE5.mod fun b hb=>hb.1),hm5,hr5',Nat.le_refl _,fun h=>(hE5.new m h).elim hFm fun h=>h.2.2 rfl,fun h=>(hE5.new r h).elim hFr fun h=>h.2.1 rfl,by simpa using hperm2,by rw[hB,List.map_append,List.map_append,hA',hB']⟩,?_⟩
  unfold leftN
  rw[hr5',hr]
  simp only
  have e1:(leftOf es seen).size=A.length+(B.length+1):=by rw[←Array.length_toList,hA];simp
  have e2:(leftOf es (seen.push e.born)).size=A.length+B.length:=by rw[←Array.length_toList,hB];simp
  omega
end
theorem Zwi {f:Id×Nat×Obj→Bool} :∀ {l:List (Id×Nat×Obj)},l.all f=true→∀ {id:Id} {p:Nat×Obj},find id l=some p→f (id,p)=true
 | [],_,id,p,h=>by cases h
 | (x,q) :: r,ha,id,p,h=>by
  simp only[List.all_cons,Bool.and_eq_true] at ha
  simp only[find] at h
  cases hb:Nat.beq x id with
  | true=>
   rw[hb] at h
   have:=Nat.eq_of_beq_eq_true hb
   subst this
   cases h
   exact ha.1
  | false=>rw[hb] at h;exact Zwi ha.2 h
@[reducible] def Orgs.at (O:Orgs) (J:Nat) (v:Value):Orgs:=⟨fun j=>if j=J then v else O.org j⟩
theorem goneR [Orgs] {Mod F:Nat→Prop} {ρ:Rho} {w:World} {st:St} {tm:Array Value} {id0 ver0 J m r:Nat} {o:Obj} (hR:R Mod F ρ w st tm) (hf0:find id0 st.ob=some (ver0,o)) (hρ:ρ id0=.map (some m)) (hofr:o.free=true)
  (hJ:Orgs.org J=.map (some m)) (hr:r < w.heap.size) (hrb:∀id ver o b,find id st.ob=some (ver,o)→o.free=true→b∈hb (ρ id)→b≠r):
  R (fun b=>Mod b∧b≠r∧b≠m) F ρ w (st.setOb id0 ver0 (.gone (some J))) tm:=by
 obtain ⟨s1,s2,s3,s4⟩:=hR.sep id0 ver0 _ m hf0 hofr (by rw[hρ];exact List.mem_singleton.2 rfl)
 have h3:R Mod F ρ w (st.setOb id0 ver0 (.gone (some J))) tm:=by
  have:=(R.set' hR (id:=id0) (ver':=ver0) (o':=.gone (some J)) (h':=ρ id0) (w':=w) rfl rfl rfl (Nat.le_refl _) (.inl ⟨_,hf0,rfl,o.sim_gone _⟩) (fun _ _ _=>rfl) (fun e=>by cases e) (fun _ _ _ e=>by cases e) (fun j e=>by
   cases e
   rw[hρ,hJ])).1
  rwa[Zgi] at this
 refine h3.mod (fun b hb=>⟨h3.hi b hb,by omega,by omega⟩) fun id ver o b k1 k2 k3 k4=>?_
 rw[ZA] at k1
 split at k1
 ·cases k1;cases k2
 ·rename_i hne
  obtain ⟨_,_,t3,t4⟩:=hR.sep id ver o b k1 k2 k3
  refine ⟨k4,hrb id ver o b k1 k2 k3,fun e=>hne ?_⟩
  subst e
  exact (t4 id0 ver0 _ hf0 hofr (by rw[hρ];exact List.mem_singleton.2 rfl)).symm
theorem backR [Orgs] {Mod F:Nat→Prop} {ρ:Rho} {w:World} {st:St} {tm:Array Value} {id0 J m r:Nat} {kt vt:Ty} {l:List (El kt×El vt)} (hR:R (fun b=>Mod b∧b≠r∧b≠m) F ρ w st tm) (hf0:find id0 st.ob=some (0,.gone (some J)))
  (hJ:Orgs.org J=.map (some m)) (hF:¬F m) (hMod:Mod m) (hm:m < w.heap.size) (hrep:MapRep w kt vt l (.map (some m))):R Mod F ρ w (st.setOb id0 0 (.map kt vt l)) tm:=by
 have hρ:ρ id0=.map (some m):=(hR.obs id0 0 _ hf0 J rfl).trans hJ
 have h1:R Mod F ρ w st tm:=hR.mod (fun b hb=>(hR.hi b hb).1) fun id ver o b k1 k2 k3 k4=>k4.1
 have:=(R.set' h1 (id:=id0) (ver':=0) (o':=.map kt vt l) (h':=ρ id0) (w':=w) rfl rfl rfl (Nat.le_refl _) (.inl ⟨_,hf0,rfl,trivial⟩) (fun _ _ _=>rfl) (fun _ b hb=>by
    rw[hρ] at hb
    obtain rfl:=List.mem_singleton.1 hb
    exact ⟨hF,hMod,hm,fun i v o hi k1 k2 k3=>(hR.sep i v o _ k1 k2 k3).2.1.2.2 rfl⟩) (fun _ _ _ e=>by cases e) (by rw[hρ];exact hrep)).1
 rwa[Zgi] at this
theorem startR [Orgs] {P:Program} {Mod F:Nat→Prop} {ρ:Rho} {w:World} {st:St} {a:Act} {lab:Lab} {v:Value} (hR:R Mod F ρ w st a.tmps) (d:Nat):∃ρ',R Mod F ρ' w (norm P lab (st.put (some d) (.cst v))) (a.put (some d) v).tmps:=
 ZwT (R.put (a:=a) hR (.cst v) (some d))
theorem rangeLoop [O:Orgs] {P:Program} {Mod F0:Nat→Prop} {w0:World} {cl:Cl} {Q Q2:Exit→Act→World→Prop} (hcl:Spec P cl) (hdet:DetC cl) {X:RangeText} (hX:X.OK) {kt vt:Ty} (hlk:leafTy kt=true) (hlv:leafTy vt=true)
  {l:List (El kt×El vt)} {lab:Lab} {idm J:Nat} {stI stE:Value→List (El kt×El vt)→St} {stT stU:Value→List (El kt×El vt)→El kt×El vt→St} (hE:RangeEv P cl X l lab idm J stI stE stT stU)
  {st0:St} {orng:Oper} {T K V:TypeId} {tm idm0 ver0:Nat} (hop:orng.op=.range T (.tmp tm)) (hdst:orng.dst=some X.tit) (hT:P.underlying T=some (.map K V))
  (hev:st0.ev (.tmp tm)=.mp idm0 ver0) (hob:st0.obj idm0 ver0=some (.map kt vt l)) (hJ0:(st0.ob.all fun p=>p.2.2.tag !=some J)=true)
  (hI0:∀v,norm P lab ((st0.setOb idm0 ver0 (.gone (some J))).put (some X.tit) (.cst v))=stI v [])
  (hJ1:∀v done,find idm (stE v done).ob=some (0,.gone (some J))) (hJ2:∀v done,((stE v done).ob.all fun p=>Nat.beq p.1 idm || p.2.2.tag !=some J)=true)
  {a:Act} {w:World} (hr:Rel Mod F0 w0 st0 a w)
  (hQ:∀v done a' w',done.Perm l→Rel Mod F0 w0 ((stE v done).setOb idm 0 (.map kt vt l)) a' w'→Q .normal a' w'):
  orng.wp P a w (fun a' w'=>X.code.wp P Q a' w') Q2:=by
 obtain ⟨hd,F,ρ,hR,hEv⟩:=hr
 obtain ⟨m,es,clock,e1,e2,hm,l0,hp0,hnd,hes,hst⟩:=Zqb hR hev hob
 have hf0:=ZK.1 hob
 obtain ⟨s1,s2,s3,s4⟩:=hR.sep idm0 ver0 _ m hf0 rfl (by rw[e2];exact List.mem_singleton.2 rfl)
 have hx:(execOp a.eval orng).run P w=.ok (.value (.pointer (some ⟨w.heap.size,0,none⟩))) (w.alloc (.mapIter (some m) clock #[] clock)):=by
  simp only[execOp,hop,e1,Instr.range,Sem.run_bind,run_underlying hT,Result.andThen_ok]
  simp only[getObj,Sem.run,hm,Sem.run_bind,Result.andThen_ok,Sem.run_pure]
  simp
 unfold Oper.wp
 rw[hx]
 show X.code.wp P Q (a.put orng.dst _) _
 rw[hdst]
 generalize hr':w.heap.size=r
 generalize hw1:w.alloc (.mapIter (some m) clock #[] clock)=w1
 have h1sz:w1.heap.size=w.heap.size+1:=by rw[←hw1];simp
 have h1lt:∀b,b < w.heap.size→w1.heap[b]? =w.heap[b]?:=fun b hb=>by rw[←hw1];exact Zcb w _ hb
 have h1r:w1.heap[r]? =some (.mapIter (some m) clock #[] clock):=by rw[←hw1,←hr'];exact Zbd _ _
 have hw:Evo (fun b=>w.heap.size≤b) F w F w1:=⟨by rw[←hw1];rfl,by rw[←hw1];rfl,by rw[←hw1];rfl,by omega,fun _ h=>h,fun _ h=>.inl h,fun b hb _=>h1lt b hb⟩
 obtain ⟨hR1,hE1⟩:=hR.world hw hR.hi (fun b ⟨id,ver,o,k1,k2,k3⟩ hb=>by have:=(hR.sep id ver o b k1 k2 k3).2.2.1;omega) (fun b hb=>by have:=hR.low b hb;omega)
 have tagO:∀id ver o j,find id st0.ob=some (ver,o)→o.tag=some j→O.org j=(O.at J (.map (some m))).org j:=fun id ver o j hf ht=>by
  have:=Zwi hJ0 hf
  simp only[bne_iff_ne,ne_eq] at this
  show O.org j=if j=J then _ else _
  rw[if_neg (fun e=>this (by rw[ht,e]))]
 have hR2: @R (O.at J (.map (some m))) _ Mod F ρ w1 st0 a.tmps:=R.orgs hR1 tagO
 have hJm:(O.at J (.map (some m))).org J=.map (some m):=if_pos rfl
 have hR4:= @goneR _ (O.at J (.map (some m))) Mod F ρ w1 st0 a.tmps idm0 ver0 J m r _ hR2 hf0 e2 rfl hJm (by omega) (fun id ver o b k1 k2 k3=>by have:=(hR.sep id ver o b k1 k2 k3).2.2.1;omega)
 obtain ⟨ρ5,hR5⟩:= @startR _ (O.at J (.map (some m))) P _ _ _ _ _ a lab (.pointer (some ⟨r,0,none⟩)) hR4 X.tit
 rw[hI0] at hR5
 refine @ZCW _ (O.at J (.map (some m))) P Mod F0 w0 cl Q hcl hdet X hX kt vt hlk hlv l l0 lab idm J stI stE stT stU hE m r clock es hst hes hp0 (hR.hi r (by omega)) (by omega) _ w1 (by rw[ZV];exact hd) F ρ5 hR5 (hEv.trans hE1) (by rw[h1lt m s3];exact hm) h1r s1 (fun h=>by have:=hR.low r h;omega) ?_
 intro done a' w' F' ρ' hp hRe hd' hEe hm' hFm'
 refine hQ (.pointer (some ⟨r,0,none⟩)) done a' w' hp ⟨hd',F',ρ',?_,hEe⟩
 have hR6:= @backR _ (O.at J (.map (some m))) Mod F' ρ' w' _ a'.tmps idm J m r kt vt l hRe (hJ1 _ done) hJm hFm' s2 ((Array.getElem?_eq_some_iff.1 hm').1) ⟨m,es,clock,rfl,hm',hlk,hlv,l0,hp0,hnd,hes,hst⟩
 refine R.orgs hR6 fun id ver o j hf ht=>?_
 rw[ZA] at hf
 split at hf
 ·cases hf;cases ht
 ·rename_i hne
  have:=Zwi (hJ2 (.pointer (some ⟨r,0,none⟩)) done) hf
  simp only[Bool.or_eq_true,bne_iff_ne,ne_eq] at this
  rcases this with h | h
  ·exact absurd (Nat.eq_of_beq_eq_true h) hne
  ·show (if j=J then _ else O.org j)=O.org j
   rw[if_neg (fun e=>h (by rw[ht,e]))]
end Go.Ev
end

section
namespace Go.Ev
variable [Tabs]
open Go
def SortOK (P:Program) (f:FuncId):Prop:=
 (∀(blk off cap:Nat) (zs:List Int) (w:World),Go.Sort.Holds (Value.int .i64) w blk off zs.toArray→blk < w.heap.size→zs.length < 4611686018427387904→
  Calls P f #[.slice (some ⟨blk,off,none⟩) zs.length cap] w fun e w'=>e=.returned (.tuple #[])∧∃n os,w'=Go.Sort.grow (Go.Sort.putRow (Value.int .i64) (Go.Sort.ahead w n) blk off (zs.mergeSort fun x y=>decide (x≤y)).toArray) os)∧
 ∀(p:Option Addr) (cap:Nat) (w:World),Calls P f #[.slice p 0 cap] w fun e w'=>e=.returned (.tuple #[])∧w'=w
@[reducible] def sorted (l:List Int):List Int:=l.mergeSort fun x y=>decide (x≤y)
theorem ZEr {w:World} {g off:Nat} {cur:Array Value} {e:TypeId} {ss:List Int} (hb:w.heap[g]? =some (.cells cur e (0,0))) (ht:(cur.toList.drop off).take ss.length=ss.map (Value.int .i64)):Go.Sort.Holds (Value.int .i64) w g off ss.toArray:=by
 intro j hj
 have hj':j < ss.length:=by simpa using hj
 refine ⟨?_,by simp[World.frozen?,hb]⟩
 have h1:((cur.toList.drop off).take ss.length)[j]? =(ss.map (Value.int .i64))[j]?:=by rw[ht]
 rw[List.getElem?_take_of_lt hj',List.getElem?_drop] at h1
 simp only[World.cell?,hb]
 simp only[Option.isSome_none,Bool.false_eq_true,if_false]
 rw[←Array.getElem?_toList,h1]
 simp[hj']
theorem ZtR {w:World} {g off n:Nat} {os:Array Go.Obj} {cur:Array Value} {e:TypeId} {fr:Nat×Nat} (d:Array Int) (hb:w.heap[g]? =some (.cells cur e fr)):
  (Go.Sort.grow (Go.Sort.putRow (Value.int .i64) (Go.Sort.ahead w n) g off d) os).heap[g]? =some (.cells (Go.Sort.putCells (Value.int .i64) off d cur) e fr):=by
 have hg:g < w.heap.size:=(Array.getElem?_eq_some_iff.1 hb).1
 rw[Go.Sort.heap_grow_old _ _ (by simpa using hg)]
 simp[Go.Sort.putRow,Go.Sort.mapBlock,Go.Sort.ahead,Array.getElem?_modify,hb,Go.Sort.onCells]
theorem Zqg {w:World} {g off n:Nat} {os:Array Go.Obj} (d:Array Int):w.grownBy (Go.Sort.grow (Go.Sort.putRow (Value.int .i64) (Go.Sort.ahead w n) g off d) os) (some g):=by
 refine ⟨rfl,rfl,rfl,by simp,fun k hk hne=>?_⟩
 rw[Go.Sort.heap_grow_old _ _ (by simpa using hk)]
 have:g≠k:=fun e=>hne (by rw[e])
 simp[Go.Sort.putRow,Go.Sort.mapBlock,Go.Sort.ahead,Array.getElem?_modify,this]
theorem ZvK {w:World} {g off cap n:Nat} {e:TypeId} {os:Array Go.Obj} {cur:Array Value} {ss ts:List Int} (hl:ts.length=ss.length) (hb:w.heap[g]? =some (.cells cur e (0,0)))
  (h1:ss.length≤cap) (h2:cap≤maxLen) (h3:off+cap*1≤cur.size):
  ownsAt (Go.Sort.grow (Go.Sort.putRow (Value.int .i64) (Go.Sort.ahead w n) g off ts.toArray) os) e 1 (.slice (some ⟨g,off,none⟩) ss.length cap) ss.length (ts.map (Value.int .i64)):=by
 refine ⟨by simp[hl],.inr ⟨g,off,cap,_,rfl,ZtR _ hb,h1,h2,by simpa[Go.Sort.putCells] using h3,?_⟩⟩
 rw[Nat.mul_one,←hl]
 apply List.ext_getElem?
 intro j
 by_cases hj:j < ts.length
 ·rw[List.getElem?_take_of_lt hj,List.getElem?_drop,Array.getElem?_toList]
  simp[Go.Sort.putCells,hj,show off+j < cur.size by omega]
 ·rw[List.getElem?_take_eq_none (by omega),List.getElem?_eq_none (by simp;omega)]
theorem sortStep [Orgs] {P:Program} {Mod F0:Nat→Prop} {w0:World} {st:St} {o:Oper} {c:Call} {f ts id ver:Nat} {E:TypeId} {l:List Int} {fn:Func} {body:Code}
  (hop:o.op=.call c) (hc:c.callee=.value (.func f)) (hargs:c.args= #[.tmp ts]) (hfn:P.funcs[f]? =some fn) (hname:(fn.name== "runtime.NumGoroutine")=false) (hbody:fn.body=some body)
  (hev:st.ev (.tmp ts)=.own id ver none) (hob:st.obj id ver=some (.row E (.int .i64) l false)) (hS:SortOK P f) (hlim:l.length < 4611686018427387904)
  {a:Act} {w:World} (hr:Rel Mod F0 w0 st a w) {next:Act→World→Prop} {Q:Exit→Act→World→Prop}
  (hK:∀a' w',Rel Mod F0 w0 ((st.setOb id ver (.row E (.int .i64) (sorted l) false)).put o.dst .top) a' w'→next a' w'):o.wp P a w next Q:=by
 obtain ⟨hd,F,ρ,hR,hEv⟩:=hr
 have hf0:=ZK.1 hob
 have hv:=ZcP hR hev
 generalize hu:a.eval (.tmp ts)=u at hv
 cases hv with
 | own _ _ _ _ hbn h1 hp=>
  obtain ⟨_,A,cap,hρ,hu2⟩:=hp _ _ _ _ hob
  simp only[Option.getD_none] at hu2
  have hrun:(execOp a.eval o).run P w=.ok (.enter f #[u]) w:=by
   have hn:¬fn.name= "runtime.NumGoroutine" :=by simpa using hname
   have he:a.eval (.func f)=.func (.func f) #[] #[]:=rfl
   simp[execOp,hop,resolve,hc,he,Deferred.ofValue,invoke,callFunc,hfn,hn,hbody,hargs,hu]
  unfold Oper.wp
  rw[hrun,Oper.upon_enter]
  obtain ⟨cells,hown,hrep⟩:RowRep F w E (.int .i64) l (ρ id):=hR.obs id ver _ hf0
  have hlen:(sorted l).length=l.length:=List.length_mergeSort l
  have hcells:cells=l.map (Value.int .i64):=by
   apply List.ext_getElem?
   intro i
   have hl:cells.length=l.length:=by have:=hown.1;simpa[Ty.cells] using this
   rw[List.getElem?_map]
   cases hi:l[i]? with
   | none=>rw[List.getElem?_eq_none (by have:=List.getElem?_eq_none_iff.1 hi;omega)];rfl
   | some x=>
    obtain ⟨cs,hcs,hall⟩:=hrep i x hi
    have hcs':cs=[Value.int .i64 x]:=hcs
    have:=hall 0 (Value.int .i64 x) (by rw[hcs'];rfl)
    simpa[Ty.cells] using this
  rw[hρ] at hown
  rcases hown with ⟨_,⟨hv0,hn0⟩ | ⟨g,off,cap',cur,hv0,hb,hn,hcm,hsz,htk⟩⟩
  ·-- nothing
   have hl0:l=[]:=List.eq_nil_of_length_eq_zero hn0
   subst hl0
   rw[hu2,hv0]
   refine Calls.mono (hS.2 none 0 w) fun e w' he=>?_
   obtain ⟨rfl,rfl⟩:=he
   refine hK _ _ ⟨by rw[ZV];exact hd,F,ρ,?_,hEv⟩
   have hset:=(R.set' hR (id:=id) (ver':=ver) (o':=.row E (.int .i64) (sorted []) false) (h':=ρ id) (w':=w') rfl rfl rfl (Nat.le_refl _) (.inl ⟨_,hf0,rfl,⟨rfl,by simp[sorted]⟩⟩) (fun _ _ _=>rfl)
    (fun _ b hb=>by rw[hρ,hv0] at hb;cases hb) (fun _ _ _ e=>by cases e) (show RowRep F w' E (.int .i64) (sorted []) (ρ id) from by rw[show sorted []=[] from List.mergeSort_nil];exact hR.obs id ver _ hf0)).1
   rw[Zgi] at hset
   exact R.put (a:=a) hset (.top _) o.dst
  ·rw[hu2,hv0]
   have hgl:g < w.heap.size:=(Array.getElem?_eq_some_iff.1 hb).1
   have htk':(cur.toList.drop off).take l.length=l.map (Value.int .i64):=by rw[←hcells,←htk];simp[Ty.cells]
   have hH:=ZEr (ss:=l) hb htk'
   refine Calls.mono (hS.1 g off cap' l w hH hgl hlim) fun e w' he=>?_
   obtain ⟨rfl,n,os,rfl⟩:=he
   refine hK _ _ ?_
   have hgr:=Zqg (w:=w) (g:=g) (off:=off) (n:=n) (os:=os) (sorted l).toArray
   have hρg:ρ id=.slice (some ⟨g,off,none⟩) l.length cap':=by rw[hρ,hv0]
   have hset:=R.set' hR (id:=id) (ver':=ver) (o':=.row E (.int .i64) (sorted l) false) (h':=ρ id) (w':=Go.Sort.grow (Go.Sort.putRow (Value.int .i64) (Go.Sort.ahead w n) g off (sorted l).toArray) os) hgr.os hgr.tape hgr.output hgr.size (.inl ⟨_,hf0,rfl,⟨rfl,hlen.symm⟩⟩)
    (fun k hk hne=>hgr.block k hk fun e=>hne ver _ hf0 rfl (by rw[hρg];simp at e;rw[e];exact List.mem_singleton.2 rfl))
    (fun _ b hbb=>by
     obtain ⟨s1,s2,s3,s4⟩:=hR.sep id ver _ b hf0 rfl hbb
     exact ⟨s1,s2,Nat.lt_of_lt_of_le s3 hgr.size,fun i v o2 hi k1 k2 k3=>hi (s4 i v o2 k1 k2 k3)⟩)
    (fun _ _ _ e=>by cases e) (by
     show RowRep _ _ _ _ _ _
     rw[hρg]
     refine ⟨(sorted l).map (Value.int .i64),?_,fun i x hx=>⟨[Value.int .i64 x],rfl,fun j u hu=>?_⟩⟩
     ·have:=ZvK (n:=n) (os:=os) (ss:=l) (ts:=sorted l) hlen hb hn hcm (by simpa[Ty.cells] using hsz)
      rw[←hlen] at this
      rw[←hlen]
      exact this
     ·match j with
      | 0=>simp at hu;subst hu;simp[Ty.cells,hx]
      | j+1=>simp at hu)
   obtain ⟨hR',hE'⟩:=hset
   rw[Zgi] at hR'
   exact ⟨by rw[ZV];exact hd,F,ρ,R.put (a:=a) hR' (.top _) o.dst,hEv.trans hE'⟩
end Go.Ev
end

section
namespace Go.Ev
open Go
def fstC:Code→Code |.seq a _=>a | _=>.skip
def sndC:Code→Code |.seq _ b=>b | _=>.skip
def ropsC:Code→Array Oper |.region _ o _=>o | _=> #[]
def ridC:Code→Nat |.region i _ _=>i | _=>0
def innC:Code→Code |.block _ c=>c |.loop c=>c | _=>.skip
def bidC:Code→Nat |.block i _=>i | _=>0
def thenC:Code→Code |.cond _ a _=>a | _=>.skip
def opC (c:Code) (i:Nat):Oper:=(ropsC c)[i]?.getD default
def dstC (o:Oper):Nat:=o.dst.getD 0
def rangeText (b:Code):RangeText:=
 let l:=innC (innC b)
 let r:=innC (sndC (sndC l))
 {s1:=ridC (fstC l),s2:=ridC (fstC r),b0:=bidC b,b1:=bidC (sndC (sndC l)),ops1:=ropsC (fstC l),ops2:=ropsC (fstC r),cr:=sndC r,
  tit:=(match (opC (fstC l) 0).op with |.next (.tmp t) _=>t | _=>0),tn:=dstC (opC (fstC l) 0),tok:=dstC (opC (fstC l) 1),td:=dstC (opC (fstC r) 0),on:=opC (fstC l) 0,en:=opC (fstC r) 0 }
variable [Tabs]
section
variable [Orgs] {P:Program} {Mod F0:Nat→Prop} {w0:World} {cl:Cl} {tb:Tb}
theorem tailStep (hcl:Spec P cl) (hdet:DetC cl) {c:Code} {fin:Kt} {ps:List (Nat×(Lt→Kt))} (hps:procs P cl tb c 0 (fun _=>fin) (fun _ _ _=>none) (fun _=>fin)=ps) (hnd:nodupB (ps.map (·.1))=true)
  {S0:St} {J α:Type} {T:J→JT J α} {T0:JT J α} {S:J→Nat×St} {K:α→Ans} {v:α}
  (en:∀L,evC P cl tb L c 0 fin (fun _ _=>none) fin S0=T0.run (fun v=>some (K v)) fun j=>L (S j).1 (S j).2)
  (lp:∀L j,procOf ps (S j).1 L (S j).2=(T j).run (fun v=>some (K v)) fun j=>L (S j).1 (S j).2) (g:Goes T T0 v)
  {a:Act} {w:World} (hr:Rel Mod F0 w0 S0 a w):c.wp P (fun e a' w'=>(e=.normal∨e=.ret)∧∃st',Rel Mod F0 w0 st' a' w'∧fin st'=some (K v)) a w:=by
 obtain ⟨n,hn⟩:=ZA3 lp g
 have hs:=ZbW (Mod:=Mod) (F0:=F0) (w0:=w0) (ps:=ps) (tb:=tb) (y:=K v) hcl hdet c 0 (fun _=>fin) (fun _ _ _=>none) (fun _=>fin) (by rw[hps];exact ZC0 hnd) n S0 a w (by rw[en];exact hn) hr
 refine wp_mono hs fun e a' w' he=>?_
 cases e with
 | normal=>obtain ⟨m,st',_,hr',hk⟩:=he;exact ⟨.inl rfl,st',hr',hk⟩
 | ret=>obtain ⟨m,st',_,hr',hk⟩:=he;exact ⟨.inr rfl,st',hr',hk⟩
 | exit j=>obtain ⟨m,st',_,_,hk⟩:=he;cases hk
 | _=>exact he.elim
end
theorem ZAG {l l':List Int} (h:l.Perm l'):sorted l=sorted l':=by
 have tr:∀a b c:Int,decide (a≤b)=true→decide (b≤c)=true→decide (a≤c)=true:=fun a b c h1 h2=>by simp at*;omega
 have to:∀a b:Int,(decide (a≤b) || decide (b≤a))=true:=fun a b=>by simp;omega
 have p1:=List.pairwise_mergeSort tr to l
 have p2:=List.pairwise_mergeSort tr to l'
 have hp:(sorted l).Perm (sorted l'):=(List.mergeSort_perm l _).trans (h.trans (List.mergeSort_perm l' _).symm)
 exact hp.eq_of_pairwise (fun a b _ _ h1 h2=>by simp at h1 h2;omega) p1 p2
end Go.Ev
end

section
namespace Go.Ev
variable [Tabs]
open Go
section
variable [Orgs] {P:Program} {Mod F0:Nat→Prop} {w0:World} {cl:Cl} {st:St} {a:Act} {w:World}
end
end Go.Ev
end

section
namespace Go.Ev
open Go
theorem wrap_i64 {n:Int} (h0: -9223372036854775808≤n) (h1:n < 9223372036854775808):IntKind.i64.wrap n=n:=by
 have e:IntKind.i64.wrap n=if n % 18446744073709551616≥9223372036854775808 then n % 18446744073709551616 - 18446744073709551616 else n % 18446744073709551616:=by
  unfold IntKind.wrap
  simp[IntKind.signed,IntKind.bits]
 rw[e]
 split <;> omega
theorem Zz {k:Nat} (h:k < 4611686018427387904):IntKind.i64.wrap ((k:Int)+1)=((k+1:Nat):Int):=by
 rw[wrap_i64 (by omega) (by omega)];omega
theorem ZCL {k:Nat} (h:k < 4611686018427387904) (h0:0 < k):IntKind.i64.wrap ((k:Int) - 1)=((k - 1:Nat):Int):=by
 rw[wrap_i64 (by omega) (by omega)];omega
theorem ZaK {k n:Nat} (h:k < n):decide ((k:Int) < Int.ofNat n)=true:=by simp;omega
theorem ZW {k n:Nat} (h:¬k < n):decide ((k:Int) < Int.ofNat n)=false:=by simp;omega
theorem ZaP {k n:Nat} (h:k < n):(decide ((0:Int)≤(k:Int))&&decide ((k:Int) < Int.ofNat n))=true:=by simp;omega
theorem nng {k:Nat} :decide ((0:Int)≤(k:Int))=true:=by simp
theorem Z4 {α:Type} {l:List α} {k:Nat} {d:α} (h:k < l.length):List.getD l k d=l[k]:=by simp[List.getD,h]
theorem ZnW {a b:ByteArray} :eqB a b=true↔a=b:=by
 unfold eqB
 simp only[beq_iff_eq]
 constructor
 ·intro h;cases a;cases b;simp only[Array.toList_inj] at h;simp_all
 ·rintro rfl;rfl
theorem ZCo {a b:ByteArray} :eqB a b=decide (a=b):=by
 rw[Bool.eq_iff_iff,ZnW,decide_eq_true_iff]
instance elDec:(t:Ty)→DecidableEq (El t)
 |.int _=>inferInstanceAs (DecidableEq Int)
 |.bool=>inferInstanceAs (DecidableEq Bool)
 |.str=>inferInstanceAs (DecidableEq ByteArray)
 |.sl t=> @instDecidableEqList _ (elDec t)
 |.pr a b=> @instDecidableEqProd _ _ (elDec a) (elDec b)
 |.un=>inferInstanceAs (DecidableEq Unit)
def same (t:Ty) (a b:El t):Bool:= @decide (a=b) (elDec t a b)
def findFrom (s:ByteArray):List ByteArray→Nat→Option Nat
 | [],_=>none
 | x :: r,k=>if x=s then some k else findFrom s r (k+1)
theorem down {n:Nat} {P:Nat→Prop} (hend:P n) (hstep:∀k,k < n→P (k+1)→P k):∀k,k≤n→P k:=by
 intro k hk
 obtain ⟨m,rfl⟩:∃m,n=k+m:=⟨n - k,by omega⟩
 induction m generalizing k with
 | zero=>exact hend
 | succ m ih=>exact hstep k (by omega) (ih (k+1) (by rw[show k+1+m=k+(m+1) by omega];exact hend) (fun j hj h=>hstep j (by omega) h) (by omega))
theorem Z3 {α:Type} {l:List α} {k:Nat} (h:k < l.length):l.drop k=l[k] :: l.drop (k+1):=List.drop_eq_getElem_cons h
end Go.Ev
end

section
namespace Go.Ev
variable [Tabs]
open Go
structure SE where
 key:Int
 b:Nat
 mb:Nat
 n:Int
 l:List (El (.int .i64)×El (.int .u64))
structure HS where
 m:Nat
 es:List SE
def SE.blocks (e:SE):List Nat:=[e.b,e.mb]
def HS.blocks (h:HS):List Nat:=h.m :: h.es.flatMap SE.blocks
def SetAt (T:TypeId) (w:World) (e:SE):Prop:=w.heap[e.b]? =some (.cells #[.int .i64 e.n,.map (some e.mb)] T (0,0))∧MapRep w (.int .i64) (.int .u64) e.l (.map (some e.mb))
def SE.ptr (e:SE):Value:=.pointer (some ⟨e.b,0,none⟩)
def Hold (T:TypeId) (w:World) (h:HS):Prop:=
 (∃es clock,w.heap[h.m]? =some (.map es clock)∧Stamps es clock∧es.toList.map (fun e=>(e.key,e.val))=h.es.map fun e=>(Value.int .i64 e.key,e.ptr))∧(h.es.map SE.key).Nodup∧∀e∈h.es,SetAt T w e
theorem SetAt.same {T:TypeId} {w w':World} {e:SE} (h:∀b∈e.blocks,w'.heap[b]? =w.heap[b]?) (hs:SetAt T w e):SetAt T w' e:=by
 obtain ⟨h1,r,es,clock,h2,h3,h4⟩:=hs
 cases h2
 exact ⟨by rw[h _ (by simp[SE.blocks])];exact h1,_,es,clock,rfl,by rw[h _ (by simp[SE.blocks])];exact h3,h4⟩
theorem Hold.same {T:TypeId} {w w':World} {h:HS} (hb:∀b∈h.blocks,w'.heap[b]? =w.heap[b]?) (hs:Hold T w h):Hold T w' h:=by
 obtain ⟨⟨es,clock,h1,h2,h3⟩,h4,h5⟩:=hs
 refine ⟨⟨es,clock,by rw[hb _ (by simp[HS.blocks])];exact h1,h2,h3⟩,h4,fun e he=>(h5 e he).same fun b hbb=>hb b ?_⟩
 simp only[HS.blocks,List.mem_cons,List.mem_flatMap]
 exact .inr ⟨e,he,hbb⟩
@[reducible] def Mh (Mod:Nat→Prop) (L:List Nat) (b:Nat):Prop:=Mod b∧b∉L
def RelH [Orgs] (T:TypeId) (Mod F0:Nat→Prop) (w0:World) (h:HS) (st:St) (a:Act) (w:World):Prop:=
 a.defers=[]∧h.blocks.Nodup∧∃F ρ,R (Mh Mod h.blocks) F ρ w st a.tmps∧Evo Mod F0 w0 F w∧Hold T w h∧∀b∈h.blocks,¬F b∧Mod b∧b < w.heap.size
section
variable [Orgs] {P:Program} {T:TypeId} {Mod F0:Nat→Prop} {w0:World} {cl:Cl} {h:HS} {st st1:St} {a:Act} {w:World} {Q:Exit→Act→World→Prop}
theorem RelH.out (hr:RelH T Mod F0 w0 h st a w):Rel Mod F0 w0 st a w:=by
 obtain ⟨hd,_,F,ρ,hR,hE,_,hb⟩:=hr
 exact ⟨hd,F,ρ,hR.mod (fun b hh=>(hR.hi b hh).1) fun _ _ _ _ _ _ _ h=>h.1,hE⟩
theorem RelH.lift {st1:St} (hg:∀ {Mod F0:Nat→Prop} {w0:World},Rel Mod F0 w0 st a w→Rel Mod F0 w0 st1 a w) (hr:RelH T Mod F0 w0 h st a w):RelH T Mod F0 w0 h st1 a w:=by
 obtain ⟨hd,hn,F,ρ,hR,hE,hH,hb⟩:=hr
 obtain ⟨_,F',ρ',hR',hE'⟩:=hg (Mod:=Mh Mod h.blocks) (F0:=F) (w0:=w) ⟨hd,F,ρ,hR,Evo.refl _ _ _⟩
 have hF:∀b∈h.blocks,¬F' b:=fun b hbb hF=>(hE'.new b hF).elim (hb b hbb).1 fun hm=>hm.2 hbb
 exact ⟨hd,hn,F',ρ',hR',hE.trans (hE'.mod fun b hb=>hb.1),hH,fun b hbb=>⟨hF b hbb,(hb b hbb).2⟩⟩
theorem RelH.next {st1:St} {a':Act} {w':World} {F:Nat→Prop} {ρ:Rho} (hn:h.blocks.Nodup) (hE:Evo Mod F0 w0 F w) (hH:Hold T w h) (hb:∀b∈h.blocks,¬F b∧Mod b∧b < w.heap.size)
  (hr:Rel (Mh Mod h.blocks) F w st1 a' w'):RelH T Mod F0 w0 h st1 a' w':=by
 obtain ⟨hd',F',ρ',hR',hE'⟩:=hr
 refine ⟨hd',hn,F',ρ',hR',hE.trans (hE'.mod fun b hb=>hb.1),hH.same fun b hbb=>hE'.same b (hb b hbb).2.2 (.inr fun hm=>hm.2 hbb),fun b hbb=>⟨fun hF=>(hE'.new b hF).elim (hb b hbb).1 fun hm=>hm.2 hbb,(hb b hbb).2.1,Nat.lt_of_lt_of_le (hb b hbb).2.2 hE'.size⟩⟩
theorem pieceH (hcl:Spec P cl) (hdet:DetC cl) {c:Code} (g:St→St) (hg:∀ {Mod F0:Nat→Prop} {w0:World} {st a w},Rel Mod F0 w0 st a w→Rel Mod F0 w0 (g st) a w)
  (hev:∀(L:Lt) (k:Kt) (x:Nat→Kt) (r:Kt),evC P cl [] L c 0 (fun s=>k (g s)) x r st=k st1) (hr:RelH T Mod F0 w0 h st a w) (hQ:∀a' w',RelH T Mod F0 w0 h st1 a' w'→Q .normal a' w'):c.wp P Q a w:=by
 obtain ⟨hd,hn,F,ρ,hR,hE,hH,hb⟩:=hr
 exact piece (Mod:=Mh Mod h.blocks) (F0:=F) (w0:=w) hcl hdet g hg hev ⟨hd,F,ρ,hR,Evo.refl _ _ _⟩ fun a' w' hr'=>hQ a' w' (RelH.next (ρ:=ρ) hn hE hH hb hr')
theorem evOpH (hcl:Spec P cl) {ops:Array Oper} {i:Nat} {o:Oper} {rest:List Nat} (ho:ops[i]? =some o) (hg:o.guard=none) (hev:∀k,opA P cl o st k=k st1) (hr:RelH T Mod F0 w0 h st a w)
  (hQ:∀a' w',RelH T Mod F0 w0 h st1 a' w'→wpOps P ops Q rest a' w'):wpOps P ops Q (i :: rest) a w:=by
 obtain ⟨hd,hn,F,ρ,hR,hE,hH,hb⟩:=hr
 exact evOp (Mod:=Mh Mod h.blocks) (F0:=F) (w0:=w) hcl ho hg hev ⟨hd,F,ρ,hR,Evo.refl _ _ _⟩ fun a' w' hr'=>hQ a' w' (RelH.next (ρ:=ρ) hn hE hH hb hr')
theorem ZBo {K:TypeId} {d:TypeDesc} (hd:P.underlying K=some d) (hk:leafUnder P K (.int .i64)=true) (a b:Int):Instr.sameNow d (.int .i64 a) (.int .i64 b)=some (a==b):=by
 unfold leafUnder at hk
 rw[hd] at hk
 cases d <;> first | (simp at hk;done) | skip
 simp only[Instr.sameNow,if_true]
theorem Zvk {K:TypeId} {d:TypeDesc} (hd:P.underlying K=some d) (hk:leafUnder P K (.int .i64)=true) (key:Int):∀(l:List SE) (es:List MapEntry) (n:Nat),
  es.map (fun e=>(e.key,e.val))=l.map (fun e=>(Value.int .i64 e.key,e.ptr))→
  (l.find? (fun e=>e.key==key)=none∧Instr.findNow d (.int .i64 key) es n=some none)∨(∃e i,l.find? (fun e=>e.key==key)=some e∧Instr.findNow d (.int .i64 key) es n=some (some (n+i,e.ptr)))
 | [],es,n,h=>by
  have:es=[]:=by cases es <;> simp_all
  subst this
  exact .inl ⟨rfl,rfl⟩
 | e :: l,[],n,h=>by simp at h
 | e :: l,x :: es,n,h=>by
  simp only[List.map_cons,List.cons.injEq,Prod.mk.injEq] at h
  obtain ⟨⟨h1,h2⟩,h3⟩:=h
  by_cases hke:e.key=key
  ·refine .inr ⟨e,0,by simp[hke],?_⟩
   rw[Instr.findNow,h1,ZBo hd hk,hke]
   simp[h2]
  ·have hstep:Instr.findNow d (.int .i64 key) (x :: es) n=Instr.findNow d (.int .i64 key) es (n+1):=by
    rw[Instr.findNow,h1,ZBo hd hk]
    have:(key==e.key)=false:=by simpa using fun h=>hke h.symm
    rw[this]
   have hf:(e :: l).find? (fun e=>e.key==key)=l.find? (fun e=>e.key==key):=by
    rw[List.find?_cons_of_neg (by simpa using hke)]
   rcases Zvk hd hk key l es (n+1) h3 with ⟨a1,a2⟩ | ⟨e',i,a1,a2⟩
   ·exact .inl ⟨hf.trans a1,by rw[hstep,a2]⟩
   ·exact .inr ⟨e',i+1,hf.trans a1,by rw[hstep,a2];congr 3;omega⟩
def HS.at_ (h:HS) (key:Int):Option SE:=h.es.find? fun e=>e.key==key
def ptrOf:Option SE→Value
 | some e=>e.ptr
 | none=>.pointer none
theorem makeMapH {o:Oper} {TM:TypeId} (hop:o.op=.makeMap TM none) (hr:Rel Mod F0 w0 st a w) {next:Act→World→Prop}
  (hK:∀m a' w',RelH T Mod F0 w0 ⟨m,[]⟩ (st.put o.dst (.cst (.map (some m)))) a' w'→next a' w'):o.wp P a w next Q:=by
 obtain ⟨hd,F,ρ,hR,hE⟩:=hr
 have hrun:(execOp a.eval o).run P w=.ok (.value (.map (some w.heap.size))) (w.alloc (.map #[] 0)):=by
  simp[execOp,hop,Instr.makeMap]
 unfold Oper.wp
 rw[hrun]
 have hsz:(w.alloc (.map #[] 0)).heap.size=w.heap.size+1:=by simp
 have hE1:Evo (fun b=>w.heap.size≤b) F w F (w.alloc (.map #[] 0)):=⟨rfl,rfl,rfl,by omega,fun _ h=>h,fun _ h=>.inl h,fun b hb _=>Zcb w _ hb⟩
 obtain ⟨hR1,hE2⟩:=hR.world hE1 (fun b hb=>hR.hi b hb) (fun b ⟨id,ver,o,h1,h2,h3⟩ hb=>absurd (hR.sep id ver o b h1 h2 h3).2.2.1 (by omega)) (fun b hb=>by have:=hR.low b hb;omega)
 have hR2:R (Mh Mod [w.heap.size]) F ρ (w.alloc (.map #[] 0)) st a.tmps:=hR1.mod (fun b hb=>⟨hR1.hi b hb,by simp;omega⟩) fun id ver o b h1 h2 h3 hm=>⟨hm,by
  have:=(hR.sep id ver o b h1 h2 h3).2.2.1
  simp;omega⟩
 refine hK w.heap.size _ _ ⟨by rw[ZV];exact hd,by simp[HS.blocks],F,ρ,R.put (a:=a) hR2 (.cst _) o.dst,hE.trans hE2,⟨⟨#[],0,Zbd _ _,⟨fun b hb=>by simp at hb,List.nodup_nil⟩,rfl⟩,List.nodup_nil,fun e he=>by simp at he⟩,fun b hb=>?_⟩
 simp only[HS.blocks,List.flatMap_nil,List.mem_singleton] at hb
 subst hb
 exact ⟨fun hF=>Nat.lt_irrefl _ (hR.low _ hF),hR.hi _ (Nat.le_refl _),by omega⟩
theorem ZDf {key:Int} {e:SE} (he:h.at_ key=some e):e∈h.es∧e.key=key:=⟨List.mem_of_find?_eq_some he,by have:=List.find?_some he;simpa using this⟩
theorem lookupH {o:Oper} {TM K V:TypeId} {x k:Operand} {key:Int} (hop:o.op=.lookup TM x k false) (hu:P.underlying TM=some (.map K V)) (hk:leafUnder P K (.int .i64)=true) (hz:zeroOne P V=some (.cst (.pointer none)))
  (hx:st.ev x=.cst (.map (some h.m))) (hkey:st.ev k=.d (.int .i64) key) (hr:RelH T Mod F0 w0 h st a w) {next:Act→World→Prop}
  (hK:∀a' w',RelH T Mod F0 w0 h (st.put o.dst (.cst (ptrOf (h.at_ key)))) a' w'→next a' w'):o.wp P a w next Q:=by
 obtain ⟨hd,hn,F,ρ,hR,hE,hH,hb⟩:=hr
 obtain ⟨⟨es,clock,hm,hst,hes⟩,h4,h5⟩:=id hH
 have e1:a.eval x=.map (some h.m):=Zh8 (ZcP hR hx)
 have e3:a.eval k=.int .i64 key:=ZaJ (ZcP hR hkey)
 obtain ⟨d,hdd⟩:=Zga hk
 have hck:=ZgJ (w:=w) (kt:=.int .i64) (key:=key) hdd hk es.isEmpty
 obtain ⟨zv,hzv,hzr⟩:=Zof (st:=st) hz
 have hzc:zv=.pointer none:=Zh8 (hzr (fun _=>False) (fun _=>undef) default)
 have hzrun:(Go.zeroValue V).run P w=.ok (.pointer none) w:=by rw[←hzc];exact ZiB hzv
 have hrun:(execOp a.eval o).run P w=.ok (.value (ptrOf (h.at_ key))) w:=by
  rcases Zvk hdd hk key h.es es.toList 0 hes with ⟨a1,a2⟩ | ⟨e,i,a1,a2⟩
  ·have hfk:=ZeC (P:=P) (w:=w) hdd a2
   have:ptrOf (h.at_ key)=.pointer none:=by rw[HS.at_,a1];rfl
   simp only[execOp,hop,e1,e3,Instr.lookup,Sem.run_bind,run_underlying hu,Result.andThen_ok]
   simp only[leafV] at hck
   simp only[getObj,Sem.run,hm,Sem.run_bind,Result.andThen_ok,Sem.run_pure,hck,hfk,hzrun,this]
   rfl
  ·have hfk:=ZeC (P:=P) (w:=w) hdd a2
   have:ptrOf (h.at_ key)=e.ptr:=by rw[HS.at_,a1];rfl
   simp only[execOp,hop,e1,e3,Instr.lookup,Sem.run_bind,run_underlying hu,Result.andThen_ok]
   simp only[leafV] at hck
   simp only[getObj,Sem.run,hm,Sem.run_bind,Result.andThen_ok,Sem.run_pure,hck,hfk,this]
   rfl
 unfold Oper.wp
 rw[hrun]
 exact hK _ _ ⟨by rw[ZV];exact hd,hn,F,ρ,R.put (a:=a) hR (.cst _) o.dst,hE,hH,hb⟩
theorem ZBw (m:Nat) (A B:List SE):(⟨m,A++B⟩:HS).blocks=(⟨m,A⟩:HS).blocks++B.flatMap SE.blocks:=by simp[HS.blocks]
theorem putH {o:Oper} {TM K V:TypeId} {x k v:Operand} {key n:Int} {l:List (El (.int .i64)×El (.int .u64))} {id ver id2 ver2:Nat} {tg:Option Nat} (hop:o.op=.mapUpdate TM x k v) (hu:P.underlying TM=some (.map K V)) (hk:leafUnder P K (.int .i64)=true)
  (hx:st.ev x=.cst (.map (some h.m))) (hkey:st.ev k=.d (.int .i64) key) (hv:st.ev v=.pt id ver 0) (ho:st.obj id ver=some (.box T [.d (.int .i64) n,.mp id2 ver2] tg)) (ho2:st.obj id2 ver2=some (.map (.int .i64) (.int .u64) l)) (hid:id≠id2) (hnone:h.at_ key=none)
  (hr:RelH T Mod F0 w0 h st a w) {next:Act→World→Prop}
  (hK:∀b mb a' w',RelH T Mod F0 w0 ⟨h.m,h.es++[⟨key,b,mb,n,l⟩]⟩ ((dropIds [id,id2] st).put o.dst .top) a' w'→next a' w'):o.wp P a w next Q:=by
 obtain ⟨hd,hn,F,ρ,hR,hE,hH,hb⟩:=hr
 have hH0:=hH
 obtain ⟨⟨es,clock,hm,hst,hes⟩,h4,h5⟩:=hH0
 have e1:a.eval x=.map (some h.m):=Zh8 (ZcP hR hx)
 have e3:a.eval k=.int .i64 key:=ZaJ (ZcP hR hkey)
 have hf:=ZK.1 ho
 have hf2:=ZK.1 ho2
 have e4:=ZcP hR hv
 generalize hve:a.eval v=u at e4
 obtain ⟨b,hρ,hu4⟩:∃b,ρ id=.pointer (some ⟨b,0,none⟩)∧u=.pointer (some ⟨b,0,none⟩):=by
  cases e4 with
  | pt _ _ _ _ _ _ hp=>exact hp _ ho
 subst hu4
 obtain ⟨_,b',arr,hρ',hbx,harr,hcs⟩:=hR.obs id ver _ hf
 rw[hρ] at hρ'
 cases hρ'
 have hmr:=hR.obs id2 ver2 _ hf2
 have hmr0:=hmr
 obtain ⟨mb,es2,clock2,hρ2,hm2,hrest⟩:=hmr0
 have c0:arr[0]? =some (.int .i64 n):=by
  have:0 < arr.size:=by rw[harr];exact Nat.succ_pos _
  have e:arr[0]? =some arr[0]:=by simp[this]
  rw[e,ZaJ (hcs 0 _ _ rfl e)]
 have c1:arr[1]? =some (.map (some mb)):=by
  have:1 < arr.size:=by rw[harr];exact Nat.lt_succ_self _
  have e:arr[1]? =some arr[1]:=by simp[this]
  have:=hcs 1 _ _ rfl e
  generalize arr[1]=q at this e
  cases this with
  | mp _ _ _ _ _ hp=>rw[e,hp _ ho2,hρ2]
 have harr2:arr= #[.int .i64 n,.map (some mb)]:=by
  have hsz:arr.size=2:=harr
  apply Array.ext_getElem?
  intro i
  match i with
  | 0=>rw[c0];rfl
  | 1=>rw[c1];rfl
  | i+2=>rw[Array.getElem?_eq_none (by omega),Array.getElem?_eq_none (by simp)]
 subst harr2
 have s1:=hR.sep id ver _ b hf rfl (by rw[hρ];exact List.mem_singleton.2 rfl)
 have s2:=hR.sep id2 ver2 _ mb hf2 rfl (by rw[hρ2];exact List.mem_singleton.2 rfl)
 have hbm:b≠mb:=fun e=>hid (s2.2.2.2 id ver _ hf rfl (by rw[hρ,e];exact List.mem_singleton.2 rfl))
 have hml:h.m < w.heap.size:=(Array.getElem?_eq_some_iff.1 hm).1
 have hmH:h.m∈h.blocks:=by simp[HS.blocks]
 obtain ⟨d,hdd⟩:=Zga hk
 have hck:=ZgJ (w:=w) (kt:=.int .i64) (key:=key) hdd hk false
 let w':World:= { w with heap:=w.heap.setIfInBounds h.m (.map (es.push { key:=.int .i64 key,val:=.pointer (some ⟨b,0,none⟩),born:=clock }) (clock+1)) }
 have hrun:(execOp a.eval o).run P w=.ok .skip w':=by
  rcases Zvk hdd hk key h.es es.toList 0 hes with ⟨a1,a2⟩ | ⟨e,i,a1,a2⟩
  ·have hfk:=ZeC (P:=P) (w:=w) hdd a2
   simp only[execOp,hop,e1,e3,hve,Instr.mapUpdate,Sem.run_bind,run_underlying hu,Result.andThen_ok]
   simp only[leafV] at hck
   simp only[getObj,Sem.run,hm,Sem.run_bind,Result.andThen_ok,Sem.run_pure,hck,hfk,setObj]
   rfl
  ·rw[HS.at_,a1] at hnone;cases hnone
 unfold Oper.wp
 rw[hrun]
 obtain ⟨d1,d2,d3,d4,d5⟩:=ZmW [id,id2] hR
 have hheld:∀c,held (dropIds [id,id2] st) ρ c→c≠b∧c≠mb∧c∉h.blocks∧c < w.heap.size:=fun c hh=>by
  obtain ⟨i,vi,oi,k1,k2,k3,k4⟩:=d4 c hh
  obtain ⟨q1,q2,q3,q4⟩:=hR.sep i vi oi c k1 k2 k3
  simp only[List.mem_cons,List.not_mem_nil,or_false,not_or] at k4
  exact ⟨fun e=>k4.1 (s1.2.2.2 i vi oi k1 k2 (e▸k3)),fun e=>k4.2 (s2.2.2.2 i vi oi k1 k2 (e▸k3)),q2.2,q3⟩
 have hsame:∀c,c≠h.m→w'.heap[c]? =w.heap[c]?:=fun c hc=>by simp[w',Array.getElem?_setIfInBounds_ne (Ne.symm hc)]
 have hsz:w'.heap.size=w.heap.size:=by simp[w']
 have hE1:Evo (fun c=>c=h.m) F w F w':=⟨rfl,rfl,rfl,by omega,fun _ h=>h,fun _ h=>.inl h,fun c _ hF=>hsame c fun e=>hF.elim (fun hF=>(hb h.m hmH).1 (e▸hF)) fun hn=>hn e⟩
 have d1':R Mod F ρ w (dropIds [id,id2] st) a.tmps:=d1.mod (fun b hh=>(hR.hi b hh).1) fun _ _ _ _ _ _ _ h=>h.1
 obtain ⟨hR1,hE2⟩:=d1'.world hE1 (fun c hc=>hc▸(hb h.m hmH).2.1) (fun c hh hc=>(hheld c hh).2.2.1 (hc▸hmH)) (fun c hc=>by rw[hsz];exact hR.low c hc)
 have hblk:(⟨h.m,h.es++[⟨key,b,mb,n,l⟩]⟩:HS).blocks=h.blocks++[b,mb]:=by rw[ZBw];rfl
 have hR2:R (Mh Mod (h.blocks++[b,mb])) F ρ w' (dropIds [id,id2] st) a.tmps:=hR1.mod (fun c hh=>⟨hR1.hi c hh,by
  have:∀c∈h.blocks,c < w.heap.size:=fun c hc=>(hb c hc).2.2
  have q1:=s1.2.2.1
  have q2:=s2.2.2.1
  rw[hsz] at hh
  simp only[List.mem_append,List.mem_cons,List.not_mem_nil,or_false,not_or]
  exact ⟨fun hc=>by have:=this c hc;omega,by omega,by omega⟩⟩) fun i vi oi c k1 k2 k3 hm=>⟨hm,by
   obtain ⟨q1,q2,q3,_⟩:=hheld c ⟨i,vi,oi,k1,k2,k3⟩
   simp only[List.mem_append,List.mem_cons,List.not_mem_nil,or_false,not_or]
   exact ⟨q3,q1,q2⟩⟩
 have hbn:b∉h.blocks:=s1.2.1.2
 have hmbn:mb∉h.blocks:=s2.2.1.2
 refine hK b mb _ _ ⟨by rw[ZV];exact hd,?_,F,ρ,?_,hE.trans hE2,⟨⟨es.push { key:=.int .i64 key,val:=.pointer (some ⟨b,0,none⟩),born:=clock },clock+1,?_,?_,?_⟩,?_,?_⟩,?_⟩
 ·rw[hblk]
  exact List.nodup_append.2 ⟨hn,by simp[hbm],fun x hx y hy e=>by simp at hy;rcases hy with rfl | rfl <;> (subst e;first | exact hbn hx | exact hmbn hx)⟩
 ·rw[hblk];exact R.put (a:=a) hR2 (.top _) o.dst
 ·simp[w',hml]
 ·refine ⟨fun c hc=>?_,?_⟩
  ·rw[Array.toList_push,List.map_append] at hc
   rcases List.mem_append.1 hc with hc | hc
   ·exact Nat.lt_succ_of_lt (hst.1 c hc)
   ·simp at hc;omega
  ·rw[Array.toList_push,List.map_append,List.nodup_append]
   exact ⟨hst.2,by simp,fun x hx y hy=>by simp at hy;have:=hst.1 x hx;omega⟩
 ·rw[Array.toList_push,List.map_append,List.map_append,hes];rfl
 ·rw[List.map_append,List.nodup_append]
  refine ⟨h4,by simp,fun x hx y hy e=>?_⟩
  simp only[List.map_cons,List.map_nil,List.mem_singleton] at hy
  subst hy
  subst e
  obtain ⟨e,he,hek⟩:=List.mem_map.1 hx
  have:=List.find?_eq_none.1 hnone e he
  simp[hek] at this
 ·intro e he
  rcases List.mem_append.1 he with he | he
  ·refine (h5 e he).same fun c hc=>hsame c fun e'=>?_
   have hnd:=hn
   simp only[HS.blocks,List.nodup_cons,List.mem_flatMap,not_exists,not_and] at hnd
   exact hnd.1 e he (e'▸hc)
  ·simp only[List.mem_singleton] at he
   subst he
   refine SetAt.same (w:=w) (fun c hc=>hsame c fun e'=>?_) ⟨hbx,hρ2▸hmr⟩
   simp only[SE.blocks,List.mem_cons,List.not_mem_nil,or_false] at hc
   rcases hc with rfl | rfl
   ·exact hbn (e'▸hmH)
   ·exact hmbn (e'▸hmH)
 ·intro c hc
  rw[hblk] at hc
  rw[hsz]
  rcases List.mem_append.1 hc with hc | hc
  ·exact hb c hc
  ·simp only[List.mem_cons,List.not_mem_nil,or_false] at hc
   rcases hc with rfl | rfl
   ·exact ⟨s1.1,s1.2.1.1,s1.2.2.1⟩
   ·exact ⟨s2.1,s2.2.1.1,s2.2.2.1⟩
theorem Zqf (m:Nat) (A B:List SE) (e:SE) {c:Nat} :c∈(⟨m,A++e :: B⟩:HS).blocks↔c=m∨c∈A.flatMap SE.blocks∨c∈e.blocks∨c∈B.flatMap SE.blocks:=by
 simp only[HS.blocks,List.flatMap_append,List.flatMap_cons,List.mem_cons,List.mem_append]
theorem callSetH {o:Oper} {c:Call} {f:FuncId} {fn:Func} {body:Code} {x y:Operand} {key i n':Int} {l':List (El (.int .i64)×El (.int .u64))} {e:SE} {t:Ty} {r:El t} {z:AV}
  (hop:o.op=.call c) (hc:c.callee=.value (.func f)) (hargs:c.args= #[x,y]) (hfn:P.funcs[f]? =some fn) (hname:(fn.name== "runtime.NumGoroutine")=false) (hbody:fn.body=some body)
  (hx:st.ev x=.cst (ptrOf (h.at_ key))) (he:h.at_ key=some e) (hy:st.ev y=.d (.int .i64) i)
  (hC:CallOK P f [.bx T [.d (.int .i64) e.n,.mv (.int .i64) (.int .u64) e.l],.d (.int .i64) i] (.d t r,[.bx T [.d (.int .i64) n',.mv (.int .i64) (.int .u64) l'],z]))
  (hr:RelH T Mod F0 w0 h st a w) {next:Act→World→Prop}
  (hK:∀A B mb' a' w',h.es=A++e :: B→RelH T Mod F0 w0 ⟨h.m,A++⟨key,e.b,mb',n',l'⟩ :: B⟩ (st.put o.dst (.d t r)) a' w'→next a' w'):o.wp P a w next Q:=by
 obtain ⟨hd,hn,F,ρ,hR,hE,hH,hb⟩:=hr
 have hH0:=hH
 obtain ⟨⟨es,clock,hm,hst,hes⟩,h4,h5⟩:=hH0
 obtain ⟨hme,hke⟩:=ZDf he
 obtain ⟨A,B,hAB⟩:=List.append_of_mem hme
 have e1:a.eval x=.pointer (some ⟨e.b,0,none⟩):=by have:=Zh8 (ZcP hR hx);rw[he] at this;exact this
 have e2:a.eval y=.int .i64 i:=ZaJ (ZcP hR hy)
 obtain ⟨hbx,hmr⟩:=h5 e hme
 have hm0:h=⟨h.m,A++e :: B⟩:=by cases h;simp only[HS.mk.injEq,true_and];exact hAB
 have hmem:∀c,c∈h.blocks↔c=h.m∨c∈A.flatMap SE.blocks∨c∈e.blocks∨c∈B.flatMap SE.blocks:=fun c=>by
  have:=Zqf h.m A B e (c:=c)
  rw[←hm0] at this
  exact this
 have hbH:e.b∈h.blocks:=(hmem _).2 (.inr (.inr (.inl (by simp[SE.blocks]))))
 have hmbH:e.mb∈h.blocks:=(hmem _).2 (.inr (.inr (.inl (by simp[SE.blocks]))))
 have hnd:(h.m :: (A.flatMap SE.blocks++(e.b :: e.mb :: B.flatMap SE.blocks))).Nodup:=by
  have:=hn
  rw[hm0] at this
  simpa[HS.blocks,SE.blocks] using this
 simp only[List.nodup_cons,List.nodup_append,List.mem_append,List.mem_cons,not_or] at hnd
 obtain ⟨⟨m1,m2,m3,m4⟩,n1,⟨⟨b1,b2⟩,b3,n2⟩,n3⟩:=hnd
 have hrun:(execOp a.eval o).run P w=.ok (.enter f #[.pointer (some ⟨e.b,0,none⟩),.int .i64 i]) w:=by
  have hn:¬fn.name= "runtime.NumGoroutine" :=by simpa using hname
  have he:a.eval (.func f)=.func (.func f) #[] #[]:=rfl
  simp[execOp,hop,resolve,hc,he,Deferred.ofValue,invoke,callFunc,hfn,hn,hbody,hargs,e1,e2]
 unfold Oper.wp
 rw[hrun,Oper.upon_enter]
 have hT:TReps F w [.bx T [.d (.int .i64) e.n,.mv (.int .i64) (.int .u64) e.l],.d (.int .i64) i] [.pointer (some ⟨e.b,0,none⟩),.int .i64 i] [e.b,e.mb]:=by
  have t1:TReps F w [.mv (.int .i64) (.int .u64) e.l] [.map (some e.mb)] [e.mb]:=TReps.mv hmr .nil
  have t2:TReps F w [.d (.int .i64) e.n,.mv (.int .i64) (.int .u64) e.l] [.int .i64 e.n,.map (some e.mb)] [e.mb]:=TReps.flat rfl (.d _ _ _ rfl) t1
  have t3:TReps F w [.d (.int .i64) i] [.int .i64 i] []:=TReps.flat rfl (.d _ _ _ rfl) .nil
  exact TReps.bx (L:=[]) hbx t2 t3
 refine Calls.mono (hC.1 F w _ [e.b,e.mb] hT (by simpa using b1) (fun c hcm=>?_) hR.low hR.tabs) fun ex w' hex=>?_
 ·simp only[List.mem_cons,List.not_mem_nil,or_false] at hcm
  rcases hcm with rfl | rfl
  ·exact ⟨(hb _ hbH).1,(hb _ hbH).2.2⟩
  ·exact ⟨(hb _ hmbH).1,(hb _ hmbH).2.2⟩
 cases ex with
 | panicked ch=>exact hex.elim
 | outgrown=>exact hex.elim
 | returned v=>
  obtain ⟨F',Lr,Lo,hE1,hlow,hTr,hTo,hndo,hfr⟩:=hex
  obtain ⟨v1,us,L1,L2,hv1,hLo,t1,_⟩:=hTo.split
  cases hv1
  cases t1 with
  | flat hx=>cases hx
  | @bx _ _ _ us1 M1 _ _ _ hh hcs hr0=>
   cases hr0
   obtain ⟨u1,us2,M2,M3,hus,hM,q1,q2⟩:=hcs.split
   obtain ⟨u2,us3,M4,M5,hus2,hM2,q3,q4⟩:=q2.split
   cases q4
   subst hus2
   subst hus
   have hu1:u1=.int .i64 n'∧M2=[]:=by
    cases q1 with
    | flat _ ha hr1=>cases hr1;exact ⟨ZaJ ha,rfl⟩
   obtain ⟨hu1,hM20⟩:=hu1
   subst hu1
   subst hM20
   cases q3 with
   | flat hx=>cases hx
   | mv hmr' hr1=>
    cases hr1
    have hmr2:=hmr'
    obtain ⟨mb',es2,clock2,hv2,hm2,_⟩:=hmr2
    subst hv2
    have hLo':Lo=e.b :: mb' :: L2:=by rw[hLo,hM,hM2];simp[Go.Ev.hb]
    have hndo':=(List.nodup_append.1 hndo).1
    rw[hLo'] at hndo'
    have hbm:e.b≠mb':=fun e'=>(List.nodup_cons.1 hndo').1 (by simp[e'])
    have f1:=hfr e.b (by simp[hLo'])
    have f2:=hfr mb' (by simp[hLo'])
    have hmbw:mb'=e.mb∨w.heap.size≤mb':=by
     rcases f2.2.1 with hm | hm
     ·simp only[List.mem_cons,List.not_mem_nil,or_false] at hm
      rcases hm with hm | hm
      ·exact absurd hm.symm hbm
      ·exact .inl hm
     ·exact .inr hm
    have hMod:∀c,ModC [e.b,e.mb] w c→Mod c:=fun c hcm=>hcm.elim (fun hm=>by
     simp only[List.mem_cons,List.not_mem_nil,or_false] at hm
     rcases hm with rfl | rfl
     ·exact (hb _ hbH).2.1
     ·exact (hb _ hmbH).2.1) fun hh=>(hR.hi c hh).1
    have hnM:∀c,c∈h.blocks→c≠e.b→c≠e.mb→¬ModC [e.b,e.mb] w c:=fun c hcb k1 k2 hm=>by
     rcases hm with hm | hm
     ·simp only[List.mem_cons,List.not_mem_nil,or_false] at hm
      exact hm.elim k1 k2
     ·have:=(hb c hcb).2.2;omega
    have hR0:R Mod F ρ w st a.tmps:=hR.mod (fun b hh=>(hR.hi b hh).1) fun _ _ _ _ _ _ _ h=>h.1
    obtain ⟨hR1,hE2⟩:=hR0.world hE1 hMod (fun c ⟨i,vi,oi,k1,k2,k3⟩ hm=>by
     obtain ⟨q1,q2,q3,_⟩:=hR.sep i vi oi c k1 k2 k3
     rcases hm with hm | hm
     ·simp only[List.mem_cons,List.not_mem_nil,or_false] at hm
      exact q2.2 (hm.elim (fun e'=>e'▸hbH) fun e'=>e'▸hmbH)
     ·omega) hlow
    have hans:ARep F' ρ w' st (.d t r) v:=by
     cases hTr with
     | flat _ ha hr2=>exact Zvh rfl ha
    have oth:∀c,c=h.m∨c∈A.flatMap SE.blocks∨c∈B.flatMap SE.blocks→c∈h.blocks∧c≠e.b∧c≠e.mb:=fun c hcc=>by
     refine ⟨(hmem c).2 (hcc.imp id fun h=>h.imp id .inr),?_,?_⟩
     ·rintro rfl
      rcases hcc with hcc | hcc | hcc
      ·exact m2 hcc.symm
      ·exact n3 _ hcc _ (.inl rfl) rfl
      ·exact b2 hcc
     ·rintro rfl
      rcases hcc with hcc | hcc | hcc
      ·exact m3 hcc.symm
      ·exact n3 _ hcc _ (.inr (.inl rfl)) rfl
      ·exact b3 hcc
    have same:∀c,c=h.m∨c∈A.flatMap SE.blocks∨c∈B.flatMap SE.blocks→w'.heap[c]? =w.heap[c]?:=fun c hcc=>
     hE1.same c (hb c (oth c hcc).1).2.2 (.inr (hnM c (oth c hcc).1 (oth c hcc).2.1 (oth c hcc).2.2))
    have new:∀c,c=h.m∨c∈A.flatMap SE.blocks∨c∈B.flatMap SE.blocks→¬F' c∧Mod c∧c < w'.heap.size:=fun c hcc=>by
     obtain ⟨k1,k2,k3⟩:=oth c hcc
     exact ⟨fun hF=>(hE1.new c hF).elim (hb c k1).1 (hnM c k1 k2 k3),(hb c k1).2.1,Nat.lt_of_lt_of_le (hb c k1).2.2 hE1.size⟩
    have mbo:∀c,c=h.m∨c∈A.flatMap SE.blocks∨c∈B.flatMap SE.blocks→c≠mb':=fun c hcc=>by
     obtain ⟨k1,k2,k3⟩:=oth c hcc
     rintro rfl
     rcases hmbw with hw | hw
     ·exact k3 hw
     ·have:=(hb _ k1).2.2;omega
    have allB:∀c,c∈(⟨h.m,A++⟨key,e.b,mb',n',l'⟩ :: B⟩:HS).blocks→¬F' c∧Mod c∧c < w'.heap.size:=fun c hcc=>by
     rcases (Zqf _ _ _ _).1 hcc with hcc | hcc | hcc | hcc
     ·exact new c (.inl hcc)
     ·exact new c (.inr (.inl hcc))
     ·simp only[SE.blocks,List.mem_cons,List.not_mem_nil,or_false] at hcc
      rcases hcc with rfl | rfl
      ·exact ⟨f1.1,hMod _ f1.2.1,f1.2.2⟩
      ·exact ⟨f2.1,hMod _ f2.2.1,f2.2.2⟩
     ·exact new c (.inr (.inr hcc))
    have hR2:R (Mh Mod (⟨h.m,A++⟨key,e.b,mb',n',l'⟩ :: B⟩:HS).blocks) F' ρ w' st a.tmps:=hR1.mod (fun c hh=>⟨hR1.hi c hh,fun hcc=>by have:=(allB c hcc).2.2;omega⟩) fun i vi oi c k1 k2 k3 hm=>⟨hm,fun hcc=>by
     obtain ⟨z1,z2,z3,_⟩:=hR.sep i vi oi c k1 k2 k3
     rcases (Zqf _ _ _ _).1 hcc with hcc | hcc | hcc | hcc
     ·exact z2.2 (oth c (.inl hcc)).1
     ·exact z2.2 (oth c (.inr (.inl hcc))).1
     ·simp only[SE.blocks,List.mem_cons,List.not_mem_nil,or_false] at hcc
      rcases hcc with rfl | rfl
      ·exact z2.2 hbH
      ·rcases hmbw with hw | hw
       ·exact z2.2 (hw▸hmbH)
       ·omega
     ·exact z2.2 (oth c (.inr (.inr hcc))).1⟩
    refine hK A B mb' _ _ hAB ⟨by rw[ZV];exact hd,?_,F',ρ,R.put (a:=a) hR2 hans o.dst,hE.trans hE2,⟨⟨es,clock,?_,hst,?_⟩,?_,?_⟩,allB⟩
    ·simp only[HS.blocks,List.flatMap_append,List.flatMap_cons,SE.blocks,List.nodup_cons,List.nodup_append,List.mem_append,List.mem_cons,List.cons_append,List.nil_append,List.not_mem_nil,not_or]
     refine ⟨⟨m1,m2,mbo _ (.inl rfl),m4⟩,n1,⟨⟨hbm,b2⟩,fun hc=>mbo _ (.inr (.inr hc)) rfl,n2⟩,fun x hx y hy=>?_⟩
     rcases hy with rfl | rfl | hy
     ·exact n3 x hx _ (.inl rfl)
     ·exact mbo x (.inr (.inl hx))
     ·exact n3 x hx y (.inr (.inr hy))
    ·rw[same _ (.inl rfl)];exact hm
    ·rw[hes,hAB]
     simp[SE.ptr,hke]
    ·rw[hAB] at h4
     simpa[hke] using h4
    ·intro e' he'
     rcases List.mem_append.1 he' with hm | hm
     ·exact (h5 e' (by rw[hAB];simp[hm])).same fun c hcc=>same c (.inr (.inl (List.mem_flatMap.2 ⟨e',hm,hcc⟩)))
     ·rcases List.mem_cons.1 hm with rfl | hm
      ·exact ⟨hh,hmr'⟩
      ·exact (h5 e' (by rw[hAB];simp[hm])).same fun c hcc=>same c (.inr (.inr (List.mem_flatMap.2 ⟨e',hm,hcc⟩)))
theorem forLoop {b0 b1:Nat} {r1 body r2:Code} {tok:Operand} (Inv Mid Aft:Nat→Act→World→Prop) (n:Nat) (μ:Act→World→Nat)
  (h1:∀k a w,k≤n→Inv k a w→r1.wp P (fun e a' w'=>e=.normal∧Mid k a' w') a w)
  (ht:∀k a w,k≤n→Mid k a w→a.eval tok=.bool (decide (k < n)))
  (hb:∀k a w,k < n→Mid k a w→body.wp P (fun e a' w'=>(e=.normal∨e=.exit b1)∧Aft k a' w') a w)
  (h2:∀k a w,k < n→Aft k a w→r2.wp P (fun e a' w'=>e=.normal∧Inv (k+1) a' w') a w)
  (hμ:∀k a w,k≤n→Inv k a w→μ a w=n - k) (h0:Inv 0 a w) (hQ:∀a w,Mid n a w→Q .normal a w):
  (Code.block b0 (.loop (.seq r1 (.seq (.cond tok .skip (.exit b0)) (.seq (.block b1 body) r2))))).wp P Q a w:=by
 refine wp_block (wp_loop (fun a w=>∃k,k≤n∧Inv k a w) μ ⟨0,Nat.zero_le _,h0⟩ fun a w ⟨k,hk,hI⟩=>?_)
 refine wp_seq (wp_mono (h1 k a w hk hI) fun e a1 w1 he=>?_)
 obtain ⟨rfl,hm⟩:=he
 by_cases hkn:k < n
 ·refine wp_seq (wp_cond_true (by rw[ht k a1 w1 hk hm,decide_eq_true hkn]) (wp_skip ?_))
  refine wp_seq (wp_block (wp_mono (hb k a1 w1 hkn hm) fun e a2 w2 he=>?_))
  obtain ⟨he,ha⟩:=he
  have fin:Exit.then (r2.wp P (Exit.then (fun a' w'=>(∃k,k≤n∧Inv k a' w')∧μ a' w' < μ a w) (Exit.inBlock b0 Q))) (Exit.then (fun a' w'=>(∃k,k≤n∧Inv k a' w')∧μ a' w' < μ a w) (Exit.inBlock b0 Q)) .normal a2 w2:=by
   refine wp_mono (h2 k a2 w2 hkn ha) fun e a3 w3 he=>?_
   obtain ⟨rfl,hI3⟩:=he
   refine ⟨⟨k+1,hkn,hI3⟩,?_⟩
   rw[hμ k a w hk hI,hμ (k+1) a3 w3 hkn hI3]
   omega
  rcases he with rfl | rfl
  ·exact fin
  ·simp only[Exit.inBlock,if_true]
   exact fin
 ·have hkn':k=n:=by omega
  subst hkn'
  refine wp_seq (wp_cond_false (by rw[ht k a1 w1 hk hm,decide_eq_false hkn]) (wp_exit ?_))
  show Exit.inBlock b0 Q (.exit b0) a1 w1
  simp only[Exit.inBlock,if_true]
  exact hQ a1 w1 hm
theorem RelH.ev {x:Operand} {k:IntKind} {n:Int} (hr:RelH T Mod F0 w0 h st a w) (hx:st.ev x=.d (.int k) n):a.eval x=.int k n:=by
 obtain ⟨_,_,F,ρ,hR,_⟩:=hr
 exact ZaJ (ZcP hR hx)
theorem RelH.evb {x:Operand} {b:Bool} (hr:RelH T Mod F0 w0 h st a w) (hx:st.ev x=.d .bool b):a.eval x=.bool b:=by
 obtain ⟨_,_,F,ρ,hR,_⟩:=hr
 exact Zcf (ZcP hR hx)
theorem Rel.ev {x:Operand} {k:IntKind} {n:Int} (hr:Rel Mod F0 w0 st a w) (hx:st.ev x=.d (.int k) n):a.eval x=.int k n:=by
 obtain ⟨_,F,ρ,hR,_⟩:=hr
 exact ZaJ (ZcP hR hx)
theorem Rel.evb {x:Operand} {b:Bool} (hr:Rel Mod F0 w0 st a w) (hx:st.ev x=.d .bool b):a.eval x=.bool b:=by
 obtain ⟨_,F,ρ,hR,_⟩:=hr
 exact Zcf (ZcP hR hx)
def toGo (ti n:Nat) (a:Act) (_:World):Nat:=match a.eval (.tmp ti) with
 |.int _ k=>n - k.toNat
 | _=>0
theorem eqNilH {o:Oper} {TT TT' E:TypeId} {x y:Operand} {s:Option SE} (hop:o.op=.binOp .eql TT x y TT') (hu:P.underlying TT=some (.pointer E)) (hx:st.ev x=.cst (ptrOf s)) (hy:st.ev y=.cst (.pointer none))
  (hr:RelH T Mod F0 w0 h st a w) {next:Act→World→Prop} (hK:∀a' w',RelH T Mod F0 w0 h (st.put o.dst (.d .bool s.isNone)) a' w'→next a' w'):o.wp P a w next Q:=by
 obtain ⟨hd,hn,F,ρ,hR,hE,hH,hb⟩:=hr
 have e1:a.eval x=ptrOf s:=Zh8 (ZcP hR hx)
 have e2:a.eval y=.pointer none:=Zh8 (ZcP hR hy)
 have e3:(Op.equal TT (ptrOf s) (.pointer none)).run P w=.ok s.isNone w:=by
  have:∀d,(Op.equalIn (d+1) TT (ptrOf s) (.pointer none)).run P w=.ok s.isNone w:=fun d=>by
   cases s with
   | none=>simp[Op.equalIn,ptrOf,run_underlying hu]
   | some e=>simp[Op.equalIn,ptrOf,SE.ptr,run_underlying hu]
  exact this 9999
 have e4:(eqGuard .eql TT x y (ptrOf s) (.pointer none)).run P w=.ok () w:=by
  unfold eqGuard
  cases s <;> simp[ptrOf,SE.ptr]
 have e5:(Go.binOp .eql TT (ptrOf s) (.pointer none)).run P w=.ok (.bool s.isNone) w:=by
  unfold Go.binOp
  cases s with
  | none=>simp only[ptrOf] at e3 ⊢;simp[e3]
  | some e=>simp only[ptrOf,SE.ptr] at e3 ⊢;simp[e3]
 have hrun:(execOp a.eval o).run P w=.ok (.value (.bool s.isNone)) w:=by
  simp only[execOp,hop,e1,e2,Sem.run_bind,e4,e5,Result.andThen_ok,Sem.run_pure]
 unfold Oper.wp
 rw[hrun]
 exact hK _ _ ⟨by rw[ZV];exact hd,hn,F,ρ,R.put (a:=a) hR (ZcQ _) o.dst,hE,hH,hb⟩
theorem Rel.lift {g:St→St} (hg:∀ {st a w},Rel Mod F0 w0 st a w→Rel Mod F0 w0 (g st) a w) {st1:St} (e:g st=st1) (hr:Rel Mod F0 w0 st a w):Rel Mod F0 w0 st1 a w:=e▸hg hr
theorem RelH.norm {lab:Lab} {st1:St} (e:Go.Ev.norm P lab st=st1) (hr:RelH T Mod F0 w0 h st a w):RelH T Mod F0 w0 h st1 a w:=hr.lift fun hr=>e▸Zah hr
theorem Rel.norm {lab:Lab} {st1:St} (e:Go.Ev.norm P lab st=st1) (hr:Rel Mod F0 w0 st a w):Rel Mod F0 w0 st1 a w:=e▸Zah hr
end
abbrev SetsD:=List (Int×Int×List (El (.int .i64)×El (.int .u64)))
def HS.cont (h:HS):SetsD:=h.es.map fun e=>(e.key,e.n,e.l)
def getC (ms:SetsD) (key:Int):Option (Int×List (El (.int .i64)×El (.int .u64))):=(ms.find? fun e=>e.1==key).map Prod.snd
def putC (ms:SetsD) (key:Int) (d:Int×List (El (.int .i64)×El (.int .u64))):SetsD:=ms.map fun e=>if e.1=key then (key,d) else e
theorem ZAe (h:HS) (key:Int):(h.at_ key).map (fun e=>(e.n,e.l))=getC h.cont key:=by
 unfold HS.at_ getC HS.cont
 rw[List.find?_map,Option.map_map]
 rfl
theorem ZDG {A B:List SE} {e:SE} {key:Int} {b mb n:Nat} {n':Int} {l':List (El (.int .i64)×El (.int .u64))} (hk:e.key=key) (hn:((A++e :: B).map SE.key).Nodup) (m m':Nat):
  (⟨m',A++⟨key,b,mb,n',l'⟩ :: B⟩:HS).cont=putC (⟨m,A++e :: B⟩:HS).cont key (n',l'):=by
 simp only[List.map_append,List.map_cons,List.nodup_append,List.nodup_cons,List.mem_cons,List.mem_map,not_exists,not_and] at hn
 obtain ⟨n1,⟨n2,n3⟩,n4⟩:=hn
 have hA:(A.map fun e=>(e.key,e.n,e.l)).map (fun e=>if e.1=key then (key,(n',l')) else e)=A.map fun e=>(e.key,e.n,e.l):=by
  rw[List.map_map]
  refine List.map_congr_left fun x hx=>?_
  have:x.key≠key:=fun e'=>n4 x.key ⟨x,hx,rfl⟩ e.key (.inl rfl) (e'.trans hk.symm)
  simp[this]
 have hB:(B.map fun e=>(e.key,e.n,e.l)).map (fun e=>if e.1=key then (key,(n',l')) else e)=B.map fun e=>(e.key,e.n,e.l):=by
  rw[List.map_map]
  refine List.map_congr_left fun x hx=>?_
  have:x.key≠key:=fun e'=>n2 x hx (e'.trans hk.symm)
  simp[this]
 unfold HS.cont putC
 simp only[List.map_append,List.map_cons,hA,hB,hk,if_true]
open Classical in
theorem ZBu {P:Program} {f:FuncId} {r:Run} {xs:List AV} {ans:Ans} (h:EntOK P f r) (hr:∀k,r xs k=k ans):CallOK P f xs ans:=by
 obtain ⟨a,ha,hk⟩:=(h.2 xs).2 (fun a=>if a=ans then some (AV.top,[]) else none) (AV.top,[]) (by rw[hr];simp)
 split at hk
 ·rename_i e
  exact e▸ha
 ·cases hk
theorem ZCR {P:Program} {f:FuncId} {s:Sig} {α:Type} {R:α→AV} (hk:Known P f) {ok:Args s→Bool} {v:Args s→α} (h:∀a,ok a=true→CallOK P f (toForms s a) (R (v a),tps (toForms s a))):EntOK P f (entG s R ok v):=
 Zww hk (fun a=>Det.guard (Det.pure _)) fun a=>Sat.guard fun hok=>Sat.pure (h a hok)
end Go.Ev
end

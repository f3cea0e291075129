/- Part of the proof of: A copy of a program is the same program, and what is changed in it changes nothing in the first; of two programs the two comparisons answer alike, and a program is the same as itself: for every input the law answers true. -/
import Derived.Carry
import Derived.ChangeArms
import Derived.ChangeSame
import Derived.Deep.DeepHandedRow
import Derived.Maps.RangeRun
import Derived.OpenShut
import Derived.Sort.OwnSortedInts
import Derived.WideKeyArgs
import Derived.Test.YtfjbbffkibcijaaDoorEng1
set_option maxRecDepth 100000
set_option linter.unusedSectionVars false
set_option linter.unusedVariables false
set_option linter.unusedSimpArgs false
section
namespace Go.Ev
variable [Tabs]
open Go
theorem Det.makeObj {st:St} {d:Option Nat} {o:Obj} {ref:Id→Nat→AV} :Det (makeObj st d o ref):=by
 unfold Go.Ev.makeObj
 split
 ·exact Det.pure _
 ·exact Det.fail
theorem Det.none {α:Type} :Det (fun _=>none:M α):=.inl fun _=>rfl
theorem Det.appendB {st:St} {d:Nat} {E:TypeId} {t:Ty} {bytes:Nat} {s:AV} {ys:List (El t)} :Det (appendB st d E t bytes s ys):=by
 unfold Go.Ev.appendB
 repeat' (first
  | exact Det.pure _
  | exact Det.fail
  | exact Det.guard (Det.pure _)
  | split)
theorem Det.appendA {P:Program} {st:St} {d:Nat} {T:TypeId} {s x:AV} :Det (appendA P st d T s x):=by
 unfold Go.Ev.appendA
 repeat' (first
  | exact Det.appendB
  | exact Det.fail
  | split)
theorem Det.appendZ {P:Program} {st:St} {d:Nat} {T:TypeId} {s:AV} {n:Int} :Det (appendZ P st d T s n):=by
 unfold Go.Ev.appendZ
 repeat' (first
  | exact Det.guard Det.appendB
  | exact Det.fail
  | split)
theorem Det.callA {cl:Cl} (hcl:DetC cl) {f:FuncId} {args:List AV} {d:Option Nat} {st:St} :Det (callA cl f args d st):=by
 unfold Go.Ev.callA
 split
 ·exact Det.fail
 ·refine Det.cond (Det.bind (hcl _ _) fun a=>?_) Det.fail
  repeat' (first
   | exact Det.pure _
   | exact Det.fail
   | split)
theorem Det.callX {cl:Cl} (hcl:DetC cl) {f:FuncId} {args:List AV} {d:Option Nat} {st:St} :Det (callX cl f args d st):=by
 unfold Go.Ev.callX
 split
 ·exact Det.callA fun f xs=>hcl f _
 ·exact Det.callA hcl
theorem Det.opt {st:St} {d:Option Nat} (x:Option AV):Det (match x with | Option.some v=>(M.pure (st.put d v):M St) | Option.none=>Go.Ev.fail):=by
 cases x
 ·exact Det.fail
 ·exact Det.pure _
theorem Det.elim {β:Type} {b:Option β} {x:St} {f:β→St} :Det (fun c=>Option.elim b ((M.pure x:M St) c) (fun v=>(M.pure (f v):M St) c)):=by
 cases b
 ·exact Det.pure _
 ·exact Det.pure _
theorem Zt0 {P:Program} {cl:Cl} (hcl:DetC cl) (o:Oper) (st:St):Det (opA P cl o st):=by
 unfold opA
 repeat' (first
  | exact Det.pure _
  | exact Det.fail
  | exact Det.opt _
  | exact Det.elim
  | exact Det.makeObj
  | exact Det.appendA
  | exact Det.appendZ
  | exact Det.callA hcl
  | exact Det.callX hcl
  | (refine Det.bind (by first | exact Det.toI | exact Det.toB | exact Det.branch | exact Det.unA | exact Det.binA | exact Det.lenA | exact Det.boundI | exact Det.caseNat | exact Det.upto) fun _=>?_)
  | exact Det.guard (Det.pure _)
  | exact Det.guard Det.makeObj
  | (refine Det.cond ?_ ?_)
  | split)
theorem Ziq {op:Oper→St→M St} (hop:∀o st,Det (op o st)) {ops:Array Oper} :∀(l:List Oper) (st:St),Det (opsG op ops l st)
 | [],st=>Det.pure _
 | o :: r,st=>by
  unfold opsG
  split
  ·exact Det.bind (hop o st) fun st=>Ziq hop r st
  ·split
   ·exact Det.fail
   ·split
    ·refine Det.bind Det.branch fun b=>?_
     simp only
     split
     ·exact Det.bind (hop o _) fun st=>Ziq hop r st
     ·exact Det.bind (hop o _) fun st=>Ziq hop r st
     ·exact Ziq hop r _
    ·exact Det.cond (Ziq hop r _) Det.fail
    ·exact Det.fail
theorem Ztl {P:Program} {cl:Cl} (hcl:DetC cl) {ops:Array Oper} (l:List Oper) (st:St):Det (opsA P cl ops l st):=Ziq (Zt0 hcl) l st
theorem Zoq {P:Program} {cl:Cl} (hcl:DetC cl) (o:Oper) (st:St):Det (opD P cl o st):=by
 rcases ZsL (P:=P) hcl o st with h | ⟨v,h⟩
 ·exact .inl h
 ·exact .inr ⟨_,h⟩
theorem Zie {P:Program} {cl:Cl} (hcl:DetC cl) {ops:Array Oper} :∀(l:List Oper) (st:St),Det (opsD P cl ops l st)
 | [],st=>Det.pure _
 | o :: r,st=>by
  unfold opsD
  split
  ·exact Det.bind (Zoq hcl o st) fun st=>Zie hcl r st
  ·split
   ·exact Det.fail
   ·split
    ·refine Det.bind Det.branch fun b=>?_
     simp only
     split
     ·exact Det.bind (Zoq hcl o _) fun st=>Zie hcl r st
     ·exact Det.bind (Zoq hcl o _) fun st=>Zie hcl r st
     ·exact Zie hcl r _
    ·exact Det.cond (Zie hcl r _) Det.fail
    ·exact Det.fail
theorem Zos {P:Program} {cl:Cl} (hcl:DetC cl) (o:Oper) (st:St):Det (opE P cl o st):=by
 rcases Zss (P:=P) hcl o st with h | ⟨u,_,h⟩
 ·exact .inl h
 ·exact .inr ⟨_,h⟩
theorem Zis {P:Program} {cl:Cl} (hcl:DetC cl) {ops:Array Oper} :∀(l:List Oper) (st:St) (log:LogE),Det (opsE P cl ops l st log)
 | [],st,log=>Det.pure _
 | o :: r,st,log=>by
  unfold opsE
  split
  ·exact Det.bind (Zos hcl o st) fun st'=>Zis hcl r st' _
  ·split
   ·exact Det.fail
   ·split
    ·refine Det.bind Det.branch fun b=>?_
     simp only
     split
     ·exact Det.bind (Zos hcl o _) fun st'=>Zis hcl r st' _
     ·exact Det.bind (Zos hcl o _) fun st'=>Zis hcl r st' _
     ·exact Zis hcl r _ _
    ·exact Det.cond (Zis hcl r _ _) Det.fail
    ·exact Det.fail
theorem ZtM {P:Program} {cl:Cl} (hcl:DetC cl) {ops:Array Oper} {st:St} :Det (runE P cl ops st):=
 Det.bind (Zis hcl _ st []) fun p=>Det.cond (Det.pure _) Det.fail
def DK (g:(Ans→Option Ans)→Option Ans):Prop:=(∀f,g f=none)∨∃a,∀f,g f=f a
theorem DK.none:DK fun _=>Option.none:=.inl fun _=>rfl
theorem DK.of {m:M St} (h:Det m) {k:(Ans→Option Ans)→Kt} (hk:∀st,DK fun f=>k f st):DK fun f=>m (k f):=by
 rcases h with h | ⟨st,h⟩
 ·exact .inl fun f=>h _
 ·rcases hk st with h' | ⟨a,h'⟩
  ·exact .inl fun f=>(h _).trans (h' f)
  ·exact .inr ⟨a,fun f=>(h _).trans (h' f)⟩
theorem Zkr {P:Program} {cl:Cl} (hcl:DetC cl):∀(c:Code) (i:Nat) (k:(Ans→Option Ans)→Kt) (x:(Ans→Option Ans)→Nat→Kt) (r:(Ans→Option Ans)→Kt),(∀st,DK fun f=>k f st)→(∀j st,DK fun f=>x f j st)→(∀st,DK fun f=>r f st)→
  ∀st,DK fun f=>evC P cl [] (fun _ _=>none) c i (k f) (x f) (r f) st
 |.skip,i,k,x,r,hk,hx,hr,st=>by simpa only[evC] using hk st
 |.region id ops draw,i,k,x,r,hk,hx,hr,st=>by
  cases draw with
  | false=>simpa only[evC,cond_false,labOf] using DK.of (Ztl hcl ops.toList st) hk
  | true=>
   simp only[evC,cond_true]
   cases (P.follows .mixedOrders&&drawOK ops) with
   | false=>exact DK.none
   | true=>
    simp only[cond_true]
    cases ops.toList.all (isD P) with
    | true=>exact DK.of (Zie hcl ops.toList st) hk
    | false=>exact DK.of (ZtM hcl) hk
 |.seq a b,i,k,x,r,hk,hx,hr,st=>by
  simp only[evC,labOf]
  exact Zkr hcl a (i+1) (fun f=>evC P cl [] (fun _ _=>none) b (i+1+nn a) (k f) (x f) (r f)) x r (Zkr hcl b _ k x r hk hx hr) hx hr st
 |.cond c a b,i,k,x,r,hk,hx,hr,st=>by
  simp only[evC]
  rcases (Det.bind Det.toB fun b=>Det.branch:Det (M.bind (toB (st.ev c)) branch)) with h | ⟨t,h⟩
  ·exact .inl fun f=>h _
  ·cases t with
   | true=>
    rcases Zkr hcl a i k x r hk hx hr st with h' | ⟨y,h'⟩
    ·exact .inl fun f=>(h _).trans (h' f)
    ·exact .inr ⟨y,fun f=>(h _).trans (h' f)⟩
   | false=>
    rcases Zkr hcl b (i+nn a) k x r hk hx hr st with h' | ⟨y,h'⟩
    ·exact .inl fun f=>(h _).trans (h' f)
    ·exact .inr ⟨y,fun f=>(h _).trans (h' f)⟩
 |.block id c,i,k,x,r,hk,hx,hr,st=>by
  simp only[evC]
  exact Zkr hcl c i k (fun f j st=>bif Nat.beq j id then k f st else x f j st) r hk (fun j st=>by
   cases Nat.beq j id
   ·exact hx j st
   ·exact hk st) hr st
 |.loop c,i,k,x,r,hk,hx,hr,st=>by simpa only[evC,labOf] using DK.none
 |.exit id,i,k,x,r,hk,hx,hr,st=>by simpa only[evC] using hx id st
 |.ret,i,k,x,r,hk,hx,hr,st=>by simpa only[evC] using hr st
 |.rangeFunc _ _ _ _,i,k,x,r,hk,hx,hr,st=>by simpa only[evC] using DK.none
 |.scope _,i,k,x,r,hk,hx,hr,st=>by simpa only[evC] using DK.none
 |.label _,i,k,x,r,hk,hx,hr,st=>by simpa only[evC] using DK.none
 |.refuse _,i,k,x,r,hk,hx,hr,st=>by simpa only[evC] using DK.none
 |.goto _,i,k,x,r,hk,hx,hr,st=>by simpa only[evC] using DK.none
def entE (P:Program) (t:Tbl) (fn:Func) (c:Code):Run:=fun xs f=>
 match initA ⟨[],[]⟩ 0 xs with
 | none=>none
 | some (vs,st)=>evC P (clOf t) [] (fun _ _=>none) c 0 (fun st=>(finA P [] fn xs st).bind f) (fun _ _=>none) (fun st=>(finA P [] fn xs st).bind f) { st with tm:=vs++tops (fn.ntmps - vs.length) }
theorem Zsh {P:Program} {t:Tbl} {f:FuncId} {fn:Func} {c:Code} (ht:∀p∈t,EntOK P p.1 p.2) (hf:P.funcs[f]? =some fn) (hname:(fn.name== "runtime.NumGoroutine")=false) (hb:fn.body=some c)
  (hnd:∀xs,nodupB ((procsF P (clOf t) [] fn c xs).map (·.1))=true):EntOK P f (entE P t fn c):=by
 obtain ⟨h1,h2⟩:=ZoM ht
 refine ⟨⟨fn,c,hf,hname,hb⟩,fun xs=>?_⟩
 have hfin:∀st,DK fun f=>(finA P [] fn xs st).bind f:=fun st=>by
  cases h:finA P [] fn xs st with
  | none=>exact .inl fun _=>rfl
  | some a=>exact .inr ⟨a,fun _=>rfl⟩
 have hd:DK (entE P t fn c xs):=by
  unfold entE
  cases hi:initA ⟨[],[]⟩ 0 xs with
  | none=>exact DK.none
  | some p=>exact Zkr h2 c 0 (fun f st=>(finA P [] fn xs st).bind f) (fun _ _ _=>none) _ hfin (fun _ _=>DK.none) hfin _
 have he:entE P t fn c xs some=evF P (clOf t) [] fn 0 xs:=by
  unfold entE evF
  rw[hb]
  simp only[entryA]
  have hs:(fun st=>(finA P [] fn xs st).bind some)=finA P [] fn xs:=by funext st;cases finA P [] fn xs st <;> rfl
  cases initA ⟨[],[]⟩ 0 xs with
  | none=>rfl
  | some p=>simp only[hs];rfl
 refine ⟨hd,fun k y hk=>?_⟩
 rcases hd with hn | ⟨a,ha⟩
 ·rw[hn] at hk;cases hk
 ·rw[ha] at he hk
  exact ⟨a,ZmE h1 h2 hf hb (hnd xs) he.symm,hk⟩
end Go.Ev
end

section
namespace Go.Ev
variable [Tabs]
open Go
inductive JT (J α:Type) where
 | leaf (a:α)
 | no
 | jmp (j:J)
 | br (c:Bool) (t f:JT J α)
def JT.run {J α:Type} (k:α→Option Ans) (g:J→Option Ans):JT J α→Option Ans
 |.leaf a=>k a
 |.no=>none
 |.jmp j=>g j
 |.br c t f=>bif c then t.run k g else f.run k g
inductive Goes {J α:Type} (T:J→JT J α):JT J α→α→Prop
 | leaf {a:α} :Goes T (.leaf a) a
 | jmp {j:J} {a:α} :Goes T (T j) a→Goes T (.jmp j) a
 | brt {t f:JT J α} {a:α} :Goes T t a→Goes T (.br true t f) a
 | brf {t f:JT J α} {a:α} :Goes T f a→Goes T (.br false t f) a
section
variable {J α:Type} {T:J→JT J α}
omit [Tabs]
theorem ZE {a b:α} :Goes T (.leaf b) a↔b=a:=⟨fun h=>(by cases h;rfl),fun h=>h▸ .leaf⟩
theorem Zi {j:J} {a:α} :Goes T (.jmp j) a↔Goes T (T j) a:=⟨fun h=>(by cases h;assumption),.jmp⟩
theorem Ze {c:Bool} {t f:JT J α} {a:α} :Goes T (.br c t f) a↔if c=true then Goes T t a else Goes T f a:=by
 cases c
 ·exact ⟨fun h=>(by cases h;simpa),fun h=>.brf (by simpa using h)⟩
 ·exact ⟨fun h=>(by cases h;simpa),fun h=>.brt (by simpa using h)⟩
theorem Goes.br {c:Bool} {t f:JT J α} {a b:α} (ht:Goes T t a) (hf:Goes T f b):Goes T (.br c t f) (bif c then a else b):=by
 cases c
 ·exact .brf hf
 ·exact .brt ht
theorem Goes.brk {c:Bool} {t f:JT J α} {a b:α} {k1 k2:Bool} (hk:(bif c then k1 else k2)=true) (ht:k1=true→Goes T t a) (hf:k2=true→Goes T f b):Goes T (.br c t f) (bif c then a else b):=by
 cases c
 ·exact .brf (hf hk)
 ·exact .brt (ht hk)
theorem Goes.nok {a:α} (hk:false=true):Goes T .no a:=by cases hk
end
section
variable {P:Program} {cl:Cl} {tb:Tb} {fn:Func} {c:Code} {J α:Type} {T:J→JT J α} {ps:List (Nat×(Lt→Kt))} {S:J→Nat×St} {K:α→Ans} {args:List AV}
omit [Tabs]
theorem Ztb (hl:∀L j,procOf ps (S j).1 L (S j).2=(T j).run (fun v=>some (K v)) fun j=>L (S j).1 (S j).2) {d:JT J α} {a:α} (h:Goes T d a):
  ∃n,d.run (fun v=>some (K v)) (fun j=>Ls ps n (S j).1 (S j).2)=some (K a):=by
 induction h with
 | leaf=>exact ⟨0,rfl⟩
 | @jmp j a _ ih=>
  obtain ⟨n,hn⟩:=ih
  refine ⟨n+1,?_⟩
  show Ls ps (n+1) (S j).1 (S j).2=some (K a)
  show procOf ps (S j).1 (Ls ps n) (S j).2=some (K a)
  rw[hl]
  exact hn
 | brt _ ih=>exact ih
 | brf _ ih=>exact ih
theorem Zp (hb:fn.body=some c) {d:JT J α} (he:∀L,entryA P cl tb fn c L args=d.run (fun v=>some (K v)) fun j=>L (S j).1 (S j).2)
  (hl:∀L j,procOf (procsF P cl tb fn c args) (S j).1 L (S j).2=(T j).run (fun v=>some (K v)) fun j=>L (S j).1 (S j).2) {a:α} (h:Goes T d a):
  ∃n,evF P cl tb fn n args=some (K a):=by
 obtain ⟨n,hn⟩:=Ztb hl h
 refine ⟨n,?_⟩
 unfold evF
 rw[hb]
 simp only
 rw[he]
 exact hn
end
def bs (l:List Nat):ByteArray:=⟨(l.map UInt8.ofNat).toArray⟩
@[reducible] def eqB (a b:ByteArray):Bool:=a.data.toList==b.data.toList
@[reducible] def ltB (a b:ByteArray):Bool:=lessB a.data.toList b.data.toList
@[reducible] def minI (a b:Int):Int:=if b < a then b else a
@[reducible] def maxI (a b:Int):Int:=if a < b then b else a
end Go.Ev
end

section
namespace Go.Ev
open Go Go.ChangeShapes Go.RowKit
variable [Tabs]
def fieldsC (chk:TypeId→Ty→Bool) (P:Program):List (TypeId×Nat)→Nat→Ty→Bool
 | [],_,.un=>true
 | [f],off,ty=>f.2==off&&(chk f.1 ty&&P.cellsOf f.1==ty.cells)
 | f :: r,off,.pr a b=>f.2==off&&(chk f.1 a&&(P.cellsOf f.1==a.cells&&fieldsC chk P r (off+a.cells) b))
 | _,_,_=>false
def tyC (P:Program):Nat→TypeId→Ty→Bool
 | 0,_,_=>false
 | n+1,t,ty=>match P.underlying t with
  | some (.int k)=>decide (ty=.int k)
  | some .bool=>decide (ty=.bool)
  | some .string=>decide (ty=.str)
  | some (.slice e)=>match ty with
   |.sl u=>tyC P n e u&&(P.cellsOf e==u.cells&&Nat.blt 0 u.cells)
   | _=>false
  | some (.struct fs)=>fieldsC (tyC P n) P (fs.toList.map fun f=>(f.type,f.offset)) 0 ty&&P.cellsOf t==ty.cells
  | some (.array k e)=>fieldsC (tyC P n) P ((List.range k).map fun i=>(e,i*P.cellsOf e)) 0 ty&&P.cellsOf t==ty.cells
  | _=>false
def small:(t:Ty)→El t→Prop
 |.int k,n=>k.min≤(show Int from n)∧(show Int from n)≤k.max
 |.str,s=>(show ByteArray from s).size≤maxLen
 |.sl t,l=>List.length (show List (El t) from l)≤maxLen∧∀x∈(show List (El t) from l),small t x
 |.pr a b,x=>small a x.1∧small b x.2
 | _,_=>True
section
variable {H:Type} {enc:TypeId×Value→H} {P:Program} {w:World} {base:Nat} {spare:Nat→Bool} {held:Bool}
theorem ZsG {a:Addr} {n:Nat} {cs:List Value} (h:w.cells? base a n=some cs):cs.length=n∧cellsAt w a cs:=by
 unfold World.cells? at h
 split at h
 ·have hl:cs.length=n:=by have:=mapM_some_length h;rw[List.length_range] at this;exact this
  refine ⟨hl,fun j v hv=>?_⟩
  have hj:j < cs.length:=(List.getElem?_eq_some_iff.1 hv).1
  have:=mapM_some_get h j j (by rw[List.getElem?_range (by omega)])
  rw[this];exact hv
 ·cases h
theorem Zkk {chk:TypeId→Ty→Bool} {F:Nat→Prop} (hchk:∀t ty cs d,chk t ty=true→(∃n,DataW.trod enc P w base spare held n t cs=some d)→∃x:El ty,LRep F w ty x cs∧small ty x):
  ∀(fs:List (TypeId×Nat)) (off:Nat) (ty:Ty) (cs:List Value),fieldsC chk P fs off ty=true→(∀f∈fs,∃n d,DataW.trod enc P w base spare held n f.1 ((cs.drop f.2).take (P.cellsOf f.1))=some d)→off+ty.cells≤cs.length→
   ∃x:El ty,LRep F w ty x ((cs.drop off).take ty.cells)∧small ty x
 | [],off,ty,cs,h,_,_=>by
  cases ty <;> simp only[fieldsC] at h <;> first | (cases h;done) | skip
  exact ⟨(),by simp[LRep,Ty.cells],trivial⟩
 | [f],off,ty,cs,h,hf,hl=>by
  have h':(f.2==off&&(chk f.1 ty&&P.cellsOf f.1==ty.cells))=true:=by
   cases ty <;> exact h
  simp only[Bool.and_eq_true,beq_iff_eq] at h'
  obtain ⟨h1,h2,h3⟩:=h'
  obtain ⟨n,d,hd⟩:=hf f (by simp)
  rw[h1,h3] at hd
  exact hchk _ _ _ d h2 ⟨n,hd⟩
 | f :: g :: r,off,ty,cs,h,hf,hl=>by
  cases ty with
  | pr a b=>
   have h':(f.2==off&&(chk f.1 a&&(P.cellsOf f.1==a.cells&&fieldsC chk P (g :: r) (off+a.cells) b)))=true:=h
   simp only[Bool.and_eq_true,beq_iff_eq] at h'
   obtain ⟨h1,h2,h3,h4⟩:=h'
   obtain ⟨n,d,hd⟩:=hf f (by simp)
   rw[h1,h3] at hd
   obtain ⟨x,hx,sx⟩:=hchk _ _ _ d h2 ⟨n,hd⟩
   simp only[Ty.cells] at hl
   obtain ⟨y,hy,sy⟩:=Zkk hchk (g :: r) (off+a.cells) b cs h4 (fun f' hf'=>hf f' (by simp only[List.mem_cons] at hf' ⊢;exact .inr hf')) (by omega)
   refine ⟨(x,y),?_,sx,sy⟩
   simp only[LRep]
   refine ⟨_,_,?_,hx,hy⟩
   simp only[Ty.cells]
   rw[List.take_add,List.drop_drop]
  | _=>simp[fieldsC] at h
theorem Zsv {α:Type} {Q:Nat→α→Prop} :∀ {n:Nat},(∀i,i < n→∃x,Q i x)→∃l:List α,l.length=n∧∀i x,l[i]? =some x→Q i x
 | 0,_=>⟨[],rfl,fun i x hx=>by simp at hx⟩
 | n+1,h=>by
  obtain ⟨l,hl,hall⟩:=Zsv (n:=n) fun i hi=>h i (by omega)
  obtain ⟨x,hx⟩:=h n (by omega)
  refine ⟨l++[x],by simp[hl],fun i y hy=>?_⟩
  by_cases hi:i < n
  ·rw[List.getElem?_append_left (by omega)] at hy
   exact hall i y hy
  ·rw[List.getElem?_append_right (by omega)] at hy
   have hik:i=n:=by
    have:=(List.getElem?_eq_some_iff.1 hy).1
    simp at this;omega
   subst hik
   simp[hl] at hy
   subst hy
   exact hx
theorem Zlt:∀(m:Nat) (t:TypeId) (ty:Ty) (cs:List Value) (d:DataW H×List MemPlace),tyC P m t ty=true→(∃n,DataW.trod enc P w base spare held n t cs=some d)→
  ∃x:El ty,LRep (fun b=>b < w.heap.size) w ty x cs∧small ty x
 | 0,_,_,_,_,h,_=>by cases h
 | m+1,t,ty,cs,d,h,⟨n,hd⟩=>by
  unfold tyC at h
  split at h
  ·rename_i k hu
   obtain rfl:=of_decide_eq_true h
   obtain ⟨i,rfl,_,hw⟩:=DataW.trod_int hu hd
   exact ⟨i,rfl,(show k.min≤i∧i≤k.max by simpa[Lit.wf] using hw)⟩
  ·rename_i hu
   obtain rfl:=of_decide_eq_true h
   obtain ⟨b,rfl,_⟩:=DataW.trod_bool hu hd
   exact ⟨b,rfl,trivial⟩
  ·rename_i hu
   obtain rfl:=of_decide_eq_true h
   obtain ⟨s,rfl,_,hs⟩:=DataW.trod_string hu hd
   exact ⟨s,rfl,hs⟩
  ·rename_i e hu
   split at h
   ·rename_i u
    simp only[Bool.and_eq_true,beq_iff_eq] at h
    obtain ⟨h1,h2,h0⟩:=h
    have hz:0 < u.cells:=Nat.le_of_ble_eq_true h0
    rcases DataW.trod_slice hu hd with ⟨rfl,_⟩ | ⟨a,len,cap,elems,rest,n',_,rfl,_,hb,hlc,hcm,hel,hat,_,_⟩
    ·exact ⟨[],⟨none,0,rfl,Nat.le_refl _,fun i x hx=>by simp at hx⟩,by simp[small]⟩
    ·have each:∀i,i < len→∃x:El u,(∃cs,LRep (fun b=>b < w.heap.size) w u x cs∧cellsAt w (a.add (i*u.cells)) cs∧(0 < cs.length→a.block < w.heap.size))∧small u x:=by
      intro i hi
      have h3:=hat i hi
      rw[List.getElem?_eq_getElem (by omega)] at h3
      obtain ⟨cs,hc,ht⟩:=Option.bind_eq_some_iff.1 h3
      rw[h2] at hc
      obtain ⟨hl,hca⟩:=ZsG hc
      obtain ⟨x,hx,sx⟩:=Zlt m e u cs _ h1 ⟨n',ht⟩
      refine ⟨x,⟨cs,hx,hca,fun hp=>?_⟩,sx⟩
      have h0:=hca 0 cs[0] (by simp[hp])
      have:=World.cells?_block hc (by omega)
      rwa[Addr.add_block] at this
     have:=Zsv each
     obtain ⟨l,hl,hall⟩:=this
     refine ⟨l,⟨some a,cap,by rw[hl],by rw[hl];exact hlc,fun i x hx=>?_⟩,?_,fun x hx=>?_⟩
     ·obtain ⟨⟨cs,c1,c2,c3⟩,_⟩:=hall i x hx
      exact ⟨a,cs,rfl,c3 (by rw[c1.length];omega),c1,c2⟩
     ·rw[hl];omega
     ·obtain ⟨i,hi⟩:=List.getElem?_of_mem hx
      exact (hall i x hi).2
   ·cases h
  ·rename_i fs hu
   simp only[Bool.and_eq_true,beq_iff_eq] at h
   obtain ⟨h1,h2⟩:=h
   obtain ⟨xs,n',_,_,hl,hxl,hxs⟩:=DataW.trod_struct hu hd
   obtain ⟨x,hx,sx⟩:=Zkk (fun t ty cs d hc he=>Zlt m t ty cs d hc he) (fs.toList.map fun f=>(f.type,f.offset)) 0 ty cs h1 (fun f hf=>by
    obtain ⟨g,hg,e⟩:=List.mem_map.1 hf
    subst e
    obtain ⟨i,hi⟩:=List.getElem?_of_mem hg
    have:=hxs i g (by simpa using hi)
    have hlt:i < xs.length:=by
     have:=(List.getElem?_eq_some_iff.1 hi).1
     simp at this;omega
    rw[List.getElem?_eq_getElem hlt] at this
    exact ⟨n',_,this⟩) (by omega)
   refine ⟨x,?_,sx⟩
   rw[List.drop_zero,List.take_of_length_le (by omega)] at hx
   exact hx
  ·rename_i k e hu
   simp only[Bool.and_eq_true,beq_iff_eq] at h
   obtain ⟨h1,h2⟩:=h
   obtain ⟨xs,n',_,_,hl,hxl,hxs⟩:=DataW.trod_array hu hd
   obtain ⟨x,hx,sx⟩:=Zkk (fun t ty cs d hc he=>Zlt m t ty cs d hc he) ((List.range k).map fun i=>(e,i*P.cellsOf e)) 0 ty cs h1 (fun f hf=>by
    obtain ⟨i,hi,rfl⟩:=List.mem_map.1 hf
    rw[List.mem_range] at hi
    have:=hxs i hi
    rw[List.getElem?_eq_getElem (by omega)] at this
    exact ⟨n',_,this⟩) (by omega)
   refine ⟨x,?_,sx⟩
   rw[List.drop_zero,List.take_of_length_le (by omega)] at hx
   exact hx
  ·cases h
theorem Zqz {r:Reach} {b:Nat} {m:Nat} {t:TypeId} {ty:Ty} {v:Value} (hg:isAgg P t=some false) (ht:tyC P m t ty=true) (hv:Value.okWide P w r b t v):v.cells.toList=[v]:=by
 cases m with
 | zero=>cases ht
 | succ m=>
  unfold tyC at ht
  unfold isAgg at hg
  unfold Value.okWide at hv
  split at ht <;> rename_i hu
  case h_5=>rw[hu] at hg;simp at hg
  case h_6=>rw[hu] at hg;simp at hg
  case h_7=>cases ht
  all_goals
   rw[hu] at hv
   simp only[Cell.okWide,Cell.ok,hu] at hv
   cases v <;> first | rfl | (exact absurd hv (by simp))
def argsC (P:Program):List TypeId→Sig→Bool
 | [],[]=>true
 | t :: ts,(g,ty) :: s=>(match isAgg P t with | some g'=>g'==g | none=>false)&&(tyC P 12 t ty&&argsC P ts s)
 | _,_=>false
def smallArgs:(s:Sig)→Args s→Prop
 | [],_=>True
 | p :: r,a=>small p.2 a.1∧smallArgs r a.2
theorem ZrH {r:Reach} {b:Nat} :∀(ts:List TypeId) (s:Sig) (vs:List Value) (ds:List (DataW H)) (ps:List MemPlace),argsC P ts s=true→
  (∀(j:Nat) t v,ts[j]? =some t→vs[j]? =some v→Value.okWide P w r b t v)→DataW.TrodAll enc P w base spare held ts vs ds ps→
  ∃a:Args s,TReps (fun b=>b < w.heap.size) w (toForms s a) vs []∧smallArgs s a∧ds.length=ts.length
 | [],[],vs,ds,ps,_,_,h=>by
  obtain ⟨rfl,rfl,rfl⟩:=trodAll_nil h
  exact ⟨(),.nil,trivial,rfl⟩
 | [],_ :: _,_,_,_,h,_,_=>by cases h
 | _ :: _,[],_,_,_,h,_,_=>by cases h
 | t :: ts,(g,ty) :: s,vs,ds,ps,h,hv,hd=>by
  simp only[argsC,Bool.and_eq_true] at h
  obtain ⟨hg,ht,hr⟩:=h
  obtain ⟨v,vs1,d,ds1,p,q,rfl,rfl,rfl,h1,h2⟩:=trodAll_cons hd
  obtain ⟨a,ha,sa,la⟩:=ZrH ts s vs1 ds1 q hr (fun j t' v' e1 e2=>hv (j+1) t' v' e1 e2) h2
  obtain ⟨n,hn⟩:=h1
  obtain ⟨x,hx,sx⟩:=Zlt 12 t ty v.cells.toList _ ht ⟨n,hn⟩
  have hok:=hv 0 t v rfl rfl
  have hf:CsRep (fun b=>b < w.heap.size) ρ0 w st0 (flat ty x) v.cells.toList:=Zc9 hx
  have hT:=Zip hf ZjO
  refine ⟨(x,a),?_,⟨sx,sa⟩,by simp[la]⟩
  cases hag:isAgg P t with
  | none=>rw[hag] at hg;cases hg
  | some g'=>
   rw[hag] at hg
   simp only[beq_iff_eq] at hg
   subst hg
   cases g' with
   | true=>
    have:∃cs,v=.agg cs:=by
     unfold isAgg at hag
     unfold Value.okWide at hok
     split at hok
     ·obtain ⟨cs,e,_⟩:=hok;exact ⟨cs,e⟩
     ·obtain ⟨cs,e,_⟩:=hok;exact ⟨cs,e⟩
     ·rename_i h1 h2
      split at hag
      ·rename_i fs hu;exact absurd hu (h1 fs)
      ·rename_i m e hu;exact absurd hu (h2 m e)
      ·cases hag
      ·cases hag
    obtain ⟨cs,rfl⟩:=this
    have:=TReps.ag hT ha
    simpa[toForms,toForm,Value.cells] using this
   | false=>
    have hs:=Zqz hag ht hok
    rw[hs] at hT hf
    have hlen:=hf.1
    show TReps _ w ((flat ty x).headD .top :: toForms s a) (v :: vs1) []
    match hm:flat ty x,hlen with
    | [c],_=>
     rw[hm] at hT
     have:=hT.append ha
     simpa using this
theorem ZsV {f:Func} {s:ChangeSpec} {W W':World} {args:Array Value} {v:Value} {ds gs:List (DataW H)} {before pa pv:List MemPlace} {apart fresh handsOn again:Bool}
  (hW:DataW.Whole enc P f.params.toList s.vars apart W args.toList ds gs before)
  (hres:∀(b:Nat) (sp:Nat→Bool) (hd:Bool),DataW.TrodAll enc P W' b sp hd f.resultTypes.toList (v.resultList f.resultTypes.size) (s.fn H (ds++gs)).results [])
  (hargs:∀sp:Nat→Bool,(∀p∈before,sp p.block=true)→DataW.TrodAll enc P W' 0 sp true f.params.toList args.toList (s.fn H (ds++gs)).args pa)
  (hvars:∀sp:Nat→Bool,(∀p∈before,sp p.block=true)→DataW.TrodVars enc P W' sp s.vars (s.fn H (ds++gs)).vars pv)
  (hps:before=pa++pv) (hk:W.keptBut W' (· ∈before)) (hfz:∀a:Addr,a.block < W.heap.size→W'.frozen? a=W.frozen? a)
  (hok:∀(j:Nat) (t:TypeId) (r:Value),f.resultTypes[j]? =some t→(v.resultList f.resultTypes.size)[j]? =some r→Value.okWide P W' .any 0 t r):
  s.post enc P f apart fresh handsOn again W args v W':=by
 have hold:∀p∈before,(fun b=>decide (b < W.heap.size)) p.block=true:=fun p hp=>by simpa using hW.lt p hp
 refine ⟨ds,gs,before,[],pa,pv,hW,hres _ _ _,hargs _ hold,hvars _ hold,World.keptBut_mono (fun p hp=>⟨hp,?_⟩) hk,fun _=>?_⟩
 ·rw[hps,List.mem_append] at hp
  exact Or.inr hp
 ·have hlt:=hW.lt
  obtain ⟨_,_,_,_,_,hz,hn⟩:=hW
  refine ⟨hok,_,_,([]++pa)++pv,⟨[]++pa,pv,trodAll_append (hargs _ (fun _ _=>rfl)) (hres _ _ _),hvars _ (fun _ _=>rfl),rfl,?_,?_⟩,?_⟩
  ·intro b off hp
   have hb:MemPlace.cell b off∈before:=by rw[hps];simpa using hp
   rw[hfz _ (hlt _ hb)]
   exact hz b off hb
  ·intro ha
   have:=hn ha
   rw[hps] at this
   simpa using this
  ·intro p hp _
   rw[hps]
   simpa using hp
end
theorem ZjD {H:Type} {enc:TypeId×Value→H} {P:Program} {W W':World} {sp:Nat→Bool} (hl:laidOutB P=true) (hb:Below W.heap.size W W'):
  ∀ {ts:List TypeId} {vs:List Value} {ds:List (DataW H)} {ps:List MemPlace},(∀t∈ts,P.readableRec t=true∧t < P.types.size)→(∀p∈ps,p.block < W.heap.size)→(∀p∈ps,sp p.block=true)→
   DataW.TrodAll enc P W 0 (fun _=>true) true ts vs ds ps→DataW.TrodAll enc P W' 0 sp true ts vs ds ps
 | [],_,_,_,_,_,_,h=>by
  obtain ⟨rfl,rfl,rfl⟩:=trodAll_nil h
  rfl
 | t :: ts,_,_,_,ht,hlt,hsp,h=>by
  obtain ⟨v,vs1,d,ds1,p,q,rfl,rfl,rfl,h1,h2⟩:=trodAll_cons h
  refine ⟨p,q,?_,ZjD hl hb (fun t' ht'=>ht t' (List.mem_cons_of_mem _ ht')) (fun x hx=>hlt x (List.mem_append_right _ hx)) (fun x hx=>hsp x (List.mem_append_right _ hx)) h2,rfl⟩
  exact WideElems.Trod_stays hl (ht t (by simp)).1 (ht t (by simp)).2 h1 (fun x hx=>hb.same (hlt x (List.mem_append_left _ hx))) (fun x hx=>hsp x (List.mem_append_left _ hx))
theorem ZpB {H:Type} {enc:TypeId×Value→H} {P:Program} {f:FuncId} {fn:Func} {s:ChangeSpec} {sg:Sig} {tb:TypeId} {fresh handsOn again:Bool} (hvars:s.vars=[]) (hres:fn.resultTypes= #[tb]) (hb:P.underlying tb=some .bool)
  (hl:laidOutB P=true) (hread:(fn.params.toList.all fun t=>P.readableRec t&&Nat.blt t P.types.size)=true) (hsg:argsC P fn.params.toList sg=true)
  (hs:∀ds:List (DataW H),ds.length=fn.params.toList.length→s.fn H ds= { results:=[.lit (.bool true)],args:=ds })
  {W:World} {base:Nat} {args:Array Value} {ds gs:List (DataW H)} {before:List MemPlace}
  (hval:∀(j:Nat) t v,fn.params[j]? =some t→args[j]? =some v→Value.okWide P W .any base t v)
  (hW:DataW.Whole enc P fn.params.toList s.vars false W args.toList ds gs before) (htab:Tabs.ok W) (hblocks:∀b∈Tabs.blocks,b < W.heap.size)
  (hcall:∀a:Args sg,smallArgs sg a→∃outs,CallOK P f (toForms sg a) (.d .bool true,outs)):
  Calls P f args W fun e W'=>∃v,e=.returned v∧s.post enc P fn false fresh handsOn again W args v W':=by
 have hW':=hW
 obtain ⟨p,q,hA,hV,rfl,_,_⟩:=hW
 rw[hvars] at hV
 obtain ⟨rfl,rfl⟩:=trodVars_none hV
 obtain ⟨a,hT,hsm,hlen⟩:=ZrH fn.params.toList sg args.toList ds p hsg (fun j t v h1 h2=>hval j t v (by simpa using h1) (by simpa using h2)) hA
 obtain ⟨outs,hc⟩:=hcall a hsm
 have hcl:=hc.1 (fun b=>b < W.heap.size) W args.toList [] hT List.nodup_nil (fun b hb=>by simp at hb) (fun b hb=>hb) ⟨hblocks,htab⟩
 rw[Array.toArray_toList] at hcl
 refine Calls.mono hcl ?_
 intro e W' he
 cases e with
 | returned v=>
  obtain ⟨F',Lr,Lo,hE,hlow,hTr,_,_,_⟩:=he
  have hv:v=.bool true:=by
   cases hTr with
   | flat h1 h2 h3=>cases h2 with | d _ _ _ h=>simpa[LRep] using h
  subst hv
  have hsame:∀i,i < W.heap.size→W'.heap[i]? =W.heap[i]?:=fun i hi=>hE.same i hi (.inl hi)
  have hbel:Below W.heap.size W W':=⟨hE.os,hE.tape,hE.output,hE.size,hsame⟩
  have hlt:=hW'.lt
  have hfn:s.fn H (ds++[])= { results:=[.lit (.bool true)],args:=ds } :=by rw[List.append_nil];exact hs ds hlen
  have hvs:(s.fn H (ds++[])).vars=[]:=by rw[hfn]
  refine ⟨_,rfl,ZsV (pa:=p) (pv:=[]) hW' (fun b sp hd=>?_) (fun sp hsp=>?_) (fun sp _=>?_) rfl ⟨hE.os,hE.output,fun i hi=>?_⟩ (fun x hx=>?_) (ok_one hres rfl (okWide_bool_mk hb true))⟩
  ·rw[hfn,hres]
   exact trodAll_mk1 (shut_bool hb _)
  ·rw[hfn]
   refine ZjD hl hbel (fun t ht=>?_) (fun x hx=>hlt x (by simpa using hx)) (fun x hx=>hsp x (by simpa using hx)) hA
   have:=List.all_eq_true.1 hread t ht
   simp only[Bool.and_eq_true] at this
   exact ⟨this.1,Nat.le_of_ble_eq_true this.2⟩
  ·rw[hvars,hvs]
   rfl
  ·rw[hsame i hi]
   cases W.heap[i]? with
   | none=>rfl
   | some o=>
    cases o with
    | cells c t fr=>exact ⟨rfl,rfl,rfl,fun _ _=>rfl⟩
    | map es clock=>exact .inr ⟨rfl,rfl⟩
    | _=>rfl
  ·unfold World.frozen?
   rw[hsame _ hx]
 | _=>exact he.elim
end Go.Ev
end

section
namespace Go.Ev
variable [Tabs]
open Go
inductive CK where
 | d (t:Ty)
 | w (E:TypeId) (t:Ty)
 | m (kt vt:Ty)
@[reducible] def CK.ty:CK→Ty
 |.d t=>t
 |.w _ t=>.sl t
 |.m kt vt=>.sl (.pr kt vt)
@[reducible] def cksTy:List CK→Ty
 | []=>.un
 | [c]=>c.ty
 | c :: r=>.pr c.ty (cksTy r)
inductive PK where
 | dat (g:Bool) (t:Ty)
 | obj (T:TypeId) (cs:List CK)
 | ptr (T S:TypeId) (cs:List CK) -- a box that holds the address of such a box
 | nilp
 | row (E:TypeId) (t:Ty) -- a row of one's own,handed over whole
@[reducible] def PK.ty:PK→Ty
 |.dat _ t=>t
 |.obj _ cs=>cksTy cs
 |.ptr _ _ cs=>cksTy cs
 |.nilp=>.un
 |.row _ t=>.sl t
abbrev PSig:=List PK
@[reducible] def PArgs:PSig→Type
 | []=>Unit
 | p :: r=>El p.ty×PArgs r
section
variable {F:Nat→Prop} {w:World}
end
section
variable {P:Program} {t:Tbl} {tb:Tb} {f:FuncId} {fn:Func} {c:Code} {s:PSig} {α:Type} {K:α→Ans} {els:Run}
end
end Go.Ev
end

section
namespace Go.Ev
variable [Tabs]
open Go
section
variable [Orgs] {P:Program} {Mod F0:Nat→Prop} {w0:World} {cl:Cl} {st st1:St} {a:Act} {w:World} {Q:Exit→Act→World→Prop}
end
end Go.Ev
end

section
namespace Go.Ev
variable [Tabs]
open Go
structure RangeText where
 s1:Nat
 s2:Nat
 b0:Nat
 b1:Nat
 ops1:Array Oper
 ops2:Array Oper
 cr:Code
 tit:Nat
 tn:Nat
 tok:Nat
 td:Nat
 on:Oper
 en:Oper
@[reducible] def RangeText.code (X:RangeText):Code:=.block X.b0 (.loop (.seq (.region X.s1 X.ops1 false) (.seq (.cond (.tmp X.tok) .skip (.exit X.b0)) (.block X.b1 (.seq (.region X.s2 X.ops2 false) X.cr)))))
section
variable [Orgs] {P:Program} {Mod F0:Nat→Prop} {w0:World} {cl:Cl} {Q:Exit→Act→World→Prop}
end
@[reducible] def Orgs.at (O:Orgs) (J:Nat) (v:Value):Orgs:=⟨fun j=>if j=J then v else O.org j⟩
end Go.Ev
end

section
namespace Go.Ev
variable [Tabs]
open Go
@[reducible] def sorted (l:List Int):List Int:=l.mergeSort fun x y=>decide (x≤y)
end Go.Ev
end

section
namespace Go.Ev
open Go
variable [Tabs]
section
variable [Orgs] {P:Program} {Mod F0:Nat→Prop} {w0:World} {cl:Cl} {tb:Tb}
end
end Go.Ev
end

section
namespace Go.Ev
variable [Tabs]
open Go
section
variable [Orgs] {P:Program} {Mod F0:Nat→Prop} {w0:World} {cl:Cl} {st:St} {a:Act} {w:World}
end
end Go.Ev
end

section
namespace Go.Ev
open Go
theorem wrap_i64 {n:Int} (h0: -9223372036854775808≤n) (h1:n < 9223372036854775808):IntKind.i64.wrap n=n:=by
 have e:IntKind.i64.wrap n=if n % 18446744073709551616≥9223372036854775808 then n % 18446744073709551616 - 18446744073709551616 else n % 18446744073709551616:=by
  unfold IntKind.wrap
  simp[IntKind.signed,IntKind.bits]
 rw[e]
 split <;> omega
theorem Zn {k:Nat} (h:k < 4611686018427387904):IntKind.i64.wrap ((k:Int)+1)=((k+1:Nat):Int):=by
 rw[wrap_i64 (by omega) (by omega)];omega
theorem Zsx {k:Nat} (h:k < 4611686018427387904) (h0:0 < k):IntKind.i64.wrap ((k:Int) - 1)=((k - 1:Nat):Int):=by
 rw[wrap_i64 (by omega) (by omega)];omega
theorem ZX {k n:Nat} (h:k < n):decide ((k:Int) < Int.ofNat n)=true:=by simp;omega
theorem ZB {k n:Nat} (h:¬k < n):decide ((k:Int) < Int.ofNat n)=false:=by simp;omega
theorem ZC {k n:Nat} (h:k < n):(decide ((0:Int)≤(k:Int))&&decide ((k:Int) < Int.ofNat n))=true:=by simp;omega
theorem nng {k:Nat} :decide ((0:Int)≤(k:Int))=true:=by simp
theorem Zs {α:Type} {l:List α} {k:Nat} {d:α} (h:k < l.length):List.getD l k d=l[k]:=by simp[List.getD,h]
theorem Zks {a b:ByteArray} :eqB a b=true↔a=b:=by
 unfold eqB
 simp only[beq_iff_eq]
 constructor
 ·intro h;cases a;cases b;simp only[Array.toList_inj] at h;simp_all
 ·rintro rfl;rfl
theorem ZkX {a b:ByteArray} :eqB a b=decide (a=b):=by
 rw[Bool.eq_iff_iff,Zks,decide_eq_true_iff]
instance elDec:(t:Ty)→DecidableEq (El t)
 |.int _=>inferInstanceAs (DecidableEq Int)
 |.bool=>inferInstanceAs (DecidableEq Bool)
 |.str=>inferInstanceAs (DecidableEq ByteArray)
 |.sl t=> @instDecidableEqList _ (elDec t)
 |.pr a b=> @instDecidableEqProd _ _ (elDec a) (elDec b)
 |.un=>inferInstanceAs (DecidableEq Unit)
def same (t:Ty) (a b:El t):Bool:= @decide (a=b) (elDec t a b)
theorem Zby {t:Ty} {a b:El t} :same t a b=true↔a=b:= @decide_eq_true_iff _ (elDec t a b)
theorem ZtZ {t:Ty} {a b:El t} [d:Decidable (a=b)]:same t a b=decide (a=b):=by
 rw[Bool.eq_iff_iff,Zby,decide_eq_true_iff]
def findFrom (s:ByteArray):List ByteArray→Nat→Option Nat
 | [],_=>none
 | x :: r,k=>if x=s then some k else findFrom s r (k+1)
theorem down {n:Nat} {P:Nat→Prop} (hend:P n) (hstep:∀k,k < n→P (k+1)→P k):∀k,k≤n→P k:=by
 intro k hk
 obtain ⟨m,rfl⟩:∃m,n=k+m:=⟨n - k,by omega⟩
 induction m generalizing k with
 | zero=>exact hend
 | succ m ih=>exact hstep k (by omega) (ih (k+1) (by rw[show k+1+m=k+(m+1) by omega];exact hend) (fun j hj h=>hstep j (by omega) h) (by omega))
theorem Zw {α:Type} {l:List α} {k:Nat} (h:k < l.length):l.drop k=l[k] :: l.drop (k+1):=List.drop_eq_getElem_cons h
end Go.Ev
end

/- Part of the proof of: A delay is a store, and a load to which one comes from it, of one thread, neither of them locked; each once, in order; open are some of them: for every input the law answers true. -/
import Derived.Test.YtgdfhjnbdmgjmaaGreatDoorEng1
set_option maxRecDepth 100000
set_option linter.unusedSectionVars false
set_option linter.unusedVariables false
set_option linter.unusedSimpArgs false
section
namespace Go.Ev
variable [Tabs]
open Go
structure SE where
 key:Int
 b:Nat
 mb:Nat
 n:Int
 l:List (El (.int .i64)×El (.int .u64))
structure HS where
 m:Nat
 es:List SE
def SE.blocks (e:SE):List Nat:=[e.b,e.mb]
def HS.blocks (h:HS):List Nat:=h.m :: h.es.flatMap SE.blocks
def SetAt (T:TypeId) (w:World) (e:SE):Prop:=w.heap[e.b]? =some (.cells #[.int .i64 e.n,.map (some e.mb)] T (0,0))∧MapRep w (.int .i64) (.int .u64) e.l (.map (some e.mb))
def SE.ptr (e:SE):Value:=.pointer (some ⟨e.b,0,none⟩)
def Hold (T:TypeId) (w:World) (h:HS):Prop:=
 (∃es clock,w.heap[h.m]? =some (.map es clock)∧Stamps es clock∧es.toList.map (fun e=>(e.key,e.val))=h.es.map fun e=>(Value.int .i64 e.key,e.ptr))∧(h.es.map SE.key).Nodup∧∀e∈h.es,SetAt T w e
theorem SetAt.same {T:TypeId} {w w':World} {e:SE} (h:∀b∈e.blocks,w'.heap[b]? =w.heap[b]?) (hs:SetAt T w e):SetAt T w' e:=by
 obtain ⟨h1,r,es,clock,h2,h3,h4⟩:=hs
 cases h2
 exact ⟨by rw[h _ (by simp[SE.blocks])];exact h1,_,es,clock,rfl,by rw[h _ (by simp[SE.blocks])];exact h3,h4⟩
theorem Hold.same {T:TypeId} {w w':World} {h:HS} (hb:∀b∈h.blocks,w'.heap[b]? =w.heap[b]?) (hs:Hold T w h):Hold T w' h:=by
 obtain ⟨⟨es,clock,h1,h2,h3⟩,h4,h5⟩:=hs
 refine ⟨⟨es,clock,by rw[hb _ (by simp[HS.blocks])];exact h1,h2,h3⟩,h4,fun e he=>(h5 e he).same fun b hbb=>hb b ?_⟩
 simp only[HS.blocks,List.mem_cons,List.mem_flatMap]
 exact .inr ⟨e,he,hbb⟩
@[reducible] def Mh (Mod:Nat→Prop) (L:List Nat) (b:Nat):Prop:=Mod b∧b∉L
def RelH [Orgs] (T:TypeId) (Mod F0:Nat→Prop) (w0:World) (h:HS) (st:St) (a:Act) (w:World):Prop:=
 a.defers=[]∧h.blocks.Nodup∧∃F ρ,R (Mh Mod h.blocks) F ρ w st a.tmps∧Evo Mod F0 w0 F w∧Hold T w h∧∀b∈h.blocks,¬F b∧Mod b∧b < w.heap.size
section
variable [Orgs] {P:Program} {T:TypeId} {Mod F0:Nat→Prop} {w0:World} {cl:Cl} {h:HS} {st st1:St} {a:Act} {w:World} {Q:Exit→Act→World→Prop}
theorem RelH.out (hr:RelH T Mod F0 w0 h st a w):Rel Mod F0 w0 st a w:=by
 obtain ⟨hd,_,F,ρ,hR,hE,_,hb⟩:=hr
 exact ⟨hd,F,ρ,hR.mod (fun b hh=>(hR.hi b hh).1) fun _ _ _ _ _ _ _ h=>h.1,hE⟩
theorem RelH.lift {st1:St} (hg:∀ {Mod F0:Nat→Prop} {w0:World},Rel Mod F0 w0 st a w→Rel Mod F0 w0 st1 a w) (hr:RelH T Mod F0 w0 h st a w):RelH T Mod F0 w0 h st1 a w:=by
 obtain ⟨hd,hn,F,ρ,hR,hE,hH,hb⟩:=hr
 obtain ⟨_,F',ρ',hR',hE'⟩:=hg (Mod:=Mh Mod h.blocks) (F0:=F) (w0:=w) ⟨hd,F,ρ,hR,Evo.refl _ _ _⟩
 have hF:∀b∈h.blocks,¬F' b:=fun b hbb hF=>(hE'.new b hF).elim (hb b hbb).1 fun hm=>hm.2 hbb
 exact ⟨hd,hn,F',ρ',hR',hE.trans (hE'.mod fun b hb=>hb.1),hH,fun b hbb=>⟨hF b hbb,(hb b hbb).2⟩⟩
theorem RelH.next {st1:St} {a':Act} {w':World} {F:Nat→Prop} {ρ:Rho} (hn:h.blocks.Nodup) (hE:Evo Mod F0 w0 F w) (hH:Hold T w h) (hb:∀b∈h.blocks,¬F b∧Mod b∧b < w.heap.size)
  (hr:Rel (Mh Mod h.blocks) F w st1 a' w'):RelH T Mod F0 w0 h st1 a' w':=by
 obtain ⟨hd',F',ρ',hR',hE'⟩:=hr
 refine ⟨hd',hn,F',ρ',hR',hE.trans (hE'.mod fun b hb=>hb.1),hH.same fun b hbb=>hE'.same b (hb b hbb).2.2 (.inr fun hm=>hm.2 hbb),fun b hbb=>⟨fun hF=>(hE'.new b hF).elim (hb b hbb).1 fun hm=>hm.2 hbb,(hb b hbb).2.1,Nat.lt_of_lt_of_le (hb b hbb).2.2 hE'.size⟩⟩
theorem pieceH (hcl:Spec P cl) (hdet:DetC cl) {c:Code} (g:St→St) (hg:∀ {Mod F0:Nat→Prop} {w0:World} {st a w},Rel Mod F0 w0 st a w→Rel Mod F0 w0 (g st) a w)
  (hev:∀(L:Lt) (k:Kt) (x:Nat→Kt) (r:Kt),evC P cl [] L c 0 (fun s=>k (g s)) x r st=k st1) (hr:RelH T Mod F0 w0 h st a w) (hQ:∀a' w',RelH T Mod F0 w0 h st1 a' w'→Q .normal a' w'):c.wp P Q a w:=by
 obtain ⟨hd,hn,F,ρ,hR,hE,hH,hb⟩:=hr
 exact piece (Mod:=Mh Mod h.blocks) (F0:=F) (w0:=w) hcl hdet g hg hev ⟨hd,F,ρ,hR,Evo.refl _ _ _⟩ fun a' w' hr'=>hQ a' w' (RelH.next (ρ:=ρ) hn hE hH hb hr')
theorem evOpH (hcl:Spec P cl) {ops:Array Oper} {i:Nat} {o:Oper} {rest:List Nat} (ho:ops[i]? =some o) (hg:o.guard=none) (hev:∀k,opA P cl o st k=k st1) (hr:RelH T Mod F0 w0 h st a w)
  (hQ:∀a' w',RelH T Mod F0 w0 h st1 a' w'→wpOps P ops Q rest a' w'):wpOps P ops Q (i :: rest) a w:=by
 obtain ⟨hd,hn,F,ρ,hR,hE,hH,hb⟩:=hr
 exact evOp (Mod:=Mh Mod h.blocks) (F0:=F) (w0:=w) hcl ho hg hev ⟨hd,F,ρ,hR,Evo.refl _ _ _⟩ fun a' w' hr'=>hQ a' w' (RelH.next (ρ:=ρ) hn hE hH hb hr')
theorem same_int {K:TypeId} {d:TypeDesc} (hd:P.underlying K=some d) (hk:leafUnder P K (.int .i64)=true) (a b:Int):Instr.sameNow d (.int .i64 a) (.int .i64 b)=some (a==b):=by
 unfold leafUnder at hk
 rw[hd] at hk
 cases d <;> first | (simp at hk;done) | skip
 simp only[Instr.sameNow,if_true]
theorem find_set {K:TypeId} {d:TypeDesc} (hd:P.underlying K=some d) (hk:leafUnder P K (.int .i64)=true) (key:Int):∀(l:List SE) (es:List MapEntry) (n:Nat),
  es.map (fun e=>(e.key,e.val))=l.map (fun e=>(Value.int .i64 e.key,e.ptr))→
  (l.find? (fun e=>e.key==key)=none∧Instr.findNow d (.int .i64 key) es n=some none)∨(∃e i,l.find? (fun e=>e.key==key)=some e∧Instr.findNow d (.int .i64 key) es n=some (some (n+i,e.ptr)))
 | [],es,n,h=>by
  have:es=[]:=by cases es <;> simp_all
  subst this
  exact .inl ⟨rfl,rfl⟩
 | e :: l,[],n,h=>by simp at h
 | e :: l,x :: es,n,h=>by
  simp only[List.map_cons,List.cons.injEq,Prod.mk.injEq] at h
  obtain ⟨⟨h1,h2⟩,h3⟩:=h
  by_cases hke:e.key=key
  ·refine .inr ⟨e,0,by simp[hke],?_⟩
   rw[Instr.findNow,h1,same_int hd hk,hke]
   simp[h2]
  ·have hstep:Instr.findNow d (.int .i64 key) (x :: es) n=Instr.findNow d (.int .i64 key) es (n+1):=by
    rw[Instr.findNow,h1,same_int hd hk]
    have:(key==e.key)=false:=by simpa using fun h=>hke h.symm
    rw[this]
   have hf:(e :: l).find? (fun e=>e.key==key)=l.find? (fun e=>e.key==key):=by
    rw[List.find?_cons_of_neg (by simpa using hke)]
   rcases find_set hd hk key l es (n+1) h3 with ⟨a1,a2⟩ | ⟨e',i,a1,a2⟩
   ·exact .inl ⟨hf.trans a1,by rw[hstep,a2]⟩
   ·exact .inr ⟨e',i+1,hf.trans a1,by rw[hstep,a2];congr 3;omega⟩
def HS.at_ (h:HS) (key:Int):Option SE:=h.es.find? fun e=>e.key==key
def ptrOf:Option SE→Value
 | some e=>e.ptr
 | none=>.pointer none
theorem makeMapH {o:Oper} {TM:TypeId} (hop:o.op=.makeMap TM none) (hr:Rel Mod F0 w0 st a w) {next:Act→World→Prop}
  (hK:∀m a' w',RelH T Mod F0 w0 ⟨m,[]⟩ (st.put o.dst (.cst (.map (some m)))) a' w'→next a' w'):o.wp P a w next Q:=by
 obtain ⟨hd,F,ρ,hR,hE⟩:=hr
 have hrun:(execOp a.eval o).run P w=.ok (.value (.map (some w.heap.size))) (w.alloc (.map #[] 0)):=by
  simp[execOp,hop,Instr.makeMap]
 unfold Oper.wp
 rw[hrun]
 have hsz:(w.alloc (.map #[] 0)).heap.size=w.heap.size+1:=by simp
 have hE1:Evo (fun b=>w.heap.size≤b) F w F (w.alloc (.map #[] 0)):=⟨rfl,rfl,rfl,by omega,fun _ h=>h,fun _ h=>.inl h,fun b hb _=>heap_alloc_lt w _ hb⟩
 obtain ⟨hR1,hE2⟩:=hR.world hE1 (fun b hb=>hR.hi b hb) (fun b ⟨id,ver,o,h1,h2,h3⟩ hb=>absurd (hR.sep id ver o b h1 h2 h3).2.2.1 (by omega)) (fun b hb=>by have:=hR.low b hb;omega)
 have hR2:R (Mh Mod [w.heap.size]) F ρ (w.alloc (.map #[] 0)) st a.tmps:=hR1.mod (fun b hb=>⟨hR1.hi b hb,by simp;omega⟩) fun id ver o b h1 h2 h3 hm=>⟨hm,by
  have:=(hR.sep id ver o b h1 h2 h3).2.2.1
  simp;omega⟩
 refine hK w.heap.size _ _ ⟨by rw[put_defers];exact hd,by simp[HS.blocks],F,ρ,R.put (a:=a) hR2 (.cst _) o.dst,hE.trans hE2,⟨⟨#[],0,heap_alloc_self _ _,⟨fun b hb=>by simp at hb,List.nodup_nil⟩,rfl⟩,List.nodup_nil,fun e he=>by simp at he⟩,fun b hb=>?_⟩
 simp only[HS.blocks,List.flatMap_nil,List.mem_singleton] at hb
 subst hb
 exact ⟨fun hF=>Nat.lt_irrefl _ (hR.low _ hF),hR.hi _ (Nat.le_refl _),by omega⟩
theorem at_mem {key:Int} {e:SE} (he:h.at_ key=some e):e∈h.es∧e.key=key:=⟨List.mem_of_find?_eq_some he,by have:=List.find?_some he;simpa using this⟩
theorem lookupH {o:Oper} {TM K V:TypeId} {x k:Operand} {key:Int} (hop:o.op=.lookup TM x k false) (hu:P.underlying TM=some (.map K V)) (hk:leafUnder P K (.int .i64)=true) (hz:zeroOne P V=some (.cst (.pointer none)))
  (hx:st.ev x=.cst (.map (some h.m))) (hkey:st.ev k=.d (.int .i64) key) (hr:RelH T Mod F0 w0 h st a w) {next:Act→World→Prop}
  (hK:∀a' w',RelH T Mod F0 w0 h (st.put o.dst (.cst (ptrOf (h.at_ key)))) a' w'→next a' w'):o.wp P a w next Q:=by
 obtain ⟨hd,hn,F,ρ,hR,hE,hH,hb⟩:=hr
 obtain ⟨⟨es,clock,hm,hst,hes⟩,h4,h5⟩:=id hH
 have e1:a.eval x=.map (some h.m):=rep_cst (eval_of hR hx)
 have e3:a.eval k=.int .i64 key:=rep_int (eval_of hR hkey)
 obtain ⟨d,hdd⟩:=leafUnder_some hk
 have hck:=checkKey_leaf (w:=w) (kt:=.int .i64) (key:=key) hdd hk es.isEmpty
 obtain ⟨zv,hzv,hzr⟩:=zeroOne_rep (st:=st) hz
 have hzc:zv=.pointer none:=rep_cst (hzr (fun _=>False) (fun _=>undef) default)
 have hzrun:(Go.zeroValue V).run P w=.ok (.pointer none) w:=by rw[←hzc];exact run_zero hzv
 have hrun:(execOp a.eval o).run P w=.ok (.value (ptrOf (h.at_ key))) w:=by
  rcases find_set hdd hk key h.es es.toList 0 hes with ⟨a1,a2⟩ | ⟨e,i,a1,a2⟩
  ·have hfk:=findKey_run (P:=P) (w:=w) hdd a2
   have:ptrOf (h.at_ key)=.pointer none:=by rw[HS.at_,a1];rfl
   simp only[execOp,hop,e1,e3,Instr.lookup,Sem.run_bind,run_underlying hu,Result.andThen_ok]
   simp only[leafV] at hck
   simp only[getObj,Sem.run,hm,Sem.run_bind,Result.andThen_ok,Sem.run_pure,hck,hfk,hzrun,this]
   rfl
  ·have hfk:=findKey_run (P:=P) (w:=w) hdd a2
   have:ptrOf (h.at_ key)=e.ptr:=by rw[HS.at_,a1];rfl
   simp only[execOp,hop,e1,e3,Instr.lookup,Sem.run_bind,run_underlying hu,Result.andThen_ok]
   simp only[leafV] at hck
   simp only[getObj,Sem.run,hm,Sem.run_bind,Result.andThen_ok,Sem.run_pure,hck,hfk,this]
   rfl
 unfold Oper.wp
 rw[hrun]
 exact hK _ _ ⟨by rw[put_defers];exact hd,hn,F,ρ,R.put (a:=a) hR (.cst _) o.dst,hE,hH,hb⟩
theorem blocks_app (m:Nat) (A B:List SE):(⟨m,A++B⟩:HS).blocks=(⟨m,A⟩:HS).blocks++B.flatMap SE.blocks:=by simp[HS.blocks]
theorem putH {o:Oper} {TM K V:TypeId} {x k v:Operand} {key n:Int} {l:List (El (.int .i64)×El (.int .u64))} {id ver id2 ver2:Nat} {tg:Option Nat} (hop:o.op=.mapUpdate TM x k v) (hu:P.underlying TM=some (.map K V)) (hk:leafUnder P K (.int .i64)=true)
  (hx:st.ev x=.cst (.map (some h.m))) (hkey:st.ev k=.d (.int .i64) key) (hv:st.ev v=.pt id ver 0) (ho:st.obj id ver=some (.box T [.d (.int .i64) n,.mp id2 ver2] tg)) (ho2:st.obj id2 ver2=some (.map (.int .i64) (.int .u64) l)) (hid:id≠id2) (hnone:h.at_ key=none)
  (hr:RelH T Mod F0 w0 h st a w) {next:Act→World→Prop}
  (hK:∀b mb a' w',RelH T Mod F0 w0 ⟨h.m,h.es++[⟨key,b,mb,n,l⟩]⟩ ((dropIds [id,id2] st).put o.dst .top) a' w'→next a' w'):o.wp P a w next Q:=by
 obtain ⟨hd,hn,F,ρ,hR,hE,hH,hb⟩:=hr
 have hH0:=hH
 obtain ⟨⟨es,clock,hm,hst,hes⟩,h4,h5⟩:=hH0
 have e1:a.eval x=.map (some h.m):=rep_cst (eval_of hR hx)
 have e3:a.eval k=.int .i64 key:=rep_int (eval_of hR hkey)
 have hf:=obj_eq.1 ho
 have hf2:=obj_eq.1 ho2
 have e4:=eval_of hR hv
 generalize hve:a.eval v=u at e4
 obtain ⟨b,hρ,hu4⟩:∃b,ρ id=.pointer (some ⟨b,0,none⟩)∧u=.pointer (some ⟨b,0,none⟩):=by
  cases e4 with
  | pt _ _ _ _ _ _ hp=>exact hp _ ho
 subst hu4
 obtain ⟨_,b',arr,hρ',hbx,harr,hcs⟩:=hR.obs id ver _ hf
 rw[hρ] at hρ'
 cases hρ'
 have hmr:=hR.obs id2 ver2 _ hf2
 have hmr0:=hmr
 obtain ⟨mb,es2,clock2,hρ2,hm2,hrest⟩:=hmr0
 have c0:arr[0]? =some (.int .i64 n):=by
  have:0 < arr.size:=by rw[harr];exact Nat.succ_pos _
  have e:arr[0]? =some arr[0]:=by simp[this]
  rw[e,rep_int (hcs 0 _ _ rfl e)]
 have c1:arr[1]? =some (.map (some mb)):=by
  have:1 < arr.size:=by rw[harr];exact Nat.lt_succ_self _
  have e:arr[1]? =some arr[1]:=by simp[this]
  have:=hcs 1 _ _ rfl e
  generalize arr[1]=q at this e
  cases this with
  | mp _ _ _ _ _ hp=>rw[e,hp _ ho2,hρ2]
 have harr2:arr= #[.int .i64 n,.map (some mb)]:=by
  have hsz:arr.size=2:=harr
  apply Array.ext_getElem?
  intro i
  match i with
  | 0=>rw[c0];rfl
  | 1=>rw[c1];rfl
  | i+2=>rw[Array.getElem?_eq_none (by omega),Array.getElem?_eq_none (by simp)]
 subst harr2
 have s1:=hR.sep id ver _ b hf rfl (by rw[hρ];rfl)
 have s2:=hR.sep id2 ver2 _ mb hf2 rfl (by rw[hρ2];rfl)
 have hbm:b≠mb:=fun e=>hid (s2.2.2.2 id ver _ hf rfl (by rw[hρ,e];rfl))
 have hml:h.m < w.heap.size:=(Array.getElem?_eq_some_iff.1 hm).1
 have hmH:h.m∈h.blocks:=by simp[HS.blocks]
 obtain ⟨d,hdd⟩:=leafUnder_some hk
 have hck:=checkKey_leaf (w:=w) (kt:=.int .i64) (key:=key) hdd hk false
 let w':World:= { w with heap:=w.heap.setIfInBounds h.m (.map (es.push { key:=.int .i64 key,val:=.pointer (some ⟨b,0,none⟩),born:=clock }) (clock+1)) }
 have hrun:(execOp a.eval o).run P w=.ok .skip w':=by
  rcases find_set hdd hk key h.es es.toList 0 hes with ⟨a1,a2⟩ | ⟨e,i,a1,a2⟩
  ·have hfk:=findKey_run (P:=P) (w:=w) hdd a2
   simp only[execOp,hop,e1,e3,hve,Instr.mapUpdate,Sem.run_bind,run_underlying hu,Result.andThen_ok]
   simp only[leafV] at hck
   simp only[getObj,Sem.run,hm,Sem.run_bind,Result.andThen_ok,Sem.run_pure,hck,hfk,setObj]
   rfl
  ·rw[HS.at_,a1] at hnone;cases hnone
 unfold Oper.wp
 rw[hrun]
 obtain ⟨d1,d2,d3,d4,d5⟩:=drop_rep [id,id2] hR
 have hheld:∀c,held (dropIds [id,id2] st) ρ c→c≠b∧c≠mb∧c∉h.blocks∧c < w.heap.size:=fun c hh=>by
  obtain ⟨i,vi,oi,k1,k2,k3,k4⟩:=d4 c hh
  obtain ⟨q1,q2,q3,q4⟩:=hR.sep i vi oi c k1 k2 k3
  simp only[List.mem_cons,List.not_mem_nil,or_false,not_or] at k4
  exact ⟨fun e=>k4.1 (s1.2.2.2 i vi oi k1 k2 (by rw[k3,e])),fun e=>k4.2 (s2.2.2.2 i vi oi k1 k2 (by rw[k3,e])),q2.2,q3⟩
 have hsame:∀c,c≠h.m→w'.heap[c]? =w.heap[c]?:=fun c hc=>by simp[w',Array.getElem?_setIfInBounds_ne (Ne.symm hc)]
 have hsz:w'.heap.size=w.heap.size:=by simp[w']
 have hE1:Evo (fun c=>c=h.m) F w F w':=⟨rfl,rfl,rfl,by omega,fun _ h=>h,fun _ h=>.inl h,fun c _ hF=>hsame c fun e=>hF.elim (fun hF=>(hb h.m hmH).1 (e▸hF)) fun hn=>hn e⟩
 have d1':R Mod F ρ w (dropIds [id,id2] st) a.tmps:=d1.mod (fun b hh=>(hR.hi b hh).1) fun _ _ _ _ _ _ _ h=>h.1
 obtain ⟨hR1,hE2⟩:=d1'.world hE1 (fun c hc=>hc▸(hb h.m hmH).2.1) (fun c hh hc=>(hheld c hh).2.2.1 (hc▸hmH)) (fun c hc=>by rw[hsz];exact hR.low c hc)
 have hblk:(⟨h.m,h.es++[⟨key,b,mb,n,l⟩]⟩:HS).blocks=h.blocks++[b,mb]:=by rw[blocks_app];rfl
 have hR2:R (Mh Mod (h.blocks++[b,mb])) F ρ w' (dropIds [id,id2] st) a.tmps:=hR1.mod (fun c hh=>⟨hR1.hi c hh,by
  have:∀c∈h.blocks,c < w.heap.size:=fun c hc=>(hb c hc).2.2
  have q1:=s1.2.2.1
  have q2:=s2.2.2.1
  rw[hsz] at hh
  simp only[List.mem_append,List.mem_cons,List.not_mem_nil,or_false,not_or]
  exact ⟨fun hc=>by have:=this c hc;omega,by omega,by omega⟩⟩) fun i vi oi c k1 k2 k3 hm=>⟨hm,by
   obtain ⟨q1,q2,q3,_⟩:=hheld c ⟨i,vi,oi,k1,k2,k3⟩
   simp only[List.mem_append,List.mem_cons,List.not_mem_nil,or_false,not_or]
   exact ⟨q3,q1,q2⟩⟩
 have hbn:b∉h.blocks:=s1.2.1.2
 have hmbn:mb∉h.blocks:=s2.2.1.2
 refine hK b mb _ _ ⟨by rw[put_defers];exact hd,?_,F,ρ,?_,hE.trans hE2,⟨⟨es.push { key:=.int .i64 key,val:=.pointer (some ⟨b,0,none⟩),born:=clock },clock+1,?_,?_,?_⟩,?_,?_⟩,?_⟩
 ·rw[hblk]
  exact List.nodup_append.2 ⟨hn,by simp[hbm],fun x hx y hy e=>by simp at hy;rcases hy with rfl | rfl <;> (subst e;first | exact hbn hx | exact hmbn hx)⟩
 ·rw[hblk];exact R.put (a:=a) hR2 (.top _) o.dst
 ·simp[w',hml]
 ·refine ⟨fun c hc=>?_,?_⟩
  ·rw[Array.toList_push,List.map_append] at hc
   rcases List.mem_append.1 hc with hc | hc
   ·exact Nat.lt_succ_of_lt (hst.1 c hc)
   ·simp at hc;omega
  ·rw[Array.toList_push,List.map_append,List.nodup_append]
   exact ⟨hst.2,by simp,fun x hx y hy=>by simp at hy;have:=hst.1 x hx;omega⟩
 ·rw[Array.toList_push,List.map_append,List.map_append,hes];rfl
 ·rw[List.map_append,List.nodup_append]
  refine ⟨h4,by simp,fun x hx y hy e=>?_⟩
  simp only[List.map_cons,List.map_nil,List.mem_singleton] at hy
  subst hy
  subst e
  obtain ⟨e,he,hek⟩:=List.mem_map.1 hx
  have:=List.find?_eq_none.1 hnone e he
  simp[hek] at this
 ·intro e he
  rcases List.mem_append.1 he with he | he
  ·refine (h5 e he).same fun c hc=>hsame c fun e'=>?_
   have hnd:=hn
   simp only[HS.blocks,List.nodup_cons,List.mem_flatMap,not_exists,not_and] at hnd
   exact hnd.1 e he (e'▸hc)
  ·simp only[List.mem_singleton] at he
   subst he
   refine SetAt.same (w:=w) (fun c hc=>hsame c fun e'=>?_) ⟨hbx,hρ2▸hmr⟩
   simp only[SE.blocks,List.mem_cons,List.not_mem_nil,or_false] at hc
   rcases hc with rfl | rfl
   ·exact hbn (e'▸hmH)
   ·exact hmbn (e'▸hmH)
 ·intro c hc
  rw[hblk] at hc
  rw[hsz]
  rcases List.mem_append.1 hc with hc | hc
  ·exact hb c hc
  ·simp only[List.mem_cons,List.not_mem_nil,or_false] at hc
   rcases hc with rfl | rfl
   ·exact ⟨s1.1,s1.2.1.1,s1.2.2.1⟩
   ·exact ⟨s2.1,s2.2.1.1,s2.2.2.1⟩
theorem mid_blocks (m:Nat) (A B:List SE) (e:SE) {c:Nat} :c∈(⟨m,A++e :: B⟩:HS).blocks↔c=m∨c∈A.flatMap SE.blocks∨c∈e.blocks∨c∈B.flatMap SE.blocks:=by
 simp only[HS.blocks,List.flatMap_append,List.flatMap_cons,List.mem_cons,List.mem_append]
theorem callSetH {o:Oper} {c:Call} {f:FuncId} {fn:Func} {body:Code} {x y:Operand} {key i n':Int} {l':List (El (.int .i64)×El (.int .u64))} {e:SE} {t:Ty} {r:El t} {z:AV}
  (hop:o.op=.call c) (hc:c.callee=.value (.func f)) (hargs:c.args= #[x,y]) (hfn:P.funcs[f]? =some fn) (hname:(fn.name== "runtime.NumGoroutine")=false) (hbody:fn.body=some body)
  (hx:st.ev x=.cst (ptrOf (h.at_ key))) (he:h.at_ key=some e) (hy:st.ev y=.d (.int .i64) i)
  (hC:CallOK P f [.bx T [.d (.int .i64) e.n,.mv (.int .i64) (.int .u64) e.l],.d (.int .i64) i] (.d t r,[.bx T [.d (.int .i64) n',.mv (.int .i64) (.int .u64) l'],z]))
  (hr:RelH T Mod F0 w0 h st a w) {next:Act→World→Prop}
  (hK:∀A B mb' a' w',h.es=A++e :: B→RelH T Mod F0 w0 ⟨h.m,A++⟨key,e.b,mb',n',l'⟩ :: B⟩ (st.put o.dst (.d t r)) a' w'→next a' w'):o.wp P a w next Q:=by
 obtain ⟨hd,hn,F,ρ,hR,hE,hH,hb⟩:=hr
 have hH0:=hH
 obtain ⟨⟨es,clock,hm,hst,hes⟩,h4,h5⟩:=hH0
 obtain ⟨hme,hke⟩:=at_mem he
 obtain ⟨A,B,hAB⟩:=List.append_of_mem hme
 have e1:a.eval x=.pointer (some ⟨e.b,0,none⟩):=by have:=rep_cst (eval_of hR hx);rw[he] at this;exact this
 have e2:a.eval y=.int .i64 i:=rep_int (eval_of hR hy)
 obtain ⟨hbx,hmr⟩:=h5 e hme
 have hm0:h=⟨h.m,A++e :: B⟩:=by cases h;simp only[HS.mk.injEq,true_and];exact hAB
 have hmem:∀c,c∈h.blocks↔c=h.m∨c∈A.flatMap SE.blocks∨c∈e.blocks∨c∈B.flatMap SE.blocks:=fun c=>by
  have:=mid_blocks h.m A B e (c:=c)
  rw[←hm0] at this
  exact this
 have hbH:e.b∈h.blocks:=(hmem _).2 (.inr (.inr (.inl (by simp[SE.blocks]))))
 have hmbH:e.mb∈h.blocks:=(hmem _).2 (.inr (.inr (.inl (by simp[SE.blocks]))))
 have hnd:(h.m :: (A.flatMap SE.blocks++(e.b :: e.mb :: B.flatMap SE.blocks))).Nodup:=by
  have:=hn
  rw[hm0] at this
  simpa[HS.blocks,SE.blocks] using this
 simp only[List.nodup_cons,List.nodup_append,List.mem_append,List.mem_cons,not_or] at hnd
 obtain ⟨⟨m1,m2,m3,m4⟩,n1,⟨⟨b1,b2⟩,b3,n2⟩,n3⟩:=hnd
 have hrun:(execOp a.eval o).run P w=.ok (.enter f #[.pointer (some ⟨e.b,0,none⟩),.int .i64 i]) w:=by
  have hn:¬fn.name= "runtime.NumGoroutine" :=by simpa using hname
  have he:a.eval (.func f)=.func (.func f) #[] #[]:=rfl
  simp[execOp,hop,resolve,hc,he,Deferred.ofValue,invoke,callFunc,hfn,hn,hbody,hargs,e1,e2]
 unfold Oper.wp
 rw[hrun,Oper.upon_enter]
 have hT:TReps F w [.bx T [.d (.int .i64) e.n,.mv (.int .i64) (.int .u64) e.l],.d (.int .i64) i] [.pointer (some ⟨e.b,0,none⟩),.int .i64 i] [e.b,e.mb]:=by
  have t1:TReps F w [.mv (.int .i64) (.int .u64) e.l] [.map (some e.mb)] [e.mb]:=TReps.mv hmr .nil
  have t2:TReps F w [.d (.int .i64) e.n,.mv (.int .i64) (.int .u64) e.l] [.int .i64 e.n,.map (some e.mb)] [e.mb]:=TReps.flat rfl (.d _ _ _ rfl) t1
  have t3:TReps F w [.d (.int .i64) i] [.int .i64 i] []:=TReps.flat rfl (.d _ _ _ rfl) .nil
  exact TReps.bx (L:=[]) hbx t2 t3
 refine Calls.mono (hC F w _ [e.b,e.mb] hT (by simpa using b1) (fun c hcm=>?_) hR.low hR.tabs) fun ex w' hex=>?_
 ·simp only[List.mem_cons,List.not_mem_nil,or_false] at hcm
  rcases hcm with rfl | rfl
  ·exact ⟨(hb _ hbH).1,(hb _ hbH).2.2⟩
  ·exact ⟨(hb _ hmbH).1,(hb _ hmbH).2.2⟩
 cases ex with
 | panicked ch=>exact hex.elim
 | outgrown=>exact hex.elim
 | returned v=>
  obtain ⟨F',Lr,Lo,hE1,hlow,hTr,hTo,hndo,hfr⟩:=hex
  obtain ⟨v1,us,L1,L2,hv1,hLo,t1,_⟩:=hTo.split
  cases hv1
  cases t1 with
  | flat hx=>cases hx
  | @bx _ _ _ us1 M1 _ _ _ hh hcs hr0=>
   cases hr0
   obtain ⟨u1,us2,M2,M3,hus,hM,q1,q2⟩:=hcs.split
   obtain ⟨u2,us3,M4,M5,hus2,hM2,q3,q4⟩:=q2.split
   cases q4
   subst hus2
   subst hus
   have hu1:u1=.int .i64 n'∧M2=[]:=by
    cases q1 with
    | flat _ ha hr1=>cases hr1;exact ⟨rep_int ha,rfl⟩
   obtain ⟨hu1,hM20⟩:=hu1
   subst hu1
   subst hM20
   cases q3 with
   | flat hx=>cases hx
   | mv hmr' hr1=>
    cases hr1
    have hmr2:=hmr'
    obtain ⟨mb',es2,clock2,hv2,hm2,_⟩:=hmr2
    subst hv2
    have hLo':Lo=e.b :: mb' :: L2:=by rw[hLo,hM,hM2];simp[Go.Ev.hb]
    have hndo':=(List.nodup_append.1 hndo).1
    rw[hLo'] at hndo'
    have hbm:e.b≠mb':=fun e'=>(List.nodup_cons.1 hndo').1 (by simp[e'])
    have f1:=hfr e.b (by simp[hLo'])
    have f2:=hfr mb' (by simp[hLo'])
    have hmbw:mb'=e.mb∨w.heap.size≤mb':=by
     rcases f2.2.1 with hm | hm
     ·simp only[List.mem_cons,List.not_mem_nil,or_false] at hm
      rcases hm with hm | hm
      ·exact absurd hm.symm hbm
      ·exact .inl hm
     ·exact .inr hm
    have hMod:∀c,ModC [e.b,e.mb] w c→Mod c:=fun c hcm=>hcm.elim (fun hm=>by
     simp only[List.mem_cons,List.not_mem_nil,or_false] at hm
     rcases hm with rfl | rfl
     ·exact (hb _ hbH).2.1
     ·exact (hb _ hmbH).2.1) fun hh=>(hR.hi c hh).1
    have hnM:∀c,c∈h.blocks→c≠e.b→c≠e.mb→¬ModC [e.b,e.mb] w c:=fun c hcb k1 k2 hm=>by
     rcases hm with hm | hm
     ·simp only[List.mem_cons,List.not_mem_nil,or_false] at hm
      exact hm.elim k1 k2
     ·have:=(hb c hcb).2.2;omega
    have hR0:R Mod F ρ w st a.tmps:=hR.mod (fun b hh=>(hR.hi b hh).1) fun _ _ _ _ _ _ _ h=>h.1
    obtain ⟨hR1,hE2⟩:=hR0.world hE1 hMod (fun c ⟨i,vi,oi,k1,k2,k3⟩ hm=>by
     obtain ⟨q1,q2,q3,_⟩:=hR.sep i vi oi c k1 k2 k3
     rcases hm with hm | hm
     ·simp only[List.mem_cons,List.not_mem_nil,or_false] at hm
      exact q2.2 (hm.elim (fun e'=>e'▸hbH) fun e'=>e'▸hmbH)
     ·omega) hlow
    have hans:ARep F' ρ w' st (.d t r) v:=by
     cases hTr with
     | flat _ ha hr2=>exact flat_any rfl ha
    have oth:∀c,c=h.m∨c∈A.flatMap SE.blocks∨c∈B.flatMap SE.blocks→c∈h.blocks∧c≠e.b∧c≠e.mb:=fun c hcc=>by
     refine ⟨(hmem c).2 (hcc.imp id fun h=>h.imp id .inr),?_,?_⟩
     ·rintro rfl
      rcases hcc with hcc | hcc | hcc
      ·exact m2 hcc.symm
      ·exact n3 _ hcc _ (.inl rfl) rfl
      ·exact b2 hcc
     ·rintro rfl
      rcases hcc with hcc | hcc | hcc
      ·exact m3 hcc.symm
      ·exact n3 _ hcc _ (.inr (.inl rfl)) rfl
      ·exact b3 hcc
    have same:∀c,c=h.m∨c∈A.flatMap SE.blocks∨c∈B.flatMap SE.blocks→w'.heap[c]? =w.heap[c]?:=fun c hcc=>
     hE1.same c (hb c (oth c hcc).1).2.2 (.inr (hnM c (oth c hcc).1 (oth c hcc).2.1 (oth c hcc).2.2))
    have new:∀c,c=h.m∨c∈A.flatMap SE.blocks∨c∈B.flatMap SE.blocks→¬F' c∧Mod c∧c < w'.heap.size:=fun c hcc=>by
     obtain ⟨k1,k2,k3⟩:=oth c hcc
     exact ⟨fun hF=>(hE1.new c hF).elim (hb c k1).1 (hnM c k1 k2 k3),(hb c k1).2.1,Nat.lt_of_lt_of_le (hb c k1).2.2 hE1.size⟩
    have mbo:∀c,c=h.m∨c∈A.flatMap SE.blocks∨c∈B.flatMap SE.blocks→c≠mb':=fun c hcc=>by
     obtain ⟨k1,k2,k3⟩:=oth c hcc
     rintro rfl
     rcases hmbw with hw | hw
     ·exact k3 hw
     ·have:=(hb _ k1).2.2;omega
    have allB:∀c,c∈(⟨h.m,A++⟨key,e.b,mb',n',l'⟩ :: B⟩:HS).blocks→¬F' c∧Mod c∧c < w'.heap.size:=fun c hcc=>by
     rcases (mid_blocks _ _ _ _).1 hcc with hcc | hcc | hcc | hcc
     ·exact new c (.inl hcc)
     ·exact new c (.inr (.inl hcc))
     ·simp only[SE.blocks,List.mem_cons,List.not_mem_nil,or_false] at hcc
      rcases hcc with rfl | rfl
      ·exact ⟨f1.1,hMod _ f1.2.1,f1.2.2⟩
      ·exact ⟨f2.1,hMod _ f2.2.1,f2.2.2⟩
     ·exact new c (.inr (.inr hcc))
    have hR2:R (Mh Mod (⟨h.m,A++⟨key,e.b,mb',n',l'⟩ :: B⟩:HS).blocks) F' ρ w' st a.tmps:=hR1.mod (fun c hh=>⟨hR1.hi c hh,fun hcc=>by have:=(allB c hcc).2.2;omega⟩) fun i vi oi c k1 k2 k3 hm=>⟨hm,fun hcc=>by
     obtain ⟨z1,z2,z3,_⟩:=hR.sep i vi oi c k1 k2 k3
     rcases (mid_blocks _ _ _ _).1 hcc with hcc | hcc | hcc | hcc
     ·exact z2.2 (oth c (.inl hcc)).1
     ·exact z2.2 (oth c (.inr (.inl hcc))).1
     ·simp only[SE.blocks,List.mem_cons,List.not_mem_nil,or_false] at hcc
      rcases hcc with rfl | rfl
      ·exact z2.2 hbH
      ·rcases hmbw with hw | hw
       ·exact z2.2 (hw▸hmbH)
       ·omega
     ·exact z2.2 (oth c (.inr (.inr hcc))).1⟩
    refine hK A B mb' _ _ hAB ⟨by rw[put_defers];exact hd,?_,F',ρ,R.put (a:=a) hR2 hans o.dst,hE.trans hE2,⟨⟨es,clock,?_,hst,?_⟩,?_,?_⟩,allB⟩
    ·simp only[HS.blocks,List.flatMap_append,List.flatMap_cons,SE.blocks,List.nodup_cons,List.nodup_append,List.mem_append,List.mem_cons,List.cons_append,List.nil_append,List.not_mem_nil,not_or]
     refine ⟨⟨m1,m2,mbo _ (.inl rfl),m4⟩,n1,⟨⟨hbm,b2⟩,fun hc=>mbo _ (.inr (.inr hc)) rfl,n2⟩,fun x hx y hy=>?_⟩
     rcases hy with rfl | rfl | hy
     ·exact n3 x hx _ (.inl rfl)
     ·exact mbo x (.inr (.inl hx))
     ·exact n3 x hx y (.inr (.inr hy))
    ·rw[same _ (.inl rfl)];exact hm
    ·rw[hes,hAB]
     simp[SE.ptr,hke]
    ·rw[hAB] at h4
     simpa[hke] using h4
    ·intro e' he'
     rcases List.mem_append.1 he' with hm | hm
     ·exact (h5 e' (by rw[hAB];simp[hm])).same fun c hcc=>same c (.inr (.inl (List.mem_flatMap.2 ⟨e',hm,hcc⟩)))
     ·rcases List.mem_cons.1 hm with rfl | hm
      ·exact ⟨hh,hmr'⟩
      ·exact (h5 e' (by rw[hAB];simp[hm])).same fun c hcc=>same c (.inr (.inr (List.mem_flatMap.2 ⟨e',hm,hcc⟩)))
theorem forLoop {b0 b1:Nat} {r1 body r2:Code} {tok:Operand} (Inv Mid Aft:Nat→Act→World→Prop) (n:Nat) (μ:Act→World→Nat)
  (h1:∀k a w,k≤n→Inv k a w→r1.wp P (fun e a' w'=>e=.normal∧Mid k a' w') a w)
  (ht:∀k a w,k≤n→Mid k a w→a.eval tok=.bool (decide (k < n)))
  (hb:∀k a w,k < n→Mid k a w→body.wp P (fun e a' w'=>(e=.normal∨e=.exit b1)∧Aft k a' w') a w)
  (h2:∀k a w,k < n→Aft k a w→r2.wp P (fun e a' w'=>e=.normal∧Inv (k+1) a' w') a w)
  (hμ:∀k a w,k≤n→Inv k a w→μ a w=n - k) (h0:Inv 0 a w) (hQ:∀a w,Mid n a w→Q .normal a w):
  (Code.block b0 (.loop (.seq r1 (.seq (.cond tok .skip (.exit b0)) (.seq (.block b1 body) r2))))).wp P Q a w:=by
 refine wp_block (wp_loop (fun a w=>∃k,k≤n∧Inv k a w) μ ⟨0,Nat.zero_le _,h0⟩ fun a w ⟨k,hk,hI⟩=>?_)
 refine wp_seq (wp_mono (h1 k a w hk hI) fun e a1 w1 he=>?_)
 obtain ⟨rfl,hm⟩:=he
 by_cases hkn:k < n
 ·refine wp_seq (wp_cond_true (by rw[ht k a1 w1 hk hm,decide_eq_true hkn]) (wp_skip ?_))
  refine wp_seq (wp_block (wp_mono (hb k a1 w1 hkn hm) fun e a2 w2 he=>?_))
  obtain ⟨he,ha⟩:=he
  have fin:Exit.then (r2.wp P (Exit.then (fun a' w'=>(∃k,k≤n∧Inv k a' w')∧μ a' w' < μ a w) (Exit.inBlock b0 Q))) (Exit.then (fun a' w'=>(∃k,k≤n∧Inv k a' w')∧μ a' w' < μ a w) (Exit.inBlock b0 Q)) .normal a2 w2:=by
   refine wp_mono (h2 k a2 w2 hkn ha) fun e a3 w3 he=>?_
   obtain ⟨rfl,hI3⟩:=he
   refine ⟨⟨k+1,hkn,hI3⟩,?_⟩
   rw[hμ k a w hk hI,hμ (k+1) a3 w3 hkn hI3]
   omega
  rcases he with rfl | rfl
  ·exact fin
  ·simp only[Exit.inBlock,if_true]
   exact fin
 ·have hkn':k=n:=by omega
  subst hkn'
  refine wp_seq (wp_cond_false (by rw[ht k a1 w1 hk hm,decide_eq_false hkn]) (wp_exit ?_))
  show Exit.inBlock b0 Q (.exit b0) a1 w1
  simp only[Exit.inBlock,if_true]
  exact hQ a1 w1 hm
theorem RelH.ev {x:Operand} {k:IntKind} {n:Int} (hr:RelH T Mod F0 w0 h st a w) (hx:st.ev x=.d (.int k) n):a.eval x=.int k n:=by
 obtain ⟨_,_,F,ρ,hR,_⟩:=hr
 exact rep_int (eval_of hR hx)
theorem RelH.evb {x:Operand} {b:Bool} (hr:RelH T Mod F0 w0 h st a w) (hx:st.ev x=.d .bool b):a.eval x=.bool b:=by
 obtain ⟨_,_,F,ρ,hR,_⟩:=hr
 exact rep_bool (eval_of hR hx)
theorem Rel.ev {x:Operand} {k:IntKind} {n:Int} (hr:Rel Mod F0 w0 st a w) (hx:st.ev x=.d (.int k) n):a.eval x=.int k n:=by
 obtain ⟨_,F,ρ,hR,_⟩:=hr
 exact rep_int (eval_of hR hx)
theorem Rel.evb {x:Operand} {b:Bool} (hr:Rel Mod F0 w0 st a w) (hx:st.ev x=.d .bool b):a.eval x=.bool b:=by
 obtain ⟨_,F,ρ,hR,_⟩:=hr
 exact rep_bool (eval_of hR hx)
def toGo (ti n:Nat) (a:Act) (_:World):Nat:=match a.eval (.tmp ti) with
 |.int _ k=>n - k.toNat
 | _=>0
theorem eqNilH {o:Oper} {TT TT' E:TypeId} {x y:Operand} {s:Option SE} (hop:o.op=.binOp .eql TT x y TT') (hu:P.underlying TT=some (.pointer E)) (hx:st.ev x=.cst (ptrOf s)) (hy:st.ev y=.cst (.pointer none))
  (hr:RelH T Mod F0 w0 h st a w) {next:Act→World→Prop} (hK:∀a' w',RelH T Mod F0 w0 h (st.put o.dst (.d .bool s.isNone)) a' w'→next a' w'):o.wp P a w next Q:=by
 obtain ⟨hd,hn,F,ρ,hR,hE,hH,hb⟩:=hr
 have e1:a.eval x=ptrOf s:=rep_cst (eval_of hR hx)
 have e2:a.eval y=.pointer none:=rep_cst (eval_of hR hy)
 have e3:(Op.equal TT (ptrOf s) (.pointer none)).run P w=.ok s.isNone w:=by
  have:∀d,(Op.equalIn (d+1) TT (ptrOf s) (.pointer none)).run P w=.ok s.isNone w:=fun d=>by
   cases s with
   | none=>simp[Op.equalIn,ptrOf,run_underlying hu]
   | some e=>simp[Op.equalIn,ptrOf,SE.ptr,run_underlying hu]
  exact this 9999
 have e4:(eqGuard .eql TT x y (ptrOf s) (.pointer none)).run P w=.ok () w:=by
  unfold eqGuard
  cases s <;> simp[ptrOf,SE.ptr]
 have e5:(Go.binOp .eql TT (ptrOf s) (.pointer none)).run P w=.ok (.bool s.isNone) w:=by
  unfold Go.binOp
  cases s with
  | none=>simp only[ptrOf] at e3 ⊢;simp[e3]
  | some e=>simp only[ptrOf,SE.ptr] at e3 ⊢;simp[e3]
 have hrun:(execOp a.eval o).run P w=.ok (.value (.bool s.isNone)) w:=by
  simp only[execOp,hop,e1,e2,Sem.run_bind,e4,e5,Result.andThen_ok,Sem.run_pure]
 unfold Oper.wp
 rw[hrun]
 exact hK _ _ ⟨by rw[put_defers];exact hd,hn,F,ρ,R.put (a:=a) hR (rep_mkB _) o.dst,hE,hH,hb⟩
theorem Rel.lift {g:St→St} (hg:∀ {st a w},Rel Mod F0 w0 st a w→Rel Mod F0 w0 (g st) a w) {st1:St} (e:g st=st1) (hr:Rel Mod F0 w0 st a w):Rel Mod F0 w0 st1 a w:=e▸hg hr
theorem RelH.norm {lab:Lab} {st1:St} (e:Go.Ev.norm P lab st=st1) (hr:RelH T Mod F0 w0 h st a w):RelH T Mod F0 w0 h st1 a w:=hr.lift fun hr=>e▸norm_rel hr
theorem Rel.norm {lab:Lab} {st1:St} (e:Go.Ev.norm P lab st=st1) (hr:Rel Mod F0 w0 st a w):Rel Mod F0 w0 st1 a w:=e▸norm_rel hr
end
abbrev SetsD:=List (Int×Int×List (El (.int .i64)×El (.int .u64)))
def HS.cont (h:HS):SetsD:=h.es.map fun e=>(e.key,e.n,e.l)
def getC (ms:SetsD) (key:Int):Option (Int×List (El (.int .i64)×El (.int .u64))):=(ms.find? fun e=>e.1==key).map Prod.snd
def putC (ms:SetsD) (key:Int) (d:Int×List (El (.int .i64)×El (.int .u64))):SetsD:=ms.map fun e=>if e.1=key then (key,d) else e
theorem at_cont (h:HS) (key:Int):(h.at_ key).map (fun e=>(e.n,e.l))=getC h.cont key:=by
 unfold HS.at_ getC HS.cont
 rw[List.find?_map,Option.map_map]
 rfl
theorem putC_mid {A B:List SE} {e:SE} {key:Int} {b mb n:Nat} {n':Int} {l':List (El (.int .i64)×El (.int .u64))} (hk:e.key=key) (hn:((A++e :: B).map SE.key).Nodup) (m m':Nat):
  (⟨m',A++⟨key,b,mb,n',l'⟩ :: B⟩:HS).cont=putC (⟨m,A++e :: B⟩:HS).cont key (n',l'):=by
 simp only[List.map_append,List.map_cons,List.nodup_append,List.nodup_cons,List.mem_cons,List.mem_map,not_exists,not_and] at hn
 obtain ⟨n1,⟨n2,n3⟩,n4⟩:=hn
 have hA:(A.map fun e=>(e.key,e.n,e.l)).map (fun e=>if e.1=key then (key,(n',l')) else e)=A.map fun e=>(e.key,e.n,e.l):=by
  rw[List.map_map]
  refine List.map_congr_left fun x hx=>?_
  have:x.key≠key:=fun e'=>n4 x.key ⟨x,hx,rfl⟩ e.key (.inl rfl) (e'.trans hk.symm)
  simp[this]
 have hB:(B.map fun e=>(e.key,e.n,e.l)).map (fun e=>if e.1=key then (key,(n',l')) else e)=B.map fun e=>(e.key,e.n,e.l):=by
  rw[List.map_map]
  refine List.map_congr_left fun x hx=>?_
  have:x.key≠key:=fun e'=>n2 x hx (e'.trans hk.symm)
  simp[this]
 unfold HS.cont putC
 simp only[List.map_append,List.map_cons,hA,hB,hk,if_true]
open Classical in
theorem ent_call {P:Program} {f:FuncId} {r:Run} {xs:List AV} {ans:Ans} (h:EntOK P f r) (hr:∀k,r xs k=k ans):CallOK P f xs ans:=by
 obtain ⟨a,ha,hk⟩:=(h.2 xs).2 (fun a=>if a=ans then some (AV.top,[]) else none) (AV.top,[]) (by rw[hr];simp)
 split at hk
 ·rename_i e
  exact e▸ha
 ·cases hk
theorem entG_hand {P:Program} {f:FuncId} {s:Sig} {α:Type} {R:α→AV} (hk:Known P f) {ok:Args s→Bool} {v:Args s→α} (h:∀a,ok a=true→CallOK P f (toForms s a) (R (v a),tps (toForms s a))):EntOK P f (entG s R ok v):=
 typed_ok hk (fun a=>Det.guard (Det.pure _)) fun a=>Sat.guard fun hok=>Sat.pure (h a hok)
end Go.Ev
end

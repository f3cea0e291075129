/- Part of the proof of: Which points are chosen, each way, is what the document says, of each thread: for every input the law answers true. -/
import Derived.Lib.RowBridge
import Derived.Shelf.Slices.Clone
import Derived.Shelf.Slices.CompactI
import Derived.Shelf.Slices.Delete
import Derived.Test.YtcenlplmgifibaaGreatDoorEng1
set_option maxRecDepth 100000
set_option linter.unusedSectionVars false
set_option linter.unusedVariables false
set_option linter.unusedSimpArgs false
section
namespace Go.Ev
variable [Tabs]
open Go
structure SE where
 key:Int
 b:Nat
 mb:Nat
 n:Int
 l:List (El (.int .i64)×El (.int .u64))
structure HS where
 m:Nat
 es:List SE
def SE.blocks (e:SE):List Nat:=[e.b,e.mb]
def HS.blocks (h:HS):List Nat:=h.m :: h.es.flatMap SE.blocks
def SetAt (T:TypeId) (w:World) (e:SE):Prop:=w.heap[e.b]? =some (.cells #[.int .i64 e.n,.map (some e.mb)] T (0,0))∧MapRep w (.int .i64) (.int .u64) e.l (.map (some e.mb))
def SE.ptr (e:SE):Value:=.pointer (some ⟨e.b,0,none⟩)
def Hold (T:TypeId) (w:World) (h:HS):Prop:=
 (∃es clock,w.heap[h.m]? =some (.map es clock)∧Stamps es clock∧es.toList.map (fun e=>(e.key,e.val))=h.es.map fun e=>(Value.int .i64 e.key,e.ptr))∧(h.es.map SE.key).Nodup∧∀e∈h.es,SetAt T w e
theorem SetAt.same {T:TypeId} {w w':World} {e:SE} (h:∀b∈e.blocks,w'.heap[b]? =w.heap[b]?) (hs:SetAt T w e):SetAt T w' e:=by
 obtain ⟨h1,r,es,clock,h2,h3,h4⟩:=hs
 cases h2
 exact ⟨by rw[h _ (by simp[SE.blocks])];exact h1,_,es,clock,rfl,by rw[h _ (by simp[SE.blocks])];exact h3,h4⟩
theorem Hold.same {T:TypeId} {w w':World} {h:HS} (hb:∀b∈h.blocks,w'.heap[b]? =w.heap[b]?) (hs:Hold T w h):Hold T w' h:=by
 obtain ⟨⟨es,clock,h1,h2,h3⟩,h4,h5⟩:=hs
 refine ⟨⟨es,clock,by rw[hb _ (by simp[HS.blocks])];exact h1,h2,h3⟩,h4,fun e he=>(h5 e he).same fun b hbb=>hb b ?_⟩
 simp only[HS.blocks,List.mem_cons,List.mem_flatMap]
 exact .inr ⟨e,he,hbb⟩
@[reducible] def Mh (Mod:Nat→Prop) (L:List Nat) (b:Nat):Prop:=Mod b∧b∉L
def RelH [Orgs] (T:TypeId) (Mod F0:Nat→Prop) (w0:World) (h:HS) (st:St) (a:Act) (w:World):Prop:=
 a.defers=[]∧h.blocks.Nodup∧∃F ρ,R (Mh Mod h.blocks) F ρ w st a.tmps∧Evo Mod F0 w0 F w∧Hold T w h∧∀b∈h.blocks,¬F b∧Mod b∧b < w.heap.size
section
variable [Orgs] {P:Program} {T:TypeId} {Mod F0:Nat→Prop} {w0:World} {cl:Cl} {h:HS} {st st1:St} {a:Act} {w:World} {Q:Exit→Act→World→Prop}
theorem RelH.out (hr:RelH T Mod F0 w0 h st a w):Rel Mod F0 w0 st a w:=by
 obtain ⟨hd,_,F,ρ,hR,hE,_,hb⟩:=hr
 exact ⟨hd,F,ρ,hR.mod (fun b hh=>(hR.hi b hh).1) fun _ _ _ _ _ _ _ h=>h.1,hE⟩
theorem RelH.lift {st1:St} (hg:∀ {Mod F0:Nat→Prop} {w0:World},Rel Mod F0 w0 st a w→Rel Mod F0 w0 st1 a w) (hr:RelH T Mod F0 w0 h st a w):RelH T Mod F0 w0 h st1 a w:=by
 obtain ⟨hd,hn,F,ρ,hR,hE,hH,hb⟩:=hr
 obtain ⟨_,F',ρ',hR',hE'⟩:=hg (Mod:=Mh Mod h.blocks) (F0:=F) (w0:=w) ⟨hd,F,ρ,hR,Evo.refl _ _ _⟩
 have hF:∀b∈h.blocks,¬F' b:=fun b hbb hF=>(hE'.new b hF).elim (hb b hbb).1 fun hm=>hm.2 hbb
 exact ⟨hd,hn,F',ρ',hR',hE.trans (hE'.mod fun b hb=>hb.1),hH,fun b hbb=>⟨hF b hbb,(hb b hbb).2⟩⟩
theorem RelH.next {st1:St} {a':Act} {w':World} {F:Nat→Prop} {ρ:Rho} (hn:h.blocks.Nodup) (hE:Evo Mod F0 w0 F w) (hH:Hold T w h) (hb:∀b∈h.blocks,¬F b∧Mod b∧b < w.heap.size)
  (hr:Rel (Mh Mod h.blocks) F w st1 a' w'):RelH T Mod F0 w0 h st1 a' w':=by
 obtain ⟨hd',F',ρ',hR',hE'⟩:=hr
 refine ⟨hd',hn,F',ρ',hR',hE.trans (hE'.mod fun b hb=>hb.1),hH.same fun b hbb=>hE'.same b (hb b hbb).2.2 (.inr fun hm=>hm.2 hbb),fun b hbb=>⟨fun hF=>(hE'.new b hF).elim (hb b hbb).1 fun hm=>hm.2 hbb,(hb b hbb).2.1,Nat.lt_of_lt_of_le (hb b hbb).2.2 hE'.size⟩⟩
theorem pieceH (hcl:Spec P cl) (hdet:DetC cl) {c:Code} (g:St→St) (hg:∀ {Mod F0:Nat→Prop} {w0:World} {st a w},Rel Mod F0 w0 st a w→Rel Mod F0 w0 (g st) a w)
  (hev:∀(L:Lt) (k:Kt) (x:Nat→Kt) (r:Kt),evC P cl [] L c 0 (fun s=>k (g s)) x r st=k st1) (hr:RelH T Mod F0 w0 h st a w) (hQ:∀a' w',RelH T Mod F0 w0 h st1 a' w'→Q .normal a' w'):c.wp P Q a w:=by
 obtain ⟨hd,hn,F,ρ,hR,hE,hH,hb⟩:=hr
 exact piece (Mod:=Mh Mod h.blocks) (F0:=F) (w0:=w) hcl hdet g hg hev ⟨hd,F,ρ,hR,Evo.refl _ _ _⟩ fun a' w' hr'=>hQ a' w' (RelH.next (ρ:=ρ) hn hE hH hb hr')
theorem evOpH (hcl:Spec P cl) {ops:Array Oper} {i:Nat} {o:Oper} {rest:List Nat} (ho:ops[i]? =some o) (hg:o.guard=none) (hev:∀k,opA P cl o st k=k st1) (hr:RelH T Mod F0 w0 h st a w)
  (hQ:∀a' w',RelH T Mod F0 w0 h st1 a' w'→wpOps P ops Q rest a' w'):wpOps P ops Q (i :: rest) a w:=by
 obtain ⟨hd,hn,F,ρ,hR,hE,hH,hb⟩:=hr
 exact evOp (Mod:=Mh Mod h.blocks) (F0:=F) (w0:=w) hcl ho hg hev ⟨hd,F,ρ,hR,Evo.refl _ _ _⟩ fun a' w' hr'=>hQ a' w' (RelH.next (ρ:=ρ) hn hE hH hb hr')
theorem ZBr {K:TypeId} {d:TypeDesc} (hd:P.underlying K=some d) (hk:leafUnder P K (.int .i64)=true) (a b:Int):Instr.sameNow d (.int .i64 a) (.int .i64 b)=some (a==b):=by
 unfold leafUnder at hk
 rw[hd] at hk
 cases d <;> first | (simp at hk;done) | skip
 simp only[Instr.sameNow,if_true]
theorem ZGD {K:TypeId} {d:TypeDesc} (hd:P.underlying K=some d) (hk:leafUnder P K (.int .i64)=true) (key:Int):∀(l:List SE) (es:List MapEntry) (n:Nat),
  es.map (fun e=>(e.key,e.val))=l.map (fun e=>(Value.int .i64 e.key,e.ptr))→
  (l.find? (fun e=>e.key==key)=none∧Instr.findNow d (.int .i64 key) es n=some none)∨(∃e i,l.find? (fun e=>e.key==key)=some e∧Instr.findNow d (.int .i64 key) es n=some (some (n+i,e.ptr)))
 | [],es,n,h=>by
  have:es=[]:=by cases es <;> simp_all
  subst this
  exact .inl ⟨rfl,rfl⟩
 | e :: l,[],n,h=>by simp at h
 | e :: l,x :: es,n,h=>by
  simp only[List.map_cons,List.cons.injEq,Prod.mk.injEq] at h
  obtain ⟨⟨h1,h2⟩,h3⟩:=h
  by_cases hke:e.key=key
  ·refine .inr ⟨e,0,by simp[hke],?_⟩
   rw[Instr.findNow,h1,ZBr hd hk,hke]
   simp[h2]
  ·have hstep:Instr.findNow d (.int .i64 key) (x :: es) n=Instr.findNow d (.int .i64 key) es (n+1):=by
    rw[Instr.findNow,h1,ZBr hd hk]
    have:(key==e.key)=false:=by simpa using fun h=>hke h.symm
    rw[this]
   have hf:(e :: l).find? (fun e=>e.key==key)=l.find? (fun e=>e.key==key):=by
    rw[List.find?_cons_of_neg (by simpa using hke)]
   rcases ZGD hd hk key l es (n+1) h3 with ⟨a1,a2⟩ | ⟨e',i,a1,a2⟩
   ·exact .inl ⟨hf.trans a1,by rw[hstep,a2]⟩
   ·exact .inr ⟨e',i+1,hf.trans a1,by rw[hstep,a2];congr 3;omega⟩
def HS.at_ (h:HS) (key:Int):Option SE:=h.es.find? fun e=>e.key==key
def ptrOf:Option SE→Value
 | some e=>e.ptr
 | none=>.pointer none
theorem makeMapH {o:Oper} {TM:TypeId} (hop:o.op=.makeMap TM none) (hr:Rel Mod F0 w0 st a w) {next:Act→World→Prop}
  (hK:∀m a' w',RelH T Mod F0 w0 ⟨m,[]⟩ (st.put o.dst (.cst (.map (some m)))) a' w'→next a' w'):o.wp P a w next Q:=by
 obtain ⟨hd,F,ρ,hR,hE⟩:=hr
 have hrun:(execOp a.eval o).run P w=.ok (.value (.map (some w.heap.size))) (w.alloc (.map #[] 0)):=by
  simp[execOp,hop,Instr.makeMap]
 unfold Oper.wp
 rw[hrun]
 have hsz:(w.alloc (.map #[] 0)).heap.size=w.heap.size+1:=by simp
 have hE1:Evo (fun b=>w.heap.size≤b) F w F (w.alloc (.map #[] 0)):=⟨rfl,rfl,rfl,by omega,fun _ h=>h,fun _ h=>.inl h,fun b hb _=>ZdV w _ hb⟩
 obtain ⟨hR1,hE2⟩:=hR.world hE1 (fun b hb=>hR.hi b hb) (fun b ⟨id,ver,o,h1,h2,h3⟩ hb=>absurd (hR.sep id ver o b h1 h2 h3).2.2.1 (by omega)) (fun b hb=>by have:=hR.low b hb;omega)
 have hR2:R (Mh Mod [w.heap.size]) F ρ (w.alloc (.map #[] 0)) st a.tmps:=hR1.mod (fun b hb=>⟨hR1.hi b hb,by simp;omega⟩) fun id ver o b h1 h2 h3 hm=>⟨hm,by
  have:=(hR.sep id ver o b h1 h2 h3).2.2.1
  simp;omega⟩
 refine hK w.heap.size _ _ ⟨by rw[Zaf];exact hd,by simp[HS.blocks],F,ρ,R.put (a:=a) hR2 (.cst _) o.dst,hE.trans hE2,⟨⟨#[],0,Zct _ _,⟨fun b hb=>by simp at hb,List.nodup_nil⟩,rfl⟩,List.nodup_nil,fun e he=>by simp at he⟩,fun b hb=>?_⟩
 simp only[HS.blocks,List.flatMap_nil,List.mem_singleton] at hb
 subst hb
 exact ⟨fun hF=>Nat.lt_irrefl _ (hR.low _ hF),hR.hi _ (Nat.le_refl _),by omega⟩
theorem ZQL {key:Int} {e:SE} (he:h.at_ key=some e):e∈h.es∧e.key=key:=⟨List.mem_of_find?_eq_some he,by have:=List.find?_some he;simpa using this⟩
theorem lookupH {o:Oper} {TM K V:TypeId} {x k:Operand} {key:Int} (hop:o.op=.lookup TM x k false) (hu:P.underlying TM=some (.map K V)) (hk:leafUnder P K (.int .i64)=true) (hz:zeroOne P V=some (.cst (.pointer none)))
  (hx:st.ev x=.cst (.map (some h.m))) (hkey:st.ev k=.d (.int .i64) key) (hr:RelH T Mod F0 w0 h st a w) {next:Act→World→Prop}
  (hK:∀a' w',RelH T Mod F0 w0 h (st.put o.dst (.cst (ptrOf (h.at_ key)))) a' w'→next a' w'):o.wp P a w next Q:=by
 obtain ⟨hd,hn,F,ρ,hR,hE,hH,hb⟩:=hr
 obtain ⟨⟨es,clock,hm,hst,hes⟩,h4,h5⟩:=id hH
 have e1:a.eval x=.map (some h.m):=Zi8 (Zb9 hR hx)
 have e3:a.eval k=.int .i64 key:=ZaY (Zb9 hR hkey)
 obtain ⟨d,hdd⟩:=Zev hk
 have hck:=Zf1 (w:=w) (kt:=.int .i64) (key:=key) hdd hk es.isEmpty
 obtain ⟨zv,hzv,hzr⟩:=Zqr (st:=st) hz
 have hzc:zv=.pointer none:=Zi8 (hzr (fun _=>False) (fun _=>undef) default)
 have hzrun:(Go.zeroValue V).run P w=.ok (.pointer none) w:=by rw[←hzc];exact Zoh hzv
 have hrun:(execOp a.eval o).run P w=.ok (.value (ptrOf (h.at_ key))) w:=by
  rcases ZGD hdd hk key h.es es.toList 0 hes with ⟨a1,a2⟩ | ⟨e,i,a1,a2⟩
  ·have hfk:=Zdf (P:=P) (w:=w) hdd a2
   have:ptrOf (h.at_ key)=.pointer none:=by rw[HS.at_,a1];rfl
   simp only[execOp,hop,e1,e3,Instr.lookup,Sem.run_bind,run_underlying hu,Result.andThen_ok]
   simp only[leafV] at hck
   simp only[getObj,Sem.run,hm,Sem.run_bind,Result.andThen_ok,Sem.run_pure,hck,hfk,hzrun,this]
   rfl
  ·have hfk:=Zdf (P:=P) (w:=w) hdd a2
   have:ptrOf (h.at_ key)=e.ptr:=by rw[HS.at_,a1];rfl
   simp only[execOp,hop,e1,e3,Instr.lookup,Sem.run_bind,run_underlying hu,Result.andThen_ok]
   simp only[leafV] at hck
   simp only[getObj,Sem.run,hm,Sem.run_bind,Result.andThen_ok,Sem.run_pure,hck,hfk,this]
   rfl
 unfold Oper.wp
 rw[hrun]
 exact hK _ _ ⟨by rw[Zaf];exact hd,hn,F,ρ,R.put (a:=a) hR (.cst _) o.dst,hE,hH,hb⟩
theorem ZO7 (m:Nat) (A B:List SE):(⟨m,A++B⟩:HS).blocks=(⟨m,A⟩:HS).blocks++B.flatMap SE.blocks:=by simp[HS.blocks]
theorem putH {o:Oper} {TM K V:TypeId} {x k v:Operand} {key n:Int} {l:List (El (.int .i64)×El (.int .u64))} {id ver id2 ver2:Nat} {tg:Option Nat} (hop:o.op=.mapUpdate TM x k v) (hu:P.underlying TM=some (.map K V)) (hk:leafUnder P K (.int .i64)=true)
  (hx:st.ev x=.cst (.map (some h.m))) (hkey:st.ev k=.d (.int .i64) key) (hv:st.ev v=.pt id ver 0) (ho:st.obj id ver=some (.box T [.d (.int .i64) n,.mp id2 ver2] tg)) (ho2:st.obj id2 ver2=some (.map (.int .i64) (.int .u64) l)) (hid:id≠id2) (hnone:h.at_ key=none)
  (hr:RelH T Mod F0 w0 h st a w) {next:Act→World→Prop}
  (hK:∀b mb a' w',RelH T Mod F0 w0 ⟨h.m,h.es++[⟨key,b,mb,n,l⟩]⟩ ((dropIds [id,id2] st).put o.dst .top) a' w'→next a' w'):o.wp P a w next Q:=by
 obtain ⟨hd,hn,F,ρ,hR,hE,hH,hb⟩:=hr
 have hH0:=hH
 obtain ⟨⟨es,clock,hm,hst,hes⟩,h4,h5⟩:=hH0
 have e1:a.eval x=.map (some h.m):=Zi8 (Zb9 hR hx)
 have e3:a.eval k=.int .i64 key:=ZaY (Zb9 hR hkey)
 have hf:=Zay.1 ho
 have hf2:=Zay.1 ho2
 have e4:=Zb9 hR hv
 generalize hve:a.eval v=u at e4
 obtain ⟨b,hρ,hu4⟩:∃b,ρ id=.pointer (some ⟨b,0,none⟩)∧u=.pointer (some ⟨b,0,none⟩):=by
  cases e4 with
  | pt _ _ _ _ _ _ hp=>exact hp _ ho
 subst hu4
 obtain ⟨_,b',arr,hρ',hbx,harr,hcs⟩:=hR.obs id ver _ hf
 rw[hρ] at hρ'
 cases hρ'
 have hmr:=hR.obs id2 ver2 _ hf2
 have hmr0:=hmr
 obtain ⟨mb,es2,clock2,hρ2,hm2,hrest⟩:=hmr0
 have c0:arr[0]? =some (.int .i64 n):=by
  have:0 < arr.size:=by rw[harr];exact Nat.succ_pos _
  have e:arr[0]? =some arr[0]:=by simp[this]
  rw[e,ZaY (hcs 0 _ _ rfl e)]
 have c1:arr[1]? =some (.map (some mb)):=by
  have:1 < arr.size:=by rw[harr];exact Nat.lt_succ_self _
  have e:arr[1]? =some arr[1]:=by simp[this]
  have:=hcs 1 _ _ rfl e
  generalize arr[1]=q at this e
  cases this with
  | mp _ _ _ _ _ hp=>rw[e,hp _ ho2,hρ2]
 have harr2:arr= #[.int .i64 n,.map (some mb)]:=by
  have hsz:arr.size=2:=harr
  apply Array.ext_getElem?
  intro i
  match i with
  | 0=>rw[c0];rfl
  | 1=>rw[c1];rfl
  | i+2=>rw[Array.getElem?_eq_none (by omega),Array.getElem?_eq_none (by simp)]
 subst harr2
 have s1:=hR.sep id ver _ b hf rfl (by rw[hρ];rfl)
 have s2:=hR.sep id2 ver2 _ mb hf2 rfl (by rw[hρ2];rfl)
 have hbm:b≠mb:=fun e=>hid (s2.2.2.2 id ver _ hf rfl (by rw[hρ,e];rfl))
 have hml:h.m < w.heap.size:=(Array.getElem?_eq_some_iff.1 hm).1
 have hmH:h.m∈h.blocks:=by simp[HS.blocks]
 obtain ⟨d,hdd⟩:=Zev hk
 have hck:=Zf1 (w:=w) (kt:=.int .i64) (key:=key) hdd hk false
 let w':World:= { w with heap:=w.heap.setIfInBounds h.m (.map (es.push { key:=.int .i64 key,val:=.pointer (some ⟨b,0,none⟩),born:=clock }) (clock+1)) }
 have hrun:(execOp a.eval o).run P w=.ok .skip w':=by
  rcases ZGD hdd hk key h.es es.toList 0 hes with ⟨a1,a2⟩ | ⟨e,i,a1,a2⟩
  ·have hfk:=Zdf (P:=P) (w:=w) hdd a2
   simp only[execOp,hop,e1,e3,hve,Instr.mapUpdate,Sem.run_bind,run_underlying hu,Result.andThen_ok]
   simp only[leafV] at hck
   simp only[getObj,Sem.run,hm,Sem.run_bind,Result.andThen_ok,Sem.run_pure,hck,hfk,setObj]
   rfl
  ·rw[HS.at_,a1] at hnone;cases hnone
 unfold Oper.wp
 rw[hrun]
 obtain ⟨d1,d2,d3,d4,d5⟩:=ZBB [id,id2] hR
 have hheld:∀c,held (dropIds [id,id2] st) ρ c→c≠b∧c≠mb∧c∉h.blocks∧c < w.heap.size:=fun c hh=>by
  obtain ⟨i,vi,oi,k1,k2,k3,k4⟩:=d4 c hh
  obtain ⟨q1,q2,q3,q4⟩:=hR.sep i vi oi c k1 k2 k3
  simp only[List.mem_cons,List.not_mem_nil,or_false,not_or] at k4
  exact ⟨fun e=>k4.1 (s1.2.2.2 i vi oi k1 k2 (by rw[k3,e])),fun e=>k4.2 (s2.2.2.2 i vi oi k1 k2 (by rw[k3,e])),q2.2,q3⟩
 have hsame:∀c,c≠h.m→w'.heap[c]? =w.heap[c]?:=fun c hc=>by simp[w',Array.getElem?_setIfInBounds_ne (Ne.symm hc)]
 have hsz:w'.heap.size=w.heap.size:=by simp[w']
 have hE1:Evo (fun c=>c=h.m) F w F w':=⟨rfl,rfl,rfl,by omega,fun _ h=>h,fun _ h=>.inl h,fun c _ hF=>hsame c fun e=>hF.elim (fun hF=>(hb h.m hmH).1 (e▸hF)) fun hn=>hn e⟩
 have d1':R Mod F ρ w (dropIds [id,id2] st) a.tmps:=d1.mod (fun b hh=>(hR.hi b hh).1) fun _ _ _ _ _ _ _ h=>h.1
 obtain ⟨hR1,hE2⟩:=d1'.world hE1 (fun c hc=>hc▸(hb h.m hmH).2.1) (fun c hh hc=>(hheld c hh).2.2.1 (hc▸hmH)) (fun c hc=>by rw[hsz];exact hR.low c hc)
 have hblk:(⟨h.m,h.es++[⟨key,b,mb,n,l⟩]⟩:HS).blocks=h.blocks++[b,mb]:=by rw[ZO7];rfl
 have hR2:R (Mh Mod (h.blocks++[b,mb])) F ρ w' (dropIds [id,id2] st) a.tmps:=hR1.mod (fun c hh=>⟨hR1.hi c hh,by
  have:∀c∈h.blocks,c < w.heap.size:=fun c hc=>(hb c hc).2.2
  have q1:=s1.2.2.1
  have q2:=s2.2.2.1
  rw[hsz] at hh
  simp only[List.mem_append,List.mem_cons,List.not_mem_nil,or_false,not_or]
  exact ⟨fun hc=>by have:=this c hc;omega,by omega,by omega⟩⟩) fun i vi oi c k1 k2 k3 hm=>⟨hm,by
   obtain ⟨q1,q2,q3,_⟩:=hheld c ⟨i,vi,oi,k1,k2,k3⟩
   simp only[List.mem_append,List.mem_cons,List.not_mem_nil,or_false,not_or]
   exact ⟨q3,q1,q2⟩⟩
 have hbn:b∉h.blocks:=s1.2.1.2
 have hmbn:mb∉h.blocks:=s2.2.1.2
 refine hK b mb _ _ ⟨by rw[Zaf];exact hd,?_,F,ρ,?_,hE.trans hE2,⟨⟨es.push { key:=.int .i64 key,val:=.pointer (some ⟨b,0,none⟩),born:=clock },clock+1,?_,?_,?_⟩,?_,?_⟩,?_⟩
 ·rw[hblk]
  exact List.nodup_append.2 ⟨hn,by simp[hbm],fun x hx y hy e=>by simp at hy;rcases hy with rfl | rfl <;> (subst e;first | exact hbn hx | exact hmbn hx)⟩
 ·rw[hblk];exact R.put (a:=a) hR2 (.top _) o.dst
 ·simp[w',hml]
 ·refine ⟨fun c hc=>?_,?_⟩
  ·rw[Array.toList_push,List.map_append] at hc
   rcases List.mem_append.1 hc with hc | hc
   ·exact Nat.lt_succ_of_lt (hst.1 c hc)
   ·simp at hc;omega
  ·rw[Array.toList_push,List.map_append,List.nodup_append]
   exact ⟨hst.2,by simp,fun x hx y hy=>by simp at hy;have:=hst.1 x hx;omega⟩
 ·rw[Array.toList_push,List.map_append,List.map_append,hes];rfl
 ·rw[List.map_append,List.nodup_append]
  refine ⟨h4,by simp,fun x hx y hy e=>?_⟩
  simp only[List.map_cons,List.map_nil,List.mem_singleton] at hy
  subst hy
  subst e
  obtain ⟨e,he,hek⟩:=List.mem_map.1 hx
  have:=List.find?_eq_none.1 hnone e he
  simp[hek] at this
 ·intro e he
  rcases List.mem_append.1 he with he | he
  ·refine (h5 e he).same fun c hc=>hsame c fun e'=>?_
   have hnd:=hn
   simp only[HS.blocks,List.nodup_cons,List.mem_flatMap,not_exists,not_and] at hnd
   exact hnd.1 e he (e'▸hc)
  ·simp only[List.mem_singleton] at he
   subst he
   refine SetAt.same (w:=w) (fun c hc=>hsame c fun e'=>?_) ⟨hbx,hρ2▸hmr⟩
   simp only[SE.blocks,List.mem_cons,List.not_mem_nil,or_false] at hc
   rcases hc with rfl | rfl
   ·exact hbn (e'▸hmH)
   ·exact hmbn (e'▸hmH)
 ·intro c hc
  rw[hblk] at hc
  rw[hsz]
  rcases List.mem_append.1 hc with hc | hc
  ·exact hb c hc
  ·simp only[List.mem_cons,List.not_mem_nil,or_false] at hc
   rcases hc with rfl | rfl
   ·exact ⟨s1.1,s1.2.1.1,s1.2.2.1⟩
   ·exact ⟨s2.1,s2.2.1.1,s2.2.2.1⟩
theorem ZzD (m:Nat) (A B:List SE) (e:SE) {c:Nat} :c∈(⟨m,A++e :: B⟩:HS).blocks↔c=m∨c∈A.flatMap SE.blocks∨c∈e.blocks∨c∈B.flatMap SE.blocks:=by
 simp only[HS.blocks,List.flatMap_append,List.flatMap_cons,List.mem_cons,List.mem_append]
theorem callSetH {o:Oper} {c:Call} {f:FuncId} {fn:Func} {body:Code} {x y:Operand} {key i n':Int} {l':List (El (.int .i64)×El (.int .u64))} {e:SE} {t:Ty} {r:El t} {z:AV}
  (hop:o.op=.call c) (hc:c.callee=.value (.func f)) (hargs:c.args= #[x,y]) (hfn:P.funcs[f]? =some fn) (hname:(fn.name== "runtime.NumGoroutine")=false) (hbody:fn.body=some body)
  (hx:st.ev x=.cst (ptrOf (h.at_ key))) (he:h.at_ key=some e) (hy:st.ev y=.d (.int .i64) i)
  (hC:CallOK P f [.bx T [.d (.int .i64) e.n,.mv (.int .i64) (.int .u64) e.l],.d (.int .i64) i] (.d t r,[.bx T [.d (.int .i64) n',.mv (.int .i64) (.int .u64) l'],z]))
  (hr:RelH T Mod F0 w0 h st a w) {next:Act→World→Prop}
  (hK:∀A B mb' a' w',h.es=A++e :: B→RelH T Mod F0 w0 ⟨h.m,A++⟨key,e.b,mb',n',l'⟩ :: B⟩ (st.put o.dst (.d t r)) a' w'→next a' w'):o.wp P a w next Q:=by
 obtain ⟨hd,hn,F,ρ,hR,hE,hH,hb⟩:=hr
 have hH0:=hH
 obtain ⟨⟨es,clock,hm,hst,hes⟩,h4,h5⟩:=hH0
 obtain ⟨hme,hke⟩:=ZQL he
 obtain ⟨A,B,hAB⟩:=List.append_of_mem hme
 have e1:a.eval x=.pointer (some ⟨e.b,0,none⟩):=by have:=Zi8 (Zb9 hR hx);rw[he] at this;exact this
 have e2:a.eval y=.int .i64 i:=ZaY (Zb9 hR hy)
 obtain ⟨hbx,hmr⟩:=h5 e hme
 have hm0:h=⟨h.m,A++e :: B⟩:=by cases h;simp only[HS.mk.injEq,true_and];exact hAB
 have hmem:∀c,c∈h.blocks↔c=h.m∨c∈A.flatMap SE.blocks∨c∈e.blocks∨c∈B.flatMap SE.blocks:=fun c=>by
  have:=ZzD h.m A B e (c:=c)
  rw[←hm0] at this
  exact this
 have hbH:e.b∈h.blocks:=(hmem _).2 (.inr (.inr (.inl (by simp[SE.blocks]))))
 have hmbH:e.mb∈h.blocks:=(hmem _).2 (.inr (.inr (.inl (by simp[SE.blocks]))))
 have hnd:(h.m :: (A.flatMap SE.blocks++(e.b :: e.mb :: B.flatMap SE.blocks))).Nodup:=by
  have:=hn
  rw[hm0] at this
  simpa[HS.blocks,SE.blocks] using this
 simp only[List.nodup_cons,List.nodup_append,List.mem_append,List.mem_cons,not_or] at hnd
 obtain ⟨⟨m1,m2,m3,m4⟩,n1,⟨⟨b1,b2⟩,b3,n2⟩,n3⟩:=hnd
 have hrun:(execOp a.eval o).run P w=.ok (.enter f #[.pointer (some ⟨e.b,0,none⟩),.int .i64 i]) w:=by
  have hn:¬fn.name= "runtime.NumGoroutine" :=by simpa using hname
  have he:a.eval (.func f)=.func (.func f) #[] #[]:=rfl
  simp[execOp,hop,resolve,hc,he,Deferred.ofValue,invoke,callFunc,hfn,hn,hbody,hargs,e1,e2]
 unfold Oper.wp
 rw[hrun,Oper.upon_enter]
 have hT:TReps F w [.bx T [.d (.int .i64) e.n,.mv (.int .i64) (.int .u64) e.l],.d (.int .i64) i] [.pointer (some ⟨e.b,0,none⟩),.int .i64 i] [e.b,e.mb]:=by
  have t1:TReps F w [.mv (.int .i64) (.int .u64) e.l] [.map (some e.mb)] [e.mb]:=TReps.mv hmr .nil
  have t2:TReps F w [.d (.int .i64) e.n,.mv (.int .i64) (.int .u64) e.l] [.int .i64 e.n,.map (some e.mb)] [e.mb]:=TReps.flat rfl (.d _ _ _ rfl) t1
  have t3:TReps F w [.d (.int .i64) i] [.int .i64 i] []:=TReps.flat rfl (.d _ _ _ rfl) .nil
  exact TReps.bx (L:=[]) hbx t2 t3
 refine Calls.mono (hC F w _ [e.b,e.mb] hT (by simpa using b1) (fun c hcm=>?_) hR.low hR.tabs) fun ex w' hex=>?_
 ·simp only[List.mem_cons,List.not_mem_nil,or_false] at hcm
  rcases hcm with rfl | rfl
  ·exact ⟨(hb _ hbH).1,(hb _ hbH).2.2⟩
  ·exact ⟨(hb _ hmbH).1,(hb _ hmbH).2.2⟩
 cases ex with
 | panicked ch=>exact hex.elim
 | outgrown=>exact hex.elim
 | returned v=>
  obtain ⟨F',Lr,Lo,hE1,hlow,hTr,hTo,hndo,hfr⟩:=hex
  obtain ⟨v1,us,L1,L2,hv1,hLo,t1,_⟩:=hTo.split
  cases hv1
  cases t1 with
  | flat hx=>cases hx
  | @bx _ _ _ us1 M1 _ _ _ hh hcs hr0=>
   cases hr0
   obtain ⟨u1,us2,M2,M3,hus,hM,q1,q2⟩:=hcs.split
   obtain ⟨u2,us3,M4,M5,hus2,hM2,q3,q4⟩:=q2.split
   cases q4
   subst hus2
   subst hus
   have hu1:u1=.int .i64 n'∧M2=[]:=by
    cases q1 with
    | flat _ ha hr1=>cases hr1;exact ⟨ZaY ha,rfl⟩
   obtain ⟨hu1,hM20⟩:=hu1
   subst hu1
   subst hM20
   cases q3 with
   | flat hx=>cases hx
   | mv hmr' hr1=>
    cases hr1
    have hmr2:=hmr'
    obtain ⟨mb',es2,clock2,hv2,hm2,_⟩:=hmr2
    subst hv2
    have hLo':Lo=e.b :: mb' :: L2:=by rw[hLo,hM,hM2];simp[Go.Ev.hb]
    have hndo':=(List.nodup_append.1 hndo).1
    rw[hLo'] at hndo'
    have hbm:e.b≠mb':=fun e'=>(List.nodup_cons.1 hndo').1 (by simp[e'])
    have f1:=hfr e.b (by simp[hLo'])
    have f2:=hfr mb' (by simp[hLo'])
    have hmbw:mb'=e.mb∨w.heap.size≤mb':=by
     rcases f2.2.1 with hm | hm
     ·simp only[List.mem_cons,List.not_mem_nil,or_false] at hm
      rcases hm with hm | hm
      ·exact absurd hm.symm hbm
      ·exact .inl hm
     ·exact .inr hm
    have hMod:∀c,ModC [e.b,e.mb] w c→Mod c:=fun c hcm=>hcm.elim (fun hm=>by
     simp only[List.mem_cons,List.not_mem_nil,or_false] at hm
     rcases hm with rfl | rfl
     ·exact (hb _ hbH).2.1
     ·exact (hb _ hmbH).2.1) fun hh=>(hR.hi c hh).1
    have hnM:∀c,c∈h.blocks→c≠e.b→c≠e.mb→¬ModC [e.b,e.mb] w c:=fun c hcb k1 k2 hm=>by
     rcases hm with hm | hm
     ·simp only[List.mem_cons,List.not_mem_nil,or_false] at hm
      exact hm.elim k1 k2
     ·have:=(hb c hcb).2.2;omega
    have hR0:R Mod F ρ w st a.tmps:=hR.mod (fun b hh=>(hR.hi b hh).1) fun _ _ _ _ _ _ _ h=>h.1
    obtain ⟨hR1,hE2⟩:=hR0.world hE1 hMod (fun c ⟨i,vi,oi,k1,k2,k3⟩ hm=>by
     obtain ⟨q1,q2,q3,_⟩:=hR.sep i vi oi c k1 k2 k3
     rcases hm with hm | hm
     ·simp only[List.mem_cons,List.not_mem_nil,or_false] at hm
      exact q2.2 (hm.elim (fun e'=>e'▸hbH) fun e'=>e'▸hmbH)
     ·omega) hlow
    have hans:ARep F' ρ w' st (.d t r) v:=by
     cases hTr with
     | flat _ ha hr2=>exact ZHf rfl ha
    have oth:∀c,c=h.m∨c∈A.flatMap SE.blocks∨c∈B.flatMap SE.blocks→c∈h.blocks∧c≠e.b∧c≠e.mb:=fun c hcc=>by
     refine ⟨(hmem c).2 (hcc.imp id fun h=>h.imp id .inr),?_,?_⟩
     ·rintro rfl
      rcases hcc with hcc | hcc | hcc
      ·exact m2 hcc.symm
      ·exact n3 _ hcc _ (.inl rfl) rfl
      ·exact b2 hcc
     ·rintro rfl
      rcases hcc with hcc | hcc | hcc
      ·exact m3 hcc.symm
      ·exact n3 _ hcc _ (.inr (.inl rfl)) rfl
      ·exact b3 hcc
    have same:∀c,c=h.m∨c∈A.flatMap SE.blocks∨c∈B.flatMap SE.blocks→w'.heap[c]? =w.heap[c]?:=fun c hcc=>
     hE1.same c (hb c (oth c hcc).1).2.2 (.inr (hnM c (oth c hcc).1 (oth c hcc).2.1 (oth c hcc).2.2))
    have new:∀c,c=h.m∨c∈A.flatMap SE.blocks∨c∈B.flatMap SE.blocks→¬F' c∧Mod c∧c < w'.heap.size:=fun c hcc=>by
     obtain ⟨k1,k2,k3⟩:=oth c hcc
     exact ⟨fun hF=>(hE1.new c hF).elim (hb c k1).1 (hnM c k1 k2 k3),(hb c k1).2.1,Nat.lt_of_lt_of_le (hb c k1).2.2 hE1.size⟩
    have mbo:∀c,c=h.m∨c∈A.flatMap SE.blocks∨c∈B.flatMap SE.blocks→c≠mb':=fun c hcc=>by
     obtain ⟨k1,k2,k3⟩:=oth c hcc
     rintro rfl
     rcases hmbw with hw | hw
     ·exact k3 hw
     ·have:=(hb _ k1).2.2;omega
    have allB:∀c,c∈(⟨h.m,A++⟨key,e.b,mb',n',l'⟩ :: B⟩:HS).blocks→¬F' c∧Mod c∧c < w'.heap.size:=fun c hcc=>by
     rcases (ZzD _ _ _ _).1 hcc with hcc | hcc | hcc | hcc
     ·exact new c (.inl hcc)
     ·exact new c (.inr (.inl hcc))
     ·simp only[SE.blocks,List.mem_cons,List.not_mem_nil,or_false] at hcc
      rcases hcc with rfl | rfl
      ·exact ⟨f1.1,hMod _ f1.2.1,f1.2.2⟩
      ·exact ⟨f2.1,hMod _ f2.2.1,f2.2.2⟩
     ·exact new c (.inr (.inr hcc))
    have hR2:R (Mh Mod (⟨h.m,A++⟨key,e.b,mb',n',l'⟩ :: B⟩:HS).blocks) F' ρ w' st a.tmps:=hR1.mod (fun c hh=>⟨hR1.hi c hh,fun hcc=>by have:=(allB c hcc).2.2;omega⟩) fun i vi oi c k1 k2 k3 hm=>⟨hm,fun hcc=>by
     obtain ⟨z1,z2,z3,_⟩:=hR.sep i vi oi c k1 k2 k3
     rcases (ZzD _ _ _ _).1 hcc with hcc | hcc | hcc | hcc
     ·exact z2.2 (oth c (.inl hcc)).1
     ·exact z2.2 (oth c (.inr (.inl hcc))).1
     ·simp only[SE.blocks,List.mem_cons,List.not_mem_nil,or_false] at hcc
      rcases hcc with rfl | rfl
      ·exact z2.2 hbH
      ·rcases hmbw with hw | hw
       ·exact z2.2 (hw▸hmbH)
       ·omega
     ·exact z2.2 (oth c (.inr (.inr hcc))).1⟩
    refine hK A B mb' _ _ hAB ⟨by rw[Zaf];exact hd,?_,F',ρ,R.put (a:=a) hR2 hans o.dst,hE.trans hE2,⟨⟨es,clock,?_,hst,?_⟩,?_,?_⟩,allB⟩
    ·simp only[HS.blocks,List.flatMap_append,List.flatMap_cons,SE.blocks,List.nodup_cons,List.nodup_append,List.mem_append,List.mem_cons,List.cons_append,List.nil_append,List.not_mem_nil,not_or]
     refine ⟨⟨m1,m2,mbo _ (.inl rfl),m4⟩,n1,⟨⟨hbm,b2⟩,fun hc=>mbo _ (.inr (.inr hc)) rfl,n2⟩,fun x hx y hy=>?_⟩
     rcases hy with rfl | rfl | hy
     ·exact n3 x hx _ (.inl rfl)
     ·exact mbo x (.inr (.inl hx))
     ·exact n3 x hx y (.inr (.inr hy))
    ·rw[same _ (.inl rfl)];exact hm
    ·rw[hes,hAB]
     simp[SE.ptr,hke]
    ·rw[hAB] at h4
     simpa[hke] using h4
    ·intro e' he'
     rcases List.mem_append.1 he' with hm | hm
     ·exact (h5 e' (by rw[hAB];simp[hm])).same fun c hcc=>same c (.inr (.inl (List.mem_flatMap.2 ⟨e',hm,hcc⟩)))
     ·rcases List.mem_cons.1 hm with rfl | hm
      ·exact ⟨hh,hmr'⟩
      ·exact (h5 e' (by rw[hAB];simp[hm])).same fun c hcc=>same c (.inr (.inr (List.mem_flatMap.2 ⟨e',hm,hcc⟩)))
theorem forLoop {b0 b1:Nat} {r1 body r2:Code} {tok:Operand} (Inv Mid Aft:Nat→Act→World→Prop) (n:Nat) (μ:Act→World→Nat)
  (h1:∀k a w,k≤n→Inv k a w→r1.wp P (fun e a' w'=>e=.normal∧Mid k a' w') a w)
  (ht:∀k a w,k≤n→Mid k a w→a.eval tok=.bool (decide (k < n)))
  (hb:∀k a w,k < n→Mid k a w→body.wp P (fun e a' w'=>(e=.normal∨e=.exit b1)∧Aft k a' w') a w)
  (h2:∀k a w,k < n→Aft k a w→r2.wp P (fun e a' w'=>e=.normal∧Inv (k+1) a' w') a w)
  (hμ:∀k a w,k≤n→Inv k a w→μ a w=n - k) (h0:Inv 0 a w) (hQ:∀a w,Mid n a w→Q .normal a w):
  (Code.block b0 (.loop (.seq r1 (.seq (.cond tok .skip (.exit b0)) (.seq (.block b1 body) r2))))).wp P Q a w:=by
 refine wp_block (wp_loop (fun a w=>∃k,k≤n∧Inv k a w) μ ⟨0,Nat.zero_le _,h0⟩ fun a w ⟨k,hk,hI⟩=>?_)
 refine wp_seq (wp_mono (h1 k a w hk hI) fun e a1 w1 he=>?_)
 obtain ⟨rfl,hm⟩:=he
 by_cases hkn:k < n
 ·refine wp_seq (wp_cond_true (by rw[ht k a1 w1 hk hm,decide_eq_true hkn]) (wp_skip ?_))
  refine wp_seq (wp_block (wp_mono (hb k a1 w1 hkn hm) fun e a2 w2 he=>?_))
  obtain ⟨he,ha⟩:=he
  have fin:Exit.then (r2.wp P (Exit.then (fun a' w'=>(∃k,k≤n∧Inv k a' w')∧μ a' w' < μ a w) (Exit.inBlock b0 Q))) (Exit.then (fun a' w'=>(∃k,k≤n∧Inv k a' w')∧μ a' w' < μ a w) (Exit.inBlock b0 Q)) .normal a2 w2:=by
   refine wp_mono (h2 k a2 w2 hkn ha) fun e a3 w3 he=>?_
   obtain ⟨rfl,hI3⟩:=he
   refine ⟨⟨k+1,hkn,hI3⟩,?_⟩
   rw[hμ k a w hk hI,hμ (k+1) a3 w3 hkn hI3]
   omega
  rcases he with rfl | rfl
  ·exact fin
  ·simp only[Exit.inBlock,if_true]
   exact fin
 ·have hkn':k=n:=by omega
  subst hkn'
  refine wp_seq (wp_cond_false (by rw[ht k a1 w1 hk hm,decide_eq_false hkn]) (wp_exit ?_))
  show Exit.inBlock b0 Q (.exit b0) a1 w1
  simp only[Exit.inBlock,if_true]
  exact hQ a1 w1 hm
theorem RelH.ev {x:Operand} {k:IntKind} {n:Int} (hr:RelH T Mod F0 w0 h st a w) (hx:st.ev x=.d (.int k) n):a.eval x=.int k n:=by
 obtain ⟨_,_,F,ρ,hR,_⟩:=hr
 exact ZaY (Zb9 hR hx)
theorem RelH.evb {x:Operand} {b:Bool} (hr:RelH T Mod F0 w0 h st a w) (hx:st.ev x=.d .bool b):a.eval x=.bool b:=by
 obtain ⟨_,_,F,ρ,hR,_⟩:=hr
 exact Zdn (Zb9 hR hx)
theorem Rel.ev {x:Operand} {k:IntKind} {n:Int} (hr:Rel Mod F0 w0 st a w) (hx:st.ev x=.d (.int k) n):a.eval x=.int k n:=by
 obtain ⟨_,F,ρ,hR,_⟩:=hr
 exact ZaY (Zb9 hR hx)
theorem Rel.evb {x:Operand} {b:Bool} (hr:Rel Mod F0 w0 st a w) (hx:st.ev x=.d .bool b):a.eval x=.bool b:=by
 obtain ⟨_,F,ρ,hR,_⟩:=hr
 exact Zdn (Zb9 hR hx)
def toGo (ti n:Nat) (a:Act) (_:World):Nat:=match a.eval (.tmp ti) with
 |.int _ k=>n - k.toNat
 | _=>0
theorem eqNilH {o:Oper} {TT TT' E:TypeId} {x y:Operand} {s:Option SE} (hop:o.op=.binOp .eql TT x y TT') (hu:P.underlying TT=some (.pointer E)) (hx:st.ev x=.cst (ptrOf s)) (hy:st.ev y=.cst (.pointer none))
  (hr:RelH T Mod F0 w0 h st a w) {next:Act→World→Prop} (hK:∀a' w',RelH T Mod F0 w0 h (st.put o.dst (.d .bool s.isNone)) a' w'→next a' w'):o.wp P a w next Q:=by
 obtain ⟨hd,hn,F,ρ,hR,hE,hH,hb⟩:=hr
 have e1:a.eval x=ptrOf s:=Zi8 (Zb9 hR hx)
 have e2:a.eval y=.pointer none:=Zi8 (Zb9 hR hy)
 have e3:(Op.equal TT (ptrOf s) (.pointer none)).run P w=.ok s.isNone w:=by
  have:∀d,(Op.equalIn (d+1) TT (ptrOf s) (.pointer none)).run P w=.ok s.isNone w:=fun d=>by
   cases s with
   | none=>simp[Op.equalIn,ptrOf,run_underlying hu]
   | some e=>simp[Op.equalIn,ptrOf,SE.ptr,run_underlying hu]
  exact this 9999
 have e4:(eqGuard .eql TT x y (ptrOf s) (.pointer none)).run P w=.ok () w:=by
  unfold eqGuard
  cases s <;> simp[ptrOf,SE.ptr]
 have e5:(Go.binOp .eql TT (ptrOf s) (.pointer none)).run P w=.ok (.bool s.isNone) w:=by
  unfold Go.binOp
  cases s with
  | none=>simp only[ptrOf] at e3 ⊢;simp[e3]
  | some e=>simp only[ptrOf,SE.ptr] at e3 ⊢;simp[e3]
 have hrun:(execOp a.eval o).run P w=.ok (.value (.bool s.isNone)) w:=by
  simp only[execOp,hop,e1,e2,Sem.run_bind,e4,e5,Result.andThen_ok,Sem.run_pure]
 unfold Oper.wp
 rw[hrun]
 exact hK _ _ ⟨by rw[Zaf];exact hd,hn,F,ρ,R.put (a:=a) hR (ZeP _) o.dst,hE,hH,hb⟩
theorem Rel.lift {g:St→St} (hg:∀ {st a w},Rel Mod F0 w0 st a w→Rel Mod F0 w0 (g st) a w) {st1:St} (e:g st=st1) (hr:Rel Mod F0 w0 st a w):Rel Mod F0 w0 st1 a w:=e▸hg hr
theorem RelH.norm {lab:Lab} {st1:St} (e:Go.Ev.norm P lab st=st1) (hr:RelH T Mod F0 w0 h st a w):RelH T Mod F0 w0 h st1 a w:=hr.lift fun hr=>e▸Z4 hr
theorem Rel.norm {lab:Lab} {st1:St} (e:Go.Ev.norm P lab st=st1) (hr:Rel Mod F0 w0 st a w):Rel Mod F0 w0 st1 a w:=e▸Z4 hr
end
abbrev SetsD:=List (Int×Int×List (El (.int .i64)×El (.int .u64)))
def HS.cont (h:HS):SetsD:=h.es.map fun e=>(e.key,e.n,e.l)
def getC (ms:SetsD) (key:Int):Option (Int×List (El (.int .i64)×El (.int .u64))):=(ms.find? fun e=>e.1==key).map Prod.snd
def putC (ms:SetsD) (key:Int) (d:Int×List (El (.int .i64)×El (.int .u64))):SetsD:=ms.map fun e=>if e.1=key then (key,d) else e
theorem ZNU (h:HS) (key:Int):(h.at_ key).map (fun e=>(e.n,e.l))=getC h.cont key:=by
 unfold HS.at_ getC HS.cont
 rw[List.find?_map,Option.map_map]
 rfl
theorem ZRJ {A B:List SE} {e:SE} {key:Int} {b mb n:Nat} {n':Int} {l':List (El (.int .i64)×El (.int .u64))} (hk:e.key=key) (hn:((A++e :: B).map SE.key).Nodup) (m m':Nat):
  (⟨m',A++⟨key,b,mb,n',l'⟩ :: B⟩:HS).cont=putC (⟨m,A++e :: B⟩:HS).cont key (n',l'):=by
 simp only[List.map_append,List.map_cons,List.nodup_append,List.nodup_cons,List.mem_cons,List.mem_map,not_exists,not_and] at hn
 obtain ⟨n1,⟨n2,n3⟩,n4⟩:=hn
 have hA:(A.map fun e=>(e.key,e.n,e.l)).map (fun e=>if e.1=key then (key,(n',l')) else e)=A.map fun e=>(e.key,e.n,e.l):=by
  rw[List.map_map]
  refine List.map_congr_left fun x hx=>?_
  have:x.key≠key:=fun e'=>n4 x.key ⟨x,hx,rfl⟩ e.key (.inl rfl) (e'.trans hk.symm)
  simp[this]
 have hB:(B.map fun e=>(e.key,e.n,e.l)).map (fun e=>if e.1=key then (key,(n',l')) else e)=B.map fun e=>(e.key,e.n,e.l):=by
  rw[List.map_map]
  refine List.map_congr_left fun x hx=>?_
  have:x.key≠key:=fun e'=>n2 x hx (e'.trans hk.symm)
  simp[this]
 unfold HS.cont putC
 simp only[List.map_append,List.map_cons,hA,hB,hk,if_true]
open Classical in
theorem ZOd {P:Program} {f:FuncId} {r:Run} {xs:List AV} {ans:Ans} (h:EntOK P f r) (hr:∀k,r xs k=k ans):CallOK P f xs ans:=by
 obtain ⟨a,ha,hk⟩:=(h.2 xs).2 (fun a=>if a=ans then some (AV.top,[]) else none) (AV.top,[]) (by rw[hr];simp)
 split at hk
 ·rename_i e
  exact e▸ha
 ·cases hk
theorem ZDF {P:Program} {f:FuncId} {s:Sig} {α:Type} {R:α→AV} (hk:Known P f) {ok:Args s→Bool} {v:Args s→α} (h:∀a,ok a=true→CallOK P f (toForms s a) (R (v a),tps (toForms s a))):EntOK P f (entG s R ok v):=
 ZIB hk (fun a=>Det.guard (Det.pure _)) fun a=>Sat.guard fun hok=>Sat.pure (h a hok)
end Go.Ev
end

section
namespace Go.Ev
variable [Tabs]
open Go
def rowRun (r:Run):Run:=fun xs=>match xs with
 | [.pt 0 0 0]=>fun k=>k (.top,[])
 | xs=>r xs
theorem ZB7 {P:Program} {f:FuncId} {r:Run} (h:EntOK P f r):EntOK P f (rowRun r):=by
 refine ⟨h.1,fun xs=>?_⟩
 unfold rowRun
 split
 ·refine ⟨Det.pure _,Sat.pure fun F w vals L hT=>?_⟩
  cases hT with
  | flat hx=>cases hx
 ·exact h.2 xs
section
variable {P:Program} {f:FuncId} {E:TypeId} {F:Nat→Prop} {w:World}
theorem ZAK {l:List Int} {v:Value} (h:RowRep F w E (.int .i64) l v):
  (v=.slice none 0 0∧l=[])∨∃g off cap cur,v=.slice (some ⟨g,off,none⟩) l.length cap∧w.heap[g]? =some (.cells cur E (0,0))∧l.length≤cap∧cap≤maxLen∧off+cap*1≤cur.size∧(cur.toList.drop off).take l.length=l.map (Value.int .i64):=by
 obtain ⟨cells,hown,hrep⟩:=h
 have hcells:cells=l.map (Value.int .i64):=by
  apply List.ext_getElem?
  intro i
  have hl:cells.length=l.length:=by have:=hown.1;simpa[Ty.cells] using this
  rw[List.getElem?_map]
  cases hi:l[i]? with
  | none=>rw[List.getElem?_eq_none (by have:=List.getElem?_eq_none_iff.1 hi;omega)];rfl
  | some x=>
   obtain ⟨cs,hcs,hall⟩:=hrep i x hi
   have hcs':cs=[Value.int .i64 x]:=hcs
   have:=hall 0 (Value.int .i64 x) (by rw[hcs'];rfl)
   simpa[Ty.cells] using this
 rcases hown with ⟨_,⟨hv0,hn0⟩ | ⟨g,off,cap,cur,hv0,hb,hn,hcm,hsz,htk⟩⟩
 ·exact .inl ⟨hv0,List.eq_nil_of_length_eq_zero hn0⟩
 ·exact .inr ⟨g,off,cap,cur,hv0,hb,hn,hcm,hsz,by rw[←hcells,←htk];simp[Ty.cells]⟩
theorem ZN8 (F:Nat→Prop) {v:Value} {n:Nat} {l:List Int} (hn:n=l.length) (h:ownsAt w E 1 v n (l.map (Value.int .i64))):RowRep F w E (.int .i64) l v:=by
 subst hn
 refine ⟨l.map (Value.int .i64),h,fun i x hx=>⟨[Value.int .i64 x],rfl,fun j u hu=>?_⟩⟩
 match j with
 | 0=>simp at hu;subst hu;simp[Ty.cells,hx]
 | j+1=>simp at hu
theorem ZPO {l ts:List Int} {m g off cap q:Nat} (hF0:¬F g) {cur:Array Value} (hb:w.heap[g]? =some (.cells cur E (0,0))) (h1:l.length≤cap) (h2:cap≤maxLen) (h3:off+cap*1≤cur.size) (hl:ts.length=l.length) (hm:m≤l.length)
  {w':World} (hw:w'=Go.Sort.putRow (Value.int .i64) (Go.Sort.ahead w q) g off ts.toArray):Evo (ModC [g] w) F w F w'∧RowRep F w' E (.int .i64) (ts.take m) (.slice (some ⟨g,off,none⟩) m cap)∧g < w'.heap.size:=by
 have hg0:∀x:World,Go.Sort.grow x #[]=x:=fun x=>by simp[Go.Sort.grow]
 have e:w'=Go.Sort.grow (Go.Sort.putRow (Value.int .i64) (Go.Sort.ahead w q) g off ts.toArray) #[]:=by rw[hw,hg0]
 have hgr:=ZpL (w:=w) (g:=g) (off:=off) (n:=q) (os:= #[]) ts.toArray
 rw[←e] at hgr
 have hgl:g < w.heap.size:=(Array.getElem?_eq_some_iff.1 hb).1
 have hlow:g < w'.heap.size:=Nat.lt_of_lt_of_le hgl hgr.size
 refine ⟨⟨hgr.os,hgr.tape,hgr.output,hgr.size,fun _ h=>h,fun _ h=>.inl h,fun b hbl hF=>hgr.block b hbl fun hh=>?_⟩,?_,hlow⟩
 ·cases hh
  rcases hF with hF | hF
  ·exact hF0 hF
  ·exact hF (.inl (by simp))
 ·have:=ZyI (n:=q) (os:= #[]) (ss:=l) (ts:=ts) hl hb h1 h2 h3
  rw[←e,←hl] at this
  have hr:=ZN8 (E:=E) F rfl this
  exact hr.pre (by omega)
def CompactOK (P:Program) (f:FuncId):Prop:=
 (∀(blk off cap:Nat) (zs:List Int) (w:World),Go.Sort.Holds (Value.int .i64) w blk off zs.toArray→zs.length≤9223372036854775807→zs.length≤cap→
  Calls P f #[.slice (some ⟨blk,off,none⟩) zs.length cap] w fun e w'=>e=.returned (.slice (some ⟨blk,off,none⟩) (Go.Lib.compact zs).length cap)∧∃q,w'=Go.Sort.putRow (Value.int .i64) (Go.Sort.ahead w q) blk off (Go.Lib.compact zs++List.replicate (zs.length - (Go.Lib.compact zs).length) 0).toArray)∧
 ∀(a:Option Addr) (cap:Nat) (w:World),Calls P f #[.slice a 0 cap] w fun e w'=>e=.returned (.slice a 0 cap)∧w'=w
theorem ZKk (hC:CompactOK P f) (l:List Int):CallOK P f [.rw E (.int .i64) l] (.rw E (.int .i64) (Go.Lib.compact l),[.top]):=by
 intro F w vals L hT hL hLF hlow htab
 cases hT with
 | flat hx=>cases hx
 | rw hrow hr=>
  cases hr
  rcases ZAK hrow with ⟨rfl,rfl⟩ | ⟨g,off,cap,cur,rfl,hb,h1,h2,h3,h4⟩
  ·refine Calls.mono (hC.2 none 0 w) fun e w' he=>?_
   obtain ⟨rfl,rfl⟩:=he
   have hc0:Go.Lib.compact ([]:List Int)=[]:=List.eq_nil_of_length_eq_zero (by have:=Go.Lib.compact_length_le ([]:List Int);simpa using this)
   rw[hc0]
   exact ⟨F,[],[],Evo.refl _ _ _,hlow,by have:=TReps.rw (l:=[]) hrow (TReps.nil (F:=F) (w:=w'));simpa[hb] using this,.top .nil,List.nodup_nil,fun b hb=>by cases hb⟩
  ·have hgF:¬F g:=(hLF g (by simp[Go.Ev.hb])).1
   refine Calls.mono (hC.1 g off cap l w (ZG5 hb h4) (by unfold maxLen at h2;omega) h1) fun e w' he=>?_
   obtain ⟨rfl,q,hw⟩:=he
   have hle:=Go.Lib.compact_length_le l
   obtain ⟨e1,e2,e3⟩:=ZPO (m:=(Go.Lib.compact l).length) hgF hb h1 h2 h3 (by simp;omega) hle hw
   rw[List.take_left' rfl] at e2
   have e1':Evo (ModC ((Go.Ev.hb (.slice (some ⟨g,off,none⟩) l.length cap)).toList++[]) w) F w F w':=by simpa[Go.Ev.hb] using e1
   refine ⟨F,[g],[],e1',fun b hb=>Nat.lt_of_lt_of_le (hlow b hb) e1.size,by have:=TReps.rw e2 (TReps.nil (F:=F) (w:=w'));simpa[Go.Ev.hb] using this,.top .nil,by simp,fun b hb=>?_⟩
   simp only[List.nil_append,List.mem_singleton] at hb
   subst hb
   exact ⟨hgF,.inl (by simp[Go.Ev.hb]),e3⟩
def DeleteOK (P:Program) (f:FuncId):Prop:=
 ∀(blk off cap i j:Nat) (zs:List Int) (w:World),Go.Sort.Holds (Value.int .i64) w blk off zs.toArray→zs.length≤cap→cap≤9223372036854775807→i≤j→j≤zs.length→
  Calls P f #[.slice (some ⟨blk,off,none⟩) zs.length cap,.int .i64 i,.int .i64 j] w fun e w'=>e=.returned (.slice (some ⟨blk,off,none⟩) (zs.length - (j - i)) cap)∧∃q,w'=Go.Sort.putRow (Value.int .i64) (Go.Sort.ahead w q) blk off (zs.take i++zs.drop j++List.replicate (j - i) 0).toArray
theorem ZMW (hC:DeleteOK P f) (l:List Int) {i j:Int} (hi:0≤i) (hij:i≤j) (hj:j≤(l.length:Int)) (hne:l≠ []):CallOK P f [.rw E (.int .i64) l,.d (.int .i64) i,.d (.int .i64) j] (.rw E (.int .i64) (l.take i.toNat++l.drop j.toNat),[.top,.top,.top]):=by
 intro F w vals L hT hL hLF hlow htab
 obtain ⟨i,rfl⟩:=Int.eq_ofNat_of_zero_le hi
 obtain ⟨j,rfl⟩:=Int.eq_ofNat_of_zero_le (Int.le_trans hi hij)
 rw[Int.toNat_natCast,Int.toNat_natCast]
 cases hT with
 | flat hx=>cases hx
 | rw hrow hr=>
  cases hr with
  | flat _ ha hr=>
   cases hr with
   | flat _ hb2 hr=>
    cases hr
    have ea:=ZaY ha
    have eb:=ZaY hb2
    subst ea
    subst eb
    rcases ZAK hrow with ⟨rfl,rfl⟩ | ⟨g,off,cap,cur,rfl,hb,h1,h2,h3,h4⟩
    ·exact absurd rfl hne
    ·have hgF:¬F g:=(hLF g (by simp[Go.Ev.hb])).1
     refine Calls.mono (hC g off cap i j l w (ZG5 hb h4) h1 (by unfold maxLen at h2;omega) (by omega) (by omega)) fun e w' he=>?_
     obtain ⟨rfl,q,hw⟩:=he
     have hlen:(l.take i++l.drop j).length=l.length - (j - i):=by simp;omega
     obtain ⟨e1,e2,e3⟩:=ZPO (m:=l.length - (j - i)) hgF hb h1 h2 h3 (by simp;omega) (by omega) hw
     rw[List.take_left' hlen,←hlen] at e2
     have e1':Evo (ModC ((Go.Ev.hb (.slice (some ⟨g,off,none⟩) l.length cap)).toList++[]) w) F w F w':=by simpa[Go.Ev.hb] using e1
     rw[hlen] at e2
     refine ⟨F,[g],[],e1',fun b hb=>Nat.lt_of_lt_of_le (hlow b hb) e1.size,by rw[←hlen] at e2 ⊢;have:=TReps.rw e2 (TReps.nil (F:=F) (w:=w'));simpa[Go.Ev.hb] using this,.top (.top (.top .nil)),by simp,fun b hb=>?_⟩
     simp only[List.nil_append,List.mem_singleton] at hb
     subst hb
     exact ⟨hgF,.inl (by simp[Go.Ev.hb]),e3⟩
def CloneOK (P:Program) (f:FuncId) (E:TypeId):Prop:=
 (∀(b off n c:Nat) (zs:List Int) (w:World),n≤zs.length→n*8≤140737488355328→(∀j,j < zs.length→w.cell? ⟨b,off+j,none⟩=some (.int .i64 (zs.getD j 0)))→
  Calls P f #[.slice (some ⟨b,off,none⟩) n c] w fun e w'=>∃v',e=.returned v'∧w'.ownsRow w.heap.size E 1 v' n ((zs.take n).map (Value.int .i64))∧v'≠ .slice none 0 0∧Go.RowKit.Below w.heap.size w w')∧
 (∀(n c:Nat) (w:World),Calls P f #[.slice none n c] w fun e w'=>e=.returned (.slice none 0 0)∧w'=w)∧
 ∀(a:Addr) (c:Nat) (w:World),Calls P f #[.slice (some a) 0 c] w fun e w'=>∃v',e=.returned v'∧w'.ownsRow w.heap.size E 1 v' 0 []∧v'≠ .slice none 0 0∧Go.RowKit.Below w.heap.size w w'
theorem ZPi (hC:CloneOK P f E) (l:List Int) (hl:l.length*8≤140737488355328):CallOK P f [.d (.sl (.int .i64)) l] (.rw E (.int .i64) l,[.top]):=by
 intro F w vals L hT hL hLF hlow htab
 have fresh:∀(v':Value) (w':World),w'.ownsRow w.heap.size E 1 v' l.length (l.map (Value.int .i64))→Go.RowKit.Below w.heap.size w w'→∀u:Value,CallPost F w [] [u] (.rw E (.int .i64) l,[.top]) v' w':=by
  intro v' w' hown hbl u
  have hlw:∀b,F b→b < w'.heap.size:=fun b hb=>Nat.lt_of_lt_of_le (hlow b hb) hbl.size
  have hrow:RowRep F w' E (.int .i64) l v':=by
   refine ZN8 F rfl ⟨hown.1,?_⟩
   rcases hown.2 with h | ⟨g,cap,cur,h1,h2,h3,h4,h5,h6,h7⟩
   ·exact .inl h
   ·exact .inr ⟨g,0,cap,cur,h1,h3,h4,h5,by omega,by simpa using h7⟩
  have hnew:∀b,Go.Ev.hb v'=some b→w.heap.size≤b∧b < w'.heap.size:=fun b hb=>by
   rcases hown.2 with ⟨rfl,_⟩ | ⟨g,cap,cur,rfl,h2,h3,_⟩
   ·cases hb
   ·cases hb
    exact ⟨h2,(Array.getElem?_eq_some_iff.1 h3).1⟩
  refine ⟨F,(Go.Ev.hb v').toList,[],⟨hbl.os,hbl.tape,hbl.output,hbl.size,fun _ h=>h,fun _ h=>.inl h,fun b hb _=>hbl.block b hb⟩,hlw,by have:=TReps.rw hrow (TReps.nil (F:=F) (w:=w'));simpa using this,.top .nil,by cases Go.Ev.hb v' <;> simp,fun b hb=>?_⟩
  have hb':Go.Ev.hb v'=some b:=by simpa using hb
  obtain ⟨n1,n2⟩:=hnew b hb'
  exact ⟨fun hF=>by have:=hlow b hF;omega,.inr n1,n2⟩
 cases hT with
 | flat _ ha hr=>
  cases hr
  cases ha with
  | d _ _ _ h=>
   obtain ⟨A,c,hv,hc,hall⟩:=h
   cases hv
   match A with
   | none=>
    have:l=[]:=by
     cases l with
     | nil=>rfl
     | cons x r=>obtain ⟨ad,cs,h1,_⟩:=hall 0 x rfl;cases h1
    subst this
    refine Calls.mono (hC.2.1 _ _ w) fun e w' he=>?_
    obtain ⟨rfl,rfl⟩:=he
    exact fresh _ _ ⟨rfl,.inl ⟨rfl,rfl⟩⟩ (Go.RowKit.Below.refl _ _) _
   | some ad=>
    by_cases hn:l=[]
    ·subst hn
     refine Calls.mono (hC.2.2 ad c w) fun e w' he=>?_
     obtain ⟨v',rfl,h1,_,h3⟩:=he
     exact fresh _ _ h1 h3 _
    ·obtain ⟨b,off,sp⟩:=ad
     have cell:∀j,j < l.length→w.cell? ((⟨b,off,sp⟩:Addr).add j)=some (.int .i64 (l.getD j 0)):=fun j hj=>by
      obtain ⟨ad,cs,h1,_,h2,h3⟩:=hall j l[j] (List.getElem?_eq_getElem hj)
      cases h1
      have h2':cs=[Value.int .i64 l[j]]:=h2
      have:=h3 0 (Value.int .i64 l[j]) (by rw[h2'];rfl)
      rw[Addr.add_add] at this
      simp only[Ty.cells,Nat.mul_one,Nat.add_zero] at this
      rw[this,List.getD_eq_getElem?_getD,List.getElem?_eq_getElem hj];rfl
     have hsp:sp=none:=by
      have:=cell 0 (List.length_pos_iff.2 hn)
      cases sp with
      | none=>rfl
      | some s=>
       exfalso
       simp only[Addr.add,if_true,World.cell?] at this
       split at this <;> simp at this
     subst hsp
     refine Calls.mono (hC.1 b off l.length c l w (Nat.le_refl _) hl fun j hj=>by have:=cell j hj;rwa[Zhq] at this) fun e w' he=>?_
     obtain ⟨v',rfl,h1,_,h3⟩:=he
     rw[List.take_length] at h1
     exact fresh _ _ h1 h3 _
end
end Go.Ev
end

section
namespace Go.Ev
variable [Tabs]
open Go
structure Hid where
 blocks:List Nat
 ok:(Nat→Prop)→World→Prop
 keep:∀ {F F':Nat→Prop} {w w':World},Keeps F w F' w'→(∀b∈blocks,w'.heap[b]? =w.heap[b]?)→ok F w→ok F' w'
def RelX [Orgs] (h:Hid) (Mod F0:Nat→Prop) (w0:World) (st:St) (a:Act) (w:World):Prop:=
 a.defers=[]∧h.blocks.Nodup∧∃F ρ,R (Mh Mod h.blocks) F ρ w st a.tmps∧Evo Mod F0 w0 F w∧h.ok F w∧∀b∈h.blocks,¬F b∧Mod b∧b < w.heap.size
section
variable [Orgs] {P:Program} {Mod F0:Nat→Prop} {w0:World} {cl:Cl} {h:Hid} {st st1:St} {a:Act} {w:World} {Q:Exit→Act→World→Prop}
theorem RelX.out (hr:RelX h Mod F0 w0 st a w):Rel Mod F0 w0 st a w:=by
 obtain ⟨hd,_,F,ρ,hR,hE,_,hb⟩:=hr
 exact ⟨hd,F,ρ,hR.mod (fun b hh=>(hR.hi b hh).1) fun _ _ _ _ _ _ _ h=>h.1,hE⟩
theorem RelX.next {a':Act} {w':World} {F:Nat→Prop} (hn:h.blocks.Nodup) (hE:Evo Mod F0 w0 F w) (hlow:∀b,F b→b < w.heap.size) (hH:h.ok F w) (hb:∀b∈h.blocks,¬F b∧Mod b∧b < w.heap.size)
  (hr:Rel (Mh Mod h.blocks) F w st1 a' w'):RelX h Mod F0 w0 st1 a' w':=by
 obtain ⟨hd',F',ρ',hR',hE'⟩:=hr
 have hs:∀b∈h.blocks,w'.heap[b]? =w.heap[b]?:=fun b hbb=>hE'.same b (hb b hbb).2.2 (.inr fun hm=>hm.2 hbb)
 exact ⟨hd',hn,F',ρ',hR',hE.trans (hE'.mod fun b hb=>hb.1),h.keep (hE'.keeps hlow) hs hH,fun b hbb=>⟨fun hF=>(hE'.new b hF).elim (hb b hbb).1 fun hm=>hm.2 hbb,(hb b hbb).2.1,Nat.lt_of_lt_of_le (hb b hbb).2.2 hE'.size⟩⟩
theorem RelX.lift (hg:∀ {Mod F0:Nat→Prop} {w0:World},Rel Mod F0 w0 st a w→Rel Mod F0 w0 st1 a w) (hr:RelX h Mod F0 w0 st a w):RelX h Mod F0 w0 st1 a w:=by
 obtain ⟨hd,hn,F,ρ,hR,hE,hH,hb⟩:=hr
 exact RelX.next hn hE hR.low hH hb (hg (Mod:=Mh Mod h.blocks) (F0:=F) (w0:=w) ⟨hd,F,ρ,hR,Evo.refl _ _ _⟩)
theorem pieceX (hcl:Spec P cl) (hdet:DetC cl) {c:Code} (g:St→St) (hg:∀ {Mod F0:Nat→Prop} {w0:World} {st a w},Rel Mod F0 w0 st a w→Rel Mod F0 w0 (g st) a w)
  (hev:∀(L:Lt) (k:Kt) (x:Nat→Kt) (r:Kt),evC P cl [] L c 0 (fun s=>k (g s)) x r st=k st1) (hr:RelX h Mod F0 w0 st a w) (hQ:∀a' w',RelX h Mod F0 w0 st1 a' w'→Q .normal a' w'):c.wp P Q a w:=by
 obtain ⟨hd,hn,F,ρ,hR,hE,hH,hb⟩:=hr
 exact piece (Mod:=Mh Mod h.blocks) (F0:=F) (w0:=w) hcl hdet g hg hev ⟨hd,F,ρ,hR,Evo.refl _ _ _⟩ fun a' w' hr'=>hQ a' w' (RelX.next hn hE hR.low hH hb hr')
theorem evOpX (hcl:Spec P cl) {ops:Array Oper} {i:Nat} {o:Oper} {rest:List Nat} (ho:ops[i]? =some o) (hg:o.guard=none) (hev:∀k,opA P cl o st k=k st1) (hr:RelX h Mod F0 w0 st a w)
  (hQ:∀a' w',RelX h Mod F0 w0 st1 a' w'→wpOps P ops Q rest a' w'):wpOps P ops Q (i :: rest) a w:=by
 obtain ⟨hd,hn,F,ρ,hR,hE,hH,hb⟩:=hr
 exact evOp (Mod:=Mh Mod h.blocks) (F0:=F) (w0:=w) hcl ho hg hev ⟨hd,F,ρ,hR,Evo.refl _ _ _⟩ fun a' w' hr'=>hQ a' w' (RelX.next hn hE hR.low hH hb hr')
theorem RelX.ev {x:Operand} {k:IntKind} {n:Int} (hr:RelX h Mod F0 w0 st a w) (hx:st.ev x=.d (.int k) n):a.eval x=.int k n:=by
 obtain ⟨_,_,F,ρ,hR,_⟩:=hr
 exact ZaY (Zb9 hR hx)
theorem RelX.evb {x:Operand} {b:Bool} (hr:RelX h Mod F0 w0 st a w) (hx:st.ev x=.d .bool b):a.eval x=.bool b:=by
 obtain ⟨_,_,F,ρ,hR,_⟩:=hr
 exact Zdn (Zb9 hR hx)
theorem RelX.norm {lab:Lab} {st1:St} (e:Go.Ev.norm P lab st=st1) (hr:RelX h Mod F0 w0 st a w):RelX h Mod F0 w0 st1 a w:=hr.lift fun hr=>e▸Z4 hr
abbrev MapD:=List (Int×List Int)
def MapOf (F:Nat→Prop) (w:World):List MapEntry→MapD→Prop
 | [],[]=>True
 | e :: es,x :: l=>(e.key=.int .i64 x.1∧LRep F w (.sl (.int .i64)) x.2 [e.val])∧MapOf F w es l
 | _,_=>False
theorem MapOf.keep {F F':Nat→Prop} {w w':World} (hk:Keeps F w F' w'):∀ {es:List MapEntry} {l:MapD},MapOf F w es l→MapOf F' w' es l
 | [],[],_=>trivial
 | e :: es,x :: l,h=>⟨⟨h.1.1,h.1.2.keep hk⟩,MapOf.keep hk h.2⟩
 | [],_ :: _,h=>h.elim
 | _ :: _,[],h=>h.elim
theorem MapOf.push {F:Nat→Prop} {w:World} {e:MapEntry} {x:Int×List Int} (h1:e.key=.int .i64 x.1) (h2:LRep F w (.sl (.int .i64)) x.2 [e.val]):∀ {es:List MapEntry} {l:MapD},MapOf F w es l→MapOf F w (es++[e]) (l++[x])
 | [],[],_=>⟨⟨h1,h2⟩,trivial⟩
 | e' :: es,x' :: l,h=>⟨h.1,MapOf.push h1 h2 h.2⟩
 | [],_ :: _,h=>h.elim
 | _ :: _,[],h=>h.elim
def getM (l:MapD) (key:Int):Option (List Int):=(l.find? fun e=>e.1==key).map Prod.snd
theorem ZF4 {F:Nat→Prop} {K:TypeId} {d:TypeDesc} (hd:P.underlying K=some d) (hk:leafUnder P K (.int .i64)=true) (key:Int):∀(l:MapD) (es:List MapEntry) (n:Nat),MapOf F w es l→
  (getM l key=none∧Instr.findNow d (.int .i64 key) es n=some none)∨∃r i v,getM l key=some r∧Instr.findNow d (.int .i64 key) es n=some (some (n+i,v))∧LRep F w (.sl (.int .i64)) r [v]
 | [],[],n,h=>.inl ⟨rfl,rfl⟩
 | x :: l,e :: es,n,h=>by
  obtain ⟨⟨h1,h2⟩,h3⟩:=h
  by_cases hke:x.1=key
  ·refine .inr ⟨x.2,0,e.val,by simp[getM,hke],?_,h2⟩
   rw[Instr.findNow,h1,ZBr hd hk,hke]
   simp
  ·have hstep:Instr.findNow d (.int .i64 key) (e :: es) n=Instr.findNow d (.int .i64 key) es (n+1):=by
    rw[Instr.findNow,h1,ZBr hd hk]
    have:(key==x.1)=false:=by simpa using fun h=>hke h.symm
    rw[this]
   have hf:getM (x :: l) key=getM l key:=by
    unfold getM
    rw[List.find?_cons_of_neg (by simpa using hke)]
   rcases ZF4 hd hk key l es (n+1) h3 with ⟨a1,a2⟩ | ⟨r,i,v,a1,a2,a3⟩
   ·exact .inl ⟨hf.trans a1,by rw[hstep,a2]⟩
   ·exact .inr ⟨r,i+1,v,hf.trans a1,by rw[hstep,a2];congr 3;omega,a3⟩
 | [],_ :: _,_,h=>h.elim
 | _ :: _,[],_,h=>h.elim
def mapHid (m:Nat) (l:MapD):Hid where
 blocks:=[m]
 ok F w:=∃es clock,w.heap[m]? =some (.map es clock)∧Stamps es clock∧MapOf F w es.toList l
 keep hk hb h:=by
  obtain ⟨es,clock,h1,h2,h3⟩:=h
  exact ⟨es,clock,by rw[hb _ (by simp)];exact h1,h2,h3.keep hk⟩
theorem makeMapX {o:Oper} {TM:TypeId} (hop:o.op=.makeMap TM none) (hr:Rel Mod F0 w0 st a w) {next:Act→World→Prop}
  (hK:∀m a' w',RelX (mapHid m []) Mod F0 w0 (st.put o.dst (.cst (.map (some m)))) a' w'→next a' w'):o.wp P a w next Q:=by
 obtain ⟨hd,F,ρ,hR,hE⟩:=hr
 have hrun:(execOp a.eval o).run P w=.ok (.value (.map (some w.heap.size))) (w.alloc (.map #[] 0)):=by
  simp[execOp,hop,Instr.makeMap]
 unfold Oper.wp
 rw[hrun]
 have hsz:(w.alloc (.map #[] 0)).heap.size=w.heap.size+1:=by simp
 have hE1:Evo (fun b=>w.heap.size≤b) F w F (w.alloc (.map #[] 0)):=⟨rfl,rfl,rfl,by omega,fun _ h=>h,fun _ h=>.inl h,fun b hb _=>ZdV w _ hb⟩
 obtain ⟨hR1,hE2⟩:=hR.world hE1 (fun b hb=>hR.hi b hb) (fun b ⟨id,ver,o,h1,h2,h3⟩ hb=>absurd (hR.sep id ver o b h1 h2 h3).2.2.1 (by omega)) (fun b hb=>by have:=hR.low b hb;omega)
 have hR2:R (Mh Mod [w.heap.size]) F ρ (w.alloc (.map #[] 0)) st a.tmps:=hR1.mod (fun b hb=>⟨hR1.hi b hb,by simp;omega⟩) fun id ver o b h1 h2 h3 hm=>⟨hm,by
  have:=(hR.sep id ver o b h1 h2 h3).2.2.1
  simp;omega⟩
 refine hK w.heap.size _ _ ⟨by rw[Zaf];exact hd,by simp[mapHid],F,ρ,R.put (a:=a) hR2 (.cst _) o.dst,hE.trans hE2,⟨_,_,Zct _ _,⟨fun b hb=>by simp at hb,List.nodup_nil⟩,trivial⟩,fun b hb=>?_⟩
 simp only[mapHid,List.mem_singleton] at hb
 subst hb
 exact ⟨fun hF=>Nat.lt_irrefl _ (hR.low _ hF),hR.hi _ (Nat.le_refl _),by omega⟩
theorem lookupX {o:Oper} {TM K V:TypeId} {x k:Operand} {key:Int} {m:Nat} {l:MapD} (hop:o.op=.lookup TM x k true) (hu:P.underlying TM=some (.map K V)) (hk:leafUnder P K (.int .i64)=true) (hz:zeroOne P V=some .nil)
  (hx:st.ev x=.cst (.map (some m))) (hkey:st.ev k=.d (.int .i64) key) (hr:RelX (mapHid m l) Mod F0 w0 st a w) {next:Act→World→Prop}
  (hK:∀a' w',RelX (mapHid m l) Mod F0 w0 (st.put o.dst (.tu [.d (.sl (.int .i64)) ((getM l key).getD []),.d .bool (getM l key).isSome])) a' w'→next a' w'):o.wp P a w next Q:=by
 obtain ⟨hd,hn,F,ρ,hR,hE,hH,hb⟩:=hr
 obtain ⟨es,clock,hm,hst,hes⟩:=id hH
 have e1:a.eval x=.map (some m):=Zi8 (Zb9 hR hx)
 have e3:a.eval k=.int .i64 key:=ZaY (Zb9 hR hkey)
 obtain ⟨d,hdd⟩:=Zev hk
 have hck:=Zf1 (w:=w) (kt:=.int .i64) (key:=key) hdd hk es.isEmpty
 obtain ⟨zv,hzv,hzr⟩:=Zqr (st:=st) hz
 have hzc:zv=.slice none 0 0:=by have:=hzr (fun _=>False) (fun _=>undef) default;cases this;rfl
 have hzrun:(Go.zeroValue V).run P w=.ok (.slice none 0 0) w:=by rw[←hzc];exact Zoh hzv
 have tup:∀(r:List Int) (b:Bool) (v:Value),LRep F w (.sl (.int .i64)) r [v]→ARep F ρ w st (.tu [.d (.sl (.int .i64)) r,.d .bool b]) (.tuple #[v,.bool b]):=fun r b v hv=>by
  refine .tu _ _ (by simp) fun i c u h3 h4=>?_
  match i with
  | 0=>simp at h3 h4;subst h3;subst h4;exact .d _ _ _ hv
  | 1=>simp at h3 h4;subst h3;subst h4;exact .d _ _ _ rfl
  | n+2=>simp at h3
 obtain ⟨v,hrun,hv⟩:∃v,(execOp a.eval o).run P w=.ok (.value (.tuple #[v,.bool (getM l key).isSome])) w∧LRep F w (.sl (.int .i64)) ((getM l key).getD []) [v]:=by
  rcases ZF4 (w:=w) (F:=F) hdd hk key l es.toList 0 hes with ⟨a1,a2⟩ | ⟨r,i,v,a1,a2,a3⟩
  ·have hfk:=Zdf (P:=P) (w:=w) hdd a2
   refine ⟨.slice none 0 0,?_,?_⟩
   ·simp only[execOp,hop,e1,e3,Instr.lookup,Sem.run_bind,run_underlying hu,Result.andThen_ok]
    simp only[leafV] at hck
    simp only[getObj,Sem.run,hm,Sem.run_bind,Result.andThen_ok,Sem.run_pure,hck,hfk,hzrun,a1]
    rfl
   ·rw[a1]
    exact ⟨none,0,rfl,Nat.le_refl _,fun i x hx=>by simp at hx⟩
  ·have hfk:=Zdf (P:=P) (w:=w) hdd a2
   refine ⟨v,?_,?_⟩
   ·simp only[execOp,hop,e1,e3,Instr.lookup,Sem.run_bind,run_underlying hu,Result.andThen_ok]
    simp only[leafV] at hck
    simp only[getObj,Sem.run,hm,Sem.run_bind,Result.andThen_ok,Sem.run_pure,hck,hfk,a1]
    rfl
   ·rw[a1];exact a3
 unfold Oper.wp
 rw[hrun]
 exact hK _ _ ⟨by rw[Zaf];exact hd,hn,F,ρ,R.put (a:=a) hR (tup _ _ v hv) o.dst,hE,hH,hb⟩
theorem updateX {o:Oper} {TM K V E:TypeId} {x k v:Operand} {key:Int} {m:Nat} {l:MapD} {id ver:Nat} {r:List Int} {lk:Bool} (hop:o.op=.mapUpdate TM x k v) (hu:P.underlying TM=some (.map K V)) (hk:leafUnder P K (.int .i64)=true)
  (hx:st.ev x=.cst (.map (some m))) (hkey:st.ev k=.d (.int .i64) key) (hv:st.ev v=.own id ver none) (ho:st.obj id ver=some (.row E (.int .i64) r lk)) (hnone:getM l key=none)
  (hr:RelX (mapHid m l) Mod F0 w0 st a w) {next:Act→World→Prop}
  (hK:∀a' w',RelX (mapHid m (l++[(key,r)])) Mod F0 w0 ((st.lock [id]).put o.dst .top) a' w'→next a' w'):o.wp P a w next Q:=by
 obtain ⟨hd,hn,F,ρ,hR,hE,hH,hb⟩:=hr
 have hH0:=hH
 obtain ⟨es,clock,hm,hst,hes⟩:=hH0
 have e1:a.eval x=.map (some m):=Zi8 (Zb9 hR hx)
 have e3:a.eval k=.int .i64 key:=ZaY (Zb9 hR hkey)
 have hmb:=hb m (by simp[mapHid])
 have e4:=Zb9 hR hv
 generalize hve:a.eval v=u at e4
 obtain ⟨F1,hR1,hE1,href1,hF1⟩:=Zj0 [id] hR
 have hdat:LRep F1 w (.sl (.int .i64)) r [u]:=by
  have:=ZyX hR (x:=.own id ver none) (y:=.d (.sl (.int .i64)) r) (is:=[id]) (by unfold toData;simp only[ho];rfl) e4 (hE1.keeps hR.low) href1 hF1
  cases this with
  | d _ _ _ h=>exact h
 have hmF1:¬F1 m:=fun hF=>(hE1.new m hF).elim hmb.1 fun hm'=>hm'.2 (by simp[mapHid])
 obtain ⟨d,hdd⟩:=Zev hk
 have hck:=Zf1 (w:=w) (kt:=.int .i64) (key:=key) hdd hk false
 let w':World:= { w with heap:=w.heap.setIfInBounds m (.map (es.push { key:=.int .i64 key,val:=u,born:=clock }) (clock+1)) }
 have hrun:(execOp a.eval o).run P w=.ok .skip w':=by
  rcases ZF4 (w:=w) (F:=F) hdd hk key l es.toList 0 hes with ⟨a1,a2⟩ | ⟨r',i,v',a1,a2,a3⟩
  ·have hfk:=Zdf (P:=P) (w:=w) hdd a2
   simp only[execOp,hop,e1,e3,hve,Instr.mapUpdate,Sem.run_bind,run_underlying hu,Result.andThen_ok]
   simp only[leafV] at hck
   simp only[getObj,Sem.run,hm,Sem.run_bind,Result.andThen_ok,Sem.run_pure,hck,hfk,setObj]
   rfl
  ·rw[hnone] at a1;cases a1
 unfold Oper.wp
 rw[hrun]
 have hml:m < w.heap.size:=hmb.2.2
 have hsame:∀c,c≠m→w'.heap[c]? =w.heap[c]?:=fun c hc=>by simp[w',Array.getElem?_setIfInBounds_ne (Ne.symm hc)]
 have hsz:w'.heap.size=w.heap.size:=by simp[w']
 have hE3:Evo (fun c=>c=m) F1 w F1 w':=⟨rfl,rfl,rfl,by omega,fun _ h=>h,fun _ h=>.inl h,fun c _ hF=>hsame c fun e=>hF.elim (fun hF=>hmF1 (e▸hF)) fun hn=>hn e⟩
 have hR1':R Mod F1 ρ w (st.lock [id]) a.tmps:=hR1.mod (fun b hh=>(hR1.hi b hh).1) fun _ _ _ _ _ _ _ h=>h.1
 have hheld:∀c,held (st.lock [id]) ρ c→c≠m:=fun c ⟨i,vi,oi,k1,k2,k3⟩ e=>by
  obtain ⟨q1,q2,q3,_⟩:=hR1.sep i vi oi c k1 k2 k3
  exact q2.2 (by simp[mapHid,e])
 obtain ⟨hR2,hE4⟩:=hR1'.world hE3 (fun c hc=>hc▸hmb.2.1) (fun c hh hc=>hheld c hh hc) (fun c hc=>by rw[hsz];exact hR1.low c hc)
 have hR3:R (Mh Mod [m]) F1 ρ w' (st.lock [id]) a.tmps:=hR2.mod (fun c hh=>⟨hR2.hi c hh,by rw[hsz] at hh;simp;omega⟩) fun i vi oi c k1 k2 k3 hm=>⟨hm,by
  have:=hheld c ⟨i,vi,oi,k1,k2,k3⟩
  simpa using this⟩
 have hk3:Keeps F1 w F1 w':=hE3.keeps hR1.low
 refine hK _ _ ⟨by rw[Zaf];exact hd,by simp[mapHid],F1,ρ,R.put (a:=a) hR3 (.top _) o.dst,(hE.trans (hE1.mod fun b hb=>hb.1)).trans hE4,⟨es.push { key:=.int .i64 key,val:=u,born:=clock },clock+1,?_,?_,?_⟩,fun c hc=>?_⟩
 ·simp[w',hml]
 ·refine ⟨fun c hc=>?_,?_⟩
  ·rw[Array.toList_push,List.map_append] at hc
   rcases List.mem_append.1 hc with hc | hc
   ·exact Nat.lt_succ_of_lt (hst.1 c hc)
   ·simp at hc;omega
  ·rw[Array.toList_push,List.map_append,List.nodup_append]
   exact ⟨hst.2,by simp,fun x hx y hy=>by simp at hy;have:=hst.1 x hx;omega⟩
 ·rw[Array.toList_push]
  exact MapOf.push rfl (hdat.keep hk3) ((hes.keep (hE1.keeps hR.low)).keep hk3)
 ·simp only[mapHid,List.mem_singleton] at hc
  subst hc
  exact ⟨hmF1,hmb.2.1,by rw[hsz];exact hml⟩
end
end Go.Ev
end

/- Part of the proof of: A program that the book makes, with one thing of it changed and then another one, may be by the code exactly when it may be by the document: for every input the law answers true. -/
import Derived.ChangeKeysEq
import Derived.Test.YtfjbbffkibcijaaDoorEng0
set_option maxRecDepth 100000
set_option linter.unusedSectionVars false
set_option linter.unusedVariables false
set_option linter.unusedSimpArgs false
section
namespace Go.Ev
variable [Tabs] [Orgs]
open Go
section
variable {P:Program} {Mod:Nat→Prop} {o:Oper} {st:St} {F:Nat→Prop} {ρ:Rho} {w:World}
theorem Ztm {cl:Cl} {T:TypeId} {x k v:Operand} (h:o.op=.mapUpdate T x k v):Sat (opA P cl o st) (OpOK P Mod o st):=by
 simp only[opA,h]
 split
 ·rename_i K V id ver hu hx
  split
  ·rename_i kt vt l ho
   split
   ·rename_i key val hkey hval
    split at hval
    ·rename_i hl
     rw[Bool.and_eq_true] at hl
     obtain ⟨hlv,hlk⟩:=hl
     obtain ⟨d,hd⟩:=Zkl hlk
     refine Sat.pure ?_
     intro F ρ w a Q hR hdef
     have hf:=Zw.1 ho
     obtain ⟨r,es,clock,e1,e2,hh,l0,hperm,hnd,hes,hst1,hst2⟩:=Zp2 hR hx ho
     obtain ⟨hlkt,e3⟩:=Ztj hkey (Zt hR k)
     have e4:a.eval v=leafV vt val:=Zso hlv (Za4 hval (.cons (Zt hR v) .nil))
     have hck:=Zl3 (w:=w) (key:=key) hd hlk false
     have hrl:r < w.heap.size:=(Array.getElem?_eq_some_iff.1 hh).1
     have hend:∀(ob:Go.Obj) (es':Array MapEntry) (clock':Nat),ob=.map es' clock'→es'.toList.map (fun e=>(e.key,e.val))=(mput key val l0).map (fun x=>(leafV kt x.1,leafV vt x.2))→Stamps es' clock'→
       (execOp a.eval o).run P w=.ok .skip { w with heap:=w.heap.setIfInBounds r ob } →o.wp P a w (OpPost Mod F w ((st.setOb id ver (.map kt vt (mput key val l))).put o.dst .top)) Q:=by
      intro ob es' clock' hob hes' hst' hrun
      subst hob
      unfold Oper.wp
      rw[hrun]
      have hset:=R.set hR (w':= { w with heap:=w.heap.setIfInBounds r (.map es' clock') }) (id:=id) (ver':=ver) (o':=.map kt vt (mput key val l)) (h':=ρ id)
       rfl rfl rfl (by simp) (.inl ⟨_,hf,rfl,trivial⟩)
       (fun k hk hne=>by
        have:r≠k:=fun e=>hne ver _ hf rfl (by rw[e2,e];exact List.mem_singleton.2 rfl)
        simp[Array.getElem?_setIfInBounds_ne this])
       (fun _ b2 hb2=>by
        obtain ⟨s1,s2,s3,_⟩:=hR.sep id ver _ b2 hf rfl hb2
        exact ⟨s1,s2,by simpa using s3,.inr ⟨_,_,hf,rfl,hb2⟩⟩)
       (fun _ _ _ e=>by cases e) ⟨r,es',clock',e2,by simp[hrl],hlkt,hlv,mput key val l0,Zv1 hlkt key val hperm hnd,Zvy hlkt hnd,hes',hst'⟩
      obtain ⟨hR',hE⟩:=hset
      exact ⟨by rw[ZX];exact hdef,F,_,R.put (a:=a) hR' (.top _) o.dst,hE⟩
     rcases ZqT hd hlk key l0 es.toList 0 hes with ⟨a1,a2,a3⟩ | ⟨u,i,e,a1,a2,a4,a5,a6⟩
     ·have hfk:=Zij (P:=P) (w:=w) hd a2
      refine hend _ (es.push { key:=leafV kt key,val:=leafV vt val,born:=clock }) (clock+1) rfl (by rw[a3 val,Array.toList_push,List.map_append,hes];simp) ⟨fun b hb=>?_,?_⟩ ?_
      ·rw[Array.toList_push,List.map_append] at hb
       rcases List.mem_append.1 hb with hb | hb
       ·exact Nat.lt_succ_of_lt (hst1 b hb)
       ·simp at hb;omega
      ·rw[Array.toList_push,List.map_append,List.nodup_append]
       exact ⟨hst2,by simp,fun x hx y hy=>by simp at hy;have:=hst1 x hx;omega⟩
      simp only[execOp,h,e1,e3,e4,Instr.mapUpdate,Sem.run_bind,run_underlying hu,Result.andThen_ok]
      simp only[getObj,Sem.run,hh,Sem.run_bind,Result.andThen_ok,Sem.run_pure,hck,hfk,setObj]
     ·have hfk:=Zij (P:=P) (w:=w) hd a2
      have hi:i < es.size:=by have:=(List.getElem?_eq_some_iff.1 a4).1;simpa using this
      have hei:es[i]? =some e:=by simpa using a4
      have hks:(Instr.keyThatStays (((es[i]?).map (·.key)).getD (leafV kt key)) (leafV kt key)).run P w=.ok (leafV kt key) w:=by
       have hsb:Instr.sameBits 10000 (leafV kt key) (leafV kt key)=true:=by
        cases kt <;> simp only[leafTy] at hlkt <;> first | (cases hlkt;done) | skip
        ·simp[leafV,Instr.sameBits]
        ·simp[leafV,Instr.sameBits]
        ·simp[leafV,Instr.sameBits,beq_toListBytes]
       simp only[hei,Option.map_some,Option.getD_some,a5,Instr.keyThatStays,hsb,if_true,Sem.run_pure]
      refine hend _ (es.modify i fun e=> { e with key:=leafV kt key,val:=leafV vt val }) clock rfl ?_ (show (∀b∈((es.modify i fun e=> { e with key:=leafV kt key,val:=leafV vt val }).toList.map (·.born)),b < clock)∧((es.modify i fun e=> { e with key:=leafV kt key,val:=leafV vt val }).toList.map (·.born)).Nodup from (by
       have:(es.modify i fun e=> { e with key:=leafV kt key,val:=leafV vt val }).toList.map (·.born)=es.toList.map (·.born):=by
        apply List.ext_getElem?
        intro j
        rw[List.getElem?_map,List.getElem?_map,Array.getElem?_toList,Array.getElem?_toList,Array.getElem?_modify]
        split
        ·cases es[j]? <;> rfl
        ·rfl
       rw[this]
       exact ⟨hst1,hst2⟩)) ?_
      ·have:=a6 val { e with key:=leafV kt key,val:=leafV vt val } rfl rfl
       rw[←this]
       congr 1
       apply List.ext_getElem?
       intro j
       rw[Array.getElem?_toList,Array.getElem?_modify]
       by_cases hj:i=j
       ·subst hj
        rw[if_pos rfl,hei,List.getElem?_set_self (by simpa using hi)]
        rfl
       ·rw[if_neg hj,List.getElem?_set_ne hj,Array.getElem?_toList]
      ·simp only[execOp,h,e1,e3,e4,Instr.mapUpdate,Sem.run_bind,run_underlying hu,Result.andThen_ok]
       simp only[getObj,Sem.run,hh,Sem.run_bind,Result.andThen_ok,Sem.run_pure,hck,hfk,Nat.zero_add,hks,setObj]
    ·cases hval
   ·exact Sat.fail
  ·exact Sat.fail
 ·exact Sat.fail
theorem Sat.upto {x:Option Operand} {dfl:Int} :Sat (upto x st dfl) (fun n=>(x=none∧n=dfl)∨∃o k,x=some o∧st.ev o=.d (.int k) n):=by
 unfold Go.Ev.upto
 cases x with
 | none=>exact Sat.pure (.inl ⟨rfl,rfl⟩)
 | some o=>exact Sat.bind Sat.toI fun p hp=>Sat.pure (.inr ⟨o,p.1,rfl,hp⟩)
theorem ZgZ {F:Nat→Prop} {ρ:Rho} {w:World} {a:Act} (hR:R Mod F ρ w st a.tmps) {lo hi:Option Operand} {l h:Int} {len cap:Nat} {isSlice:Bool}
  (hl:(lo=none∧l=0)∨∃o k,lo=some o∧st.ev o=.d (.int k) l) (hh:(hi=none∧h=(len:Int))∨∃o k,hi=some o∧st.ev o=.d (.int k) h) (h0:0≤h) (h1:h≤(cap:Int)) (h2:0≤l) (h3:l≤h):
  (Instr.sliceBounds isSlice len cap (lo.map a.eval) (hi.map a.eval) none).run P w=.ok (l.toNat,h.toNat,cap) w:=by
 have e1:∀o k,hi=some o→st.ev o=.d (.int k) h→a.eval o=.int k h:=fun o k _ ho=>by have:=Zt hR o;rw[ho] at this;exact Zaq this
 have e2:∀o k,lo=some o→st.ev o=.d (.int k) l→a.eval o=.int k l:=fun o k _ ho=>by have:=Zt hR o;rw[ho] at this;exact Zaq this
 have hl':(lo=none∧l=0)∨∃o k,lo=some o∧a.eval o=.int k l:=hl.imp id fun ⟨o,k,h1,h2⟩=>⟨o,k,h1,e2 o k h1 h2⟩
 have hh':(hi=none∧h=(len:Int))∨∃o k,hi=some o∧a.eval o=.int k h:=hh.imp id fun ⟨o,k,h1,h2⟩=>⟨o,k,h1,e1 o k h1 h2⟩
 have g1:(0:Int)≤h∧h≤(cap:Int):=⟨h0,h1⟩
 have g2:(0:Int)≤l∧l≤((h.toNat:Nat):Int):=⟨h2,by omega⟩
 clear hl hh e1 e2
 rcases hh' with ⟨rfl,rfl⟩ | ⟨o,k,rfl,ho⟩ <;> rcases hl' with ⟨rfl,rfl⟩ | ⟨o',k',rfl,ho'⟩
 ·simp[Instr.sliceBounds]
 ·rw[Int.toNat_natCast] at g2
  simp[Instr.sliceBounds,Instr.sliceBound,asIntOf,ho',g2]
 ·simp[Instr.sliceBounds,Instr.sliceBound,asIntOf,ho,g1]
 ·simp[Instr.sliceBounds,Instr.sliceBound,asIntOf,ho,ho',g1]
  intro hc
  exact absurd (hc h2) (by omega)
theorem ZkY {e:TypeId} {t:Ty} (h:okSize P e t=true):szOf P e=some t.cells:=by
 unfold okSize at h
 split at h
 ·rename_i z hz;rw[hz,Nat.eq_of_beq_eq_true h]
 ·cases h
theorem LRep.piece {F:Nat→Prop} {w:World} {t:Ty} {l:List (El t)} {A:Option Addr} {c h lo:Nat} (hl:LRep F w (.sl t) l [.slice A l.length c]) (hh:h≤l.length) (hlo:lo≤h):
  LRep F w (.sl t) ((l.take h).drop lo) [.slice (if c=lo then A else A.map (·.add (lo*t.cells))) (h - lo) (c - lo)]:=by
 obtain ⟨A',c',e,hc,hall⟩:=hl
 simp only[List.cons.injEq,Value.slice.injEq,and_true,true_and] at e
 obtain ⟨rfl,rfl⟩:=e
 have hlen:List.length ((l.take h).drop lo)=h - lo:=by rw[List.length_drop,List.length_take,Nat.min_eq_left hh]
 refine ⟨(if c=lo then A else A.map (·.add (lo*t.cells))),c - lo,by rw[hlen],by rw[hlen];omega,fun i x hx=>?_⟩
 rw[List.getElem?_drop,List.getElem?_take] at hx
 split at hx
 ·rename_i hlt
  obtain ⟨ad,cs,rfl,hF,h1,h2⟩:=hall _ x hx
  refine ⟨ad.add (lo*t.cells),cs,?_,by rw[Addr.add_block];exact hF,h1,?_⟩
  ·rw[if_neg (by omega)];rfl
  ·rw[Addr.add_add,←Nat.add_mul];exact h2
 ·cases hx
theorem Zyv {T:TypeId} {x lo:Operand} {hi:Option Operand} (h:o.op=.slice T x (some lo) hi none) {e:TypeId} (hu:P.underlying T=some (.slice e)) {t:Ty} (hsz:szOf P e=some t.cells) {id ver:Nat} {pre:Option Nat} (hx:st.ev x=.own id ver pre)
  {E:TypeId} {l:List (El t)} {lk:Bool} (ho:st.obj id ver=some (.row E t l lk)) (hpop:isPop lo hi pre lk=true):
  Sat (fun k=>bif Nat.ble 1 (List.length l) then ((M.pure ((st.setOb id (ver+1) (.row E t (l.drop 1) false)).put o.dst (.own id (ver+1) none)):M St) k) else none) (OpOK P Mod o st):=by
 refine Sat.guard fun hl=>Sat.pure ?_
 have hl:=Nat.le_of_ble_eq_true hl
 unfold isPop at hpop
 simp only[Bool.and_eq_true,Bool.not_eq_true',Option.isNone_iff_eq_none] at hpop
 obtain ⟨⟨⟨h1,rfl⟩,rfl⟩,rfl⟩:=hpop
 have hlo:lo=.const (.int .i64 1):=by
  unfold isOne at h1
  split at h1
  ·simp only[beq_iff_eq] at h1
   rw[h1]
  ·cases h1
 subst hlo
 have hf:=Zw.1 ho
 intro F ρ w a Q hR hdef
 have h1:=Zt hR x
 rw[hx] at h1
 generalize hu':a.eval x=u at h1
 cases h1 with
 | own _ _ _ _ hbn h2 hp=>
  obtain ⟨hn,A,c,hρ,rfl⟩:=hp E t l false ho
  simp only[Option.getD_none] at hu'
  obtain ⟨cells,hown,hcl⟩:=hR.obs id ver _ hf
  rw[hρ] at hown
  rcases hown.2 with ⟨_,h4⟩ | ⟨g,off,cap,cur,h3,hh,hnc,hcm,hcs,htk⟩
  ·omega
  cases h3
  have hrun:(execOp a.eval o).run P w=.ok (.value (.slice (if c=1 then some ⟨g,off,none⟩ else some ⟨g,off+t.cells,none⟩) (l.length - 1) (c - 1))) w:=by
   have hbr:=ZgZ (P:=P) (w:=w) (isSlice:=true) (len:=l.length) (cap:=c) hR (lo:=some (.const (.int .i64 1))) (hi:=none) (l:=1) (h:=(l.length:Int)) (.inr ⟨_,.i64,rfl,rfl⟩) (.inl ⟨rfl,rfl⟩) (by omega) (by omega) (by decide) (by omega)
   have gexec:execOp a.eval o=(do pure (.value (←Instr.sliceAt T (a.eval x) (some (a.eval (.const (.int .i64 1)))) none none)):Sem Next):=by simp[execOp,h]
   rw[gexec,hu']
   simp only[Option.map_some,Option.map_none] at hbr
   simp only[Instr.sliceAt,Sem.run_bind,run_underlying hu,Result.andThen_ok,Instr.slice,hbr,ZP hsz,Sem.run_pure]
   by_cases hc:c=1
   ·subst hc
    simp
   ·have:¬c=Int.toNat 1:=hc
    rw[if_neg this,if_neg hc]
    simp only[Option.map_some,Z7]
    simp
  unfold Oper.wp
  rw[hrun]
  show OpPost Mod F w _ (a.put o.dst _) w
  obtain ⟨v',hv'⟩:∃v',Value.slice (if c=1 then some ⟨g,off,none⟩ else some ⟨g,off+t.cells,none⟩) (l.length - 1) (c - 1)=v':=⟨_,rfl⟩
  have hd1:List.length (l.drop 1)=l.length - 1:=List.length_drop
  have hbv:hb v'=[g]:=by rw[←hv'];split <;> rfl
  have hown':ownsAt w E t.cells v' (List.length (l.drop 1)) (cells.drop t.cells):=by
   refine ⟨by rw[List.length_drop,hown.1,hd1,Nat.sub_mul,Nat.one_mul],.inr ?_⟩
   rw[hd1]
   by_cases hc:c=1
   ·refine ⟨g,off,c - 1,cur,by rw[←hv',if_pos hc],hh,by omega,by omega,?_,?_⟩
    ·have:(c - 1)*t.cells≤c*t.cells:=Nat.mul_le_mul_right _ (by omega)
     omega
    ·have e1:l.length - 1=0:=by omega
     have e2:l.length=1:=by omega
     rw[e1,Nat.zero_mul,List.take_zero,List.drop_eq_nil_of_le (by rw[hown.1,e2,Nat.one_mul];exact Nat.le_refl _)]
   ·refine ⟨g,off+t.cells,c - 1,cur,by rw[←hv',if_neg hc],hh,by omega,by omega,?_,?_⟩
    ·have:(c - 1)*t.cells+t.cells=c*t.cells:=by rw[←Nat.succ_mul];congr 1;omega
     omega
    ·rw[←htk,List.drop_take,List.drop_drop,Nat.sub_mul,Nat.one_mul]
  have hset:=R.set hR (w':=w) (id:=id) (ver':=ver+1) (o':=.row E t (l.drop 1) false) (h':=v') rfl rfl rfl (Nat.le_refl _) (.inr (by rw[St.nextVer,hf]))
   (fun _ _ _=>rfl)
   (fun _ b hb2=>by
    rw[hbv] at hb2
    obtain rfl:=List.mem_singleton.1 hb2
    obtain ⟨s1,s2,s3,_⟩:=hR.sep id ver _ _ hf rfl (by rw[hρ];exact List.mem_singleton.2 rfl)
    exact ⟨s1,s2,s3,.inr ⟨_,_,hf,rfl,by rw[hρ];exact List.mem_singleton.2 rfl⟩⟩)
   (fun _ _ _ e=>by cases e) ⟨cells.drop t.cells,hown',fun i y hy=>?_⟩
  ·obtain ⟨hR',hE⟩:=hset
   rw[hv']
   refine ⟨by rw[ZX];exact hdef,F,_,R.put (a:=a) hR' (.own _ _ _ _ ZcJ (by rw[←hv'];rfl) fun E' t' l' lk' ho'=>?_) o.dst,hE⟩
   rw[ZlH] at ho'
   cases ho'
   refine ⟨fun n e=>(by cases e),?_⟩
   simp only[updR,if_true,Option.getD_none]
   rw[hd1]
   exact ⟨_,_,hv'.symm,hv'.symm⟩
  ·rw[List.getElem?_drop] at hy
   obtain ⟨cs,a1,a2⟩:=hcl (1+i) y hy
   refine ⟨cs,a1.keep (Keeps.refl _ _),fun j u hu=>?_⟩
   rw[List.getElem?_drop,show t.cells+(i*t.cells+j)=(1+i)*t.cells+j by rw[Nat.add_mul];omega]
   exact a2 j u hu
theorem Zxm {cl:Cl} {T:TypeId} {x:Operand} {lo hi:Option Operand} (h:o.op=.slice T x lo hi none):Sat (opA P cl o st) (OpOK P Mod o st):=by
 simp only[opA,h]
 have gexec:∀(a:Act),execOp a.eval o=(do pure (.value (←Instr.sliceAt T (a.eval x) (lo.map a.eval) (hi.map a.eval) none)):Sem Next):=fun a=>by simp[execOp,h]
 split
 ·rename_i s hx hu
  refine Sat.bind Sat.upto fun l hl=>Sat.bind Sat.upto fun hh hhh=>Sat.guard fun hb=>?_
  simp only[Bool.and_eq_true,decide_eq_true_eq] at hb
  obtain ⟨⟨⟨b1,b2⟩,b3⟩,b4⟩:=hb
  refine Sat.pure (ZG fun F ρ w a hR=>⟨.string (s.extract l.toNat hh.toNat),?_,.d _ _ _ rfl⟩)
  have h1:=Zt hR x
  rw[hx] at h1
  have hbr:=ZgZ (P:=P) (w:=w) (isSlice:=false) (len:=s.size) (cap:=s.size) hR hl hhh b1 b2 b3 b4
  rw[gexec]
  simp only[Instr.sliceAt,Sem.run_bind,run_underlying hu,Result.andThen_ok,Instr.slice,Zgz h1,Option.isSome_none,Bool.false_eq_true,if_false,hbr,Sem.run_pure]
 ·rename_i t s e hx hu
  refine Sat.cond (fun hok=>?_) fun _=>Sat.fail
  have hsz:=ZkY hok
  refine Sat.bind Sat.upto fun l hl=>Sat.bind Sat.upto fun hh hhh=>Sat.guard fun hb=>?_
  simp only[Bool.and_eq_true,decide_eq_true_eq] at hb
  obtain ⟨⟨⟨b1,b2⟩,b3⟩,b4⟩:=hb
  refine Sat.pure (ZG fun F ρ w a hR=>?_)
  have h1:=Zt hR x
  rw[hx] at h1
  generalize hu':a.eval x=u at h1
  cases h1 with
  | d _ _ _ hl'=>
   have hl2:=hl'
   obtain ⟨A,c,e1,hc,_⟩:=hl'
   simp only[List.cons.injEq,and_true] at e1
   subst e1
   have hbr:=ZgZ (P:=P) (w:=w) (isSlice:=true) (len:=List.length s) (cap:=c) hR hl hhh b1 (by omega) b3 b4
   refine ⟨_,?_,.d _ _ _ (LRep.piece hl2 (h:=hh.toNat) (lo:=l.toNat) (by omega) (by omega))⟩
   rw[gexec,hu']
   simp only[Instr.sliceAt,Sem.run_bind,run_underlying hu,Result.andThen_ok,Instr.slice,hbr,ZP hsz,Sem.run_pure]
 ·rename_i id ver pre e hx hu
  split
  ·rename_i E t l lk ho
   refine Sat.cond (fun hok=>?_) fun _=>Sat.fail
   have hsz:=ZkY hok
   refine Sat.bind Sat.upto fun hh hhh=>Sat.guard fun hb=>?_
   simp only[Bool.and_eq_true,decide_eq_true_eq] at hb
   obtain ⟨b1,b2⟩:=hb
   refine Sat.pure (ZG fun F ρ w a hR=>?_)
   have h1:=Zt hR x
   rw[hx] at h1
   generalize hu':a.eval x=u at h1
   cases h1 with
   | own _ _ _ _ hbn h2 hp=>
    obtain ⟨hn,A,c,hρ,rfl⟩:=hp E t l lk ho
    obtain ⟨cells,hown,_⟩:=hR.obs id ver _ (Zw.1 ho)
    have hlc:l.length≤c:=by
     rcases hown.2 with ⟨h3,h4⟩ | ⟨g,off,cap,cur,h3,_,h4,_⟩
     ·omega
     ·rw[hρ] at h3;cases h3;exact h4
    have hpl:pre.getD l.length≤l.length:=by
     cases pre with
     | none=>exact Nat.le_refl _
     | some n=>exact hn n rfl
    rw[Zrr] at b2 hhh
    have hbr:=ZgZ (P:=P) (w:=w) (isSlice:=true) (len:=pre.getD l.length) (cap:=c) hR (lo:=none) (l:=0) (.inl ⟨rfl,rfl⟩) hhh b1 (by omega) (Int.le_refl _) b1
    refine ⟨.slice A hh.toNat c,?_,.own _ _ _ _ hbn rfl fun E' t' l' lk' ho'=>?_⟩
    ·rw[gexec,hu']
     simp only[Option.map_none] at hbr
     have hA:(if c=(0:Int).toNat then A else A.map (·.add ((0:Int).toNat*t.cells)))=A:=by
      cases A <;> simp[Addr.add]
     simp only[Instr.sliceAt,Sem.run_bind,run_underlying hu,Result.andThen_ok,Instr.slice,Option.map_none,hbr,ZP hsz,Sem.run_pure,hA]
     simp
    ·rw[ho] at ho'
     cases ho'
     exact ⟨fun n e=>by cases e;omega,A,c,hρ,rfl⟩
  ·rename_i E t l lk lo' ho
   refine Sat.cond (fun hok=>?_) fun _=>Sat.fail
   have hsz:=ZkY hok
   refine Sat.cond (fun hpop=>?_) fun _=>?_
   ·exact Zyv h hu hsz hx ho hpop
   refine Sat.bind Sat.upto fun lv hlv=>Sat.bind Sat.upto fun hh hhh=>Sat.guard fun hb=>?_
   simp only[Bool.and_eq_true,decide_eq_true_eq] at hb
   obtain ⟨⟨⟨b1,b2⟩,b3⟩,b4⟩:=hb
   refine Sat.pure ?_
   intro F ρ w a Q hR hdef
   obtain ⟨F1,hR1,hE1,hr1,hF1⟩:=ZbO [id] hR
   have hk1:Keeps F w F1 w:=⟨hE1.more,fun _ _=>rfl⟩
   have hf:=Zw.1 ho
   have h1:=Zt hR x
   rw[hx] at h1
   generalize hu':a.eval x=u at h1
   cases h1 with
   | own _ _ _ _ hbn h2 hp=>
    obtain ⟨hn,A,c,hρ,rfl⟩:=hp E t l lk ho
    have hrow:RowRep F w E t l (ρ id):=hR.obs id ver _ hf
    have hown:=hrow
    obtain ⟨cells,hown,_⟩:=hown
    have hlc:l.length≤c:=by
     rcases hown.2 with ⟨h3,h4⟩ | ⟨g,off,cap,cur,h3,_,h4,_⟩
     ·omega
     ·rw[hρ] at h3;cases h3;exact h4
    have hpl:pre.getD l.length≤l.length:=by
     cases pre with
     | none=>exact Nat.le_refl _
     | some n=>exact hn n rfl
    rw[Zrr] at b2 hhh
    have hbr:=ZgZ (P:=P) (w:=w) (isSlice:=true) (len:=pre.getD l.length) (cap:=c) hR (lo:=some lo') hlv hhh b1 (by omega) b3 b4
    have hdat:=hrow.data hk1.more (hF1 id (by simp) ver _ hf rfl) hρ (Nat.le_refl _)
    rw[List.take_length] at hdat
    have hpc:=LRep.piece hdat (h:=hh.toNat) (lo:=lv.toNat) (by omega) (by omega)
    have hrun:(execOp a.eval o).run P w=.ok (.value (.slice (if c=lv.toNat then A else A.map (·.add (lv.toNat*t.cells))) (hh.toNat - lv.toNat) (c - lv.toNat))) w:=by
     rw[gexec,hu']
     simp only[Instr.sliceAt,Sem.run_bind,run_underlying hu,Result.andThen_ok,Instr.slice,hbr,ZP hsz,Sem.run_pure]
    unfold Oper.wp
    rw[hrun]
    exact ⟨by rw[ZX];exact hdef,F1,_,R.put (a:=a) hR1 (.d _ _ _ hpc) o.dst,hE1⟩
  ·exact Sat.fail
 ·exact Sat.fail
end
end Go.Ev
end

section
namespace Go.Ev
variable [Tabs] [Orgs]
open Go
section
variable {P:Program} {Mod:Nat→Prop} {o:Oper} {st:St} {F:Nat→Prop} {ρ:Rho} {w:World}
theorem Zp7 {cs:List AV} {u:Value} (h:ARep F ρ w st (.ag cs) u):∃us:Array Value,u=.agg us∧CsRep F ρ w st cs us.toList:=by
 generalize hx:AV.ag cs=x at h
 cases h with
 | ag cs' us hl hall=>
  cases hx
  exact ⟨us,rfl,by simpa using hl,fun i c v h1 h2=>hall i c v h1 (by simpa using h2)⟩
 | _=>cases hx
theorem ZuN:∀(n:Nat) {t:TypeId} {x y:AV} {r:Bool} {u v:Value},eqT P n t x y=some r→ARep F ρ w st x u→ARep F ρ w st y v→∀d,n≤d→(Op.equalIn d t u v).run P w=.ok r w
 | 0,_,_,_,_,_,_,h,_,_,_,_=>by cases h
 | n+1,t,x,y,r,u,v,h,hx,hy,d,hd=>by
  obtain ⟨d,rfl⟩:∃e,d=e+1:=⟨d - 1,by omega⟩
  unfold eqT at h
  split at h
  ·rename_i fs xs ys hu
   cases hst:P.stoodInHeld t with
   | true=>rw[hst] at h;cases h
   | false=>
    rw[hst] at h
    simp only[cond_false] at h
    obtain ⟨us,rfl,hus⟩:=Zp7 hx
    obtain ⟨vs,rfl,hvs⟩:=Zp7 hy
    have hf:P.fieldsOf t=fs:=by simp[Program.fieldsOf,hu]
    rw[run_equalIn_struct (P:=P) w d t us vs (by rw[hf];exact hu) hst,hf]
    clear hu hx hy
    have key:∀(l:List Field) (r:Bool),eqT.eqFs P (eqT P n) xs ys l=some r→(Op.eqFields d us vs l).run P w=.ok r w:=by
     intro l
     induction l with
     | nil=>intro r h;simp only[eqT.eqFs,Option.some.injEq] at h;subst h;simp[Op.eqFields]
     | cons f fs ih=>
      intro r h
      rw[eqT.eqFs] at h
      cases hn:(f.name== "_") with
      | true=>
       rw[hn] at h
       simp only[cond_true] at h
       have hn':¬(f.name≠ "_"):=by simpa using hn
       rw[Op.eqFields,if_neg hn']
       exact ih r h
      | false=>
       rw[hn] at h
       have hn':f.name≠ "_" :=by simpa using hn
       simp only[cond_false] at h
       obtain ⟨a,ha,h⟩:=Option.bind_eq_some_iff.1 h
       obtain ⟨b,hb,h⟩:=Option.bind_eq_some_iff.1 h
       obtain ⟨c,hc,h⟩:=Option.bind_eq_some_iff.1 h
       obtain ⟨pa,hpa,hra⟩:=Zj6 (P:=P) ha hus
       obtain ⟨pb,hpb,hrb⟩:=Zj6 (P:=P) hb hvs
       have he:=ZuN n hc hra hrb d (by omega)
       rw[Op.eqFields]
       simp only[if_pos hn',Sem.run_bind,hpa,hpb,he,Result.andThen_ok]
       cases fs with
       | nil=>
        simp only[Option.some.injEq] at h
        subst h
        cases c <;> simp[Op.eqFields]
       | cons g fs=>
        simp only[Option.map_eq_some_iff] at h
        obtain ⟨s,hs,rfl⟩:=h
        have:=ih s hs
        cases c
        ·simp
        ·simpa using this
    exact key _ _ h
  ·rename_i m e xs ys hu
   cases hm:Nat.ble m 16 with
   | false=>rw[hm] at h;cases h
   | true=>
    rw[hm] at h
    simp only[cond_true] at h
    obtain ⟨z,hz,h⟩:=Option.bind_eq_some_iff.1 h
    obtain ⟨us,rfl,hus⟩:=Zp7 hx
    obtain ⟨vs,rfl,hvs⟩:=Zp7 hy
    obtain ⟨i,hi,hiz⟩:=Option.map_eq_some_iff.1 hz
    have hc:P.cellsOf e=z:=by simp[Program.cellsOf,hi,hiz]
    rw[run_equalIn_array w d us vs hu hi,hc]
    clear hu hx hy
    have key:∀(l:List Nat) (r:Bool),eqT.eqIs P (eqT P n) e z xs ys l=some r→(Op.eqItems d e z us vs l).run P w=.ok r w:=by
     intro l
     induction l with
     | nil=>intro r h;simp only[eqT.eqIs,Option.some.injEq] at h;subst h;simp[Op.eqItems]
     | cons f fs ih=>
      intro r h
      rw[eqT.eqIs] at h
      obtain ⟨a,ha,h⟩:=Option.bind_eq_some_iff.1 h
      obtain ⟨b,hb,h⟩:=Option.bind_eq_some_iff.1 h
      obtain ⟨c,hc,h⟩:=Option.bind_eq_some_iff.1 h
      obtain ⟨pa,hpa,hra⟩:=Zj6 (P:=P) ha hus
      obtain ⟨pb,hpb,hrb⟩:=Zj6 (P:=P) hb hvs
      have he:=ZuN n hc hra hrb d (by omega)
      rw[Op.eqItems]
      simp only[Sem.run_bind,hpa,hpb,he,Result.andThen_ok]
      cases fs with
      | nil=>
       simp only[Option.some.injEq] at h
       subst h
       cases c <;> simp[Op.eqItems]
      | cons g fs=>
       simp only[Option.map_eq_some_iff] at h
       obtain ⟨s,hs,rfl⟩:=h
       have:=ih s hs
       cases c
       ·simp
       ·simpa using this
    exact key _ _ h
  ·rename_i k' k a k2 b hu
   split at h
   ·rename_i hk
    subst hk
    cases h
    rw[Zaq hx,Zaq hy]
    exact run_equalIn_int w d t _ _ _ _ hu
   ·cases h
  ·rename_i a b hu
   cases h
   rw[Zcq hx,Zcq hy]
   exact run_equalIn_bool' w d t _ _ hu
  ·rename_i a b hu
   cases h
   rw[Zgz hx,Zgz hy,←ByteArray.toList_eq,←ByteArray.toList_eq]
   exact run_equalIn_string w d t _ _ hu
  ·cases h
def noNum:Value→Bool
 |.int _ _ |.string _ |.float _ _ |.complex _ _ _ |.agg _ |.nilIface=>false
 | _=>true
theorem Zwc {T:TypeId} {x y:AV} {r:Bool} {u v:Value} {tm:Array Value} (hR:R Mod F ρ w st tm) (h:isNil P T st x y=some r) (hx:ARep F ρ w st x u) (hy:ARep F ρ w st y v):
  (∀d,(Op.equalIn (d+1) T u v).run P w=.ok r w)∧noNum u=true:=by
 unfold isNil at h
 split at h
 ·rename_i hu
  cases h;cases hx;cases hy
  exact ⟨fun d=>by simp[Op.equalIn,run_underlying hu],rfl⟩
 ·rename_i id ver off hu
  cases hl:isNil.liveBox st id ver with
  | false=>rw[hl] at h;cases h
  | true=>
   rw[hl] at h
   cases h
   unfold isNil.liveBox at hl
   split at hl
   ·rename_i T' cs ho
    cases hx with
    | pt _ _ _ _ _ _ hp=>
     obtain ⟨b,_,rfl⟩:=hp _ ho
     cases hy
     exact ⟨fun d=>by simp[Op.equalIn,run_underlying hu],rfl⟩
   ·cases hl
 ·rename_i hu
  cases h;cases hx;cases hy
  exact ⟨fun d=>by simp[Op.equalIn,run_underlying hu],rfl⟩
 ·rename_i id ver hu
  split at h
  ·rename_i kt vt l ho
   cases h
   cases hx with
   | mp _ _ _ _ _ hp=>
    obtain ⟨m,es,clock,e,hh,_⟩:=hR.obs id ver _ (Zw.1 ho)
    obtain rfl:=(hp _ ho).trans e
    cases hy
    exact ⟨fun d=>by simp[Op.equalIn,run_underlying hu],rfl⟩
  ·cases h
 ·rename_i hu
  cases h;cases hx;cases hy
  exact ⟨fun d=>by simp[Op.equalIn,run_underlying hu],rfl⟩
 ·rename_i hu
  cases h;cases hx;cases hy
  exact ⟨fun d=>by simp[Op.equalIn,run_underlying hu],rfl⟩
 ·cases h
theorem ZxK {op:BinOp} {T T':TypeId} {x y:Operand} {a b:Bool} (h:o.op=.binOp op T x y T') (hx:st.ev x=.d .bool a) (hy:st.ev y=.d .bool b):
  Sat (match op,P.underlying T with
  |.eql,some .bool=>M.pure (mkB (a==b))
  |.neq,some .bool=>M.pure (mkB (!(a==b)))
  | _,_=>fail) (Yields1 P Mod o st):=by
 have hb:∀F ρ w (ac:Act),R Mod F ρ w st ac.tmps→ac.eval x=.bool a∧ac.eval y=.bool b:=fun F ρ w ac hR=>by
  have h1:=Zt hR x
  have h2:=Zt hR y
  rw[hx] at h1
  rw[hy] at h2
  exact ⟨Zcq h1,Zcq h2⟩
 have he:∀w,P.underlying T=some .bool→(Op.equal T (.bool a) (.bool b)).run P w=.ok (a==b) w:=fun w hu=>run_equalIn_bool' w 9999 T a b hu
 split
 ·rename_i hu
  refine Sat.pure fun F ρ w ac hR=>⟨.bool (a==b),?_,Zc3 _⟩
  obtain ⟨e1,e2⟩:=hb F ρ w ac hR
  simp only[execOp,h,e1,e2,eqGuard,Go.binOp,Sem.run_bind]
  simp[he w hu]
 ·rename_i hu
  refine Sat.pure fun F ρ w ac hR=>⟨.bool (!(a==b)),?_,Zc3 _⟩
  obtain ⟨e1,e2⟩:=hb F ρ w ac hR
  simp only[execOp,h,e1,e2,eqGuard,Go.binOp,Sem.run_bind]
  simp[he w hu]
 ·exact Sat.fail
theorem Zyx {cl:Cl} {op:BinOp} {T T':TypeId} {x y:Operand} (h:o.op=.binOp op T x y T'):Sat (opA P cl o st) (OpOK P Mod o st):=by
 simp only[opA,h]
 refine Sat.bind (p:=Yields1 P Mod o st) ?_ fun v hv=>Sat.pure (ZG hv)
 unfold binA
 split
 ·rename_i k a k' b hx hy
  exact Zye h hx hy
 ·rename_i a b hx hy
  exact Zyi h hx hy
 ·rename_i a b hx hy
  exact ZxK h hx hy
 ·rename_i xs ys hx hy
  refine Sat.cond (fun _=>Sat.fail) fun hg=>?_
  have hb:∀r,eqT P 20 T (.ag xs) (.ag ys)=some r→∀F ρ w (ac:Act),R Mod F ρ w st ac.tmps→∃us vs,ac.eval x=.agg us∧ac.eval y=.agg vs∧(Op.equalIn 10000 T (.agg us) (.agg vs)).run P w=.ok r w:=fun r hr F ρ w ac hR=>by
   have h1:=Zt hR x
   have h2:=Zt hR y
   rw[hx] at h1
   rw[hy] at h2
   obtain ⟨us,e1,_⟩:=Zp7 h1
   obtain ⟨vs,e2,_⟩:=Zp7 h2
   refine ⟨us,vs,e1,e2,?_⟩
   rw[←e1,←e2]
   exact ZuN 20 hr h1 h2 10000 (by omega)
  split
  ·rename_i r hr
   refine Sat.pure fun F ρ w ac hR=>⟨.bool r,?_,Zc3 _⟩
   obtain ⟨us,vs,e1,e2,e3⟩:=hb r hr F ρ w ac hR
   simp only[execOp,h,e1,e2,Sem.run_bind,run_eqGuard_agg w .eql T x y us vs hg,Result.andThen_ok,run_eql_struct,e3,Sem.run_pure]
  ·rename_i r hr
   refine Sat.pure fun F ρ w ac hR=>⟨.bool (!r),?_,Zc3 _⟩
   obtain ⟨us,vs,e1,e2,e3⟩:=hb r hr F ρ w ac hR
   simp only[execOp,h,e1,e2,Sem.run_bind,run_eqGuard_agg w .neq T x y us vs hg,Result.andThen_ok,run_neq_struct,e3,Sem.run_pure]
  ·exact Sat.fail
 ·have hb:∀r,isNil P T st (st.ev x) (st.ev y)=some r→∀F ρ w (ac:Act),R Mod F ρ w st ac.tmps→(execOp ac.eval { o with op:=.binOp .eql T x y T' }).run P w=.ok (.value (.bool r)) w∧(execOp ac.eval { o with op:=.binOp .neq T x y T' }).run P w=.ok (.value (.bool (!r))) w:=fun r hr F ρ w ac hR=>by
   obtain ⟨e1,e2⟩:=Zwc (P:=P) hR hr (Zt hR x) (Zt hR y)
   have e3:(Op.equal T (ac.eval x) (ac.eval y)).run P w=.ok r w:=e1 9999
   clear e1
   constructor
   ·simp only[execOp]
    generalize ac.eval x=u at e2 e3
    generalize ac.eval y=v at e2 e3
    have e4:(eqGuard .eql T x y u v).run P w=.ok () w:=by
     unfold eqGuard
     cases u <;> first | (cases e2;done) | simp | (cases v <;> simp)
    have e5:(Go.binOp .eql T u v).run P w=.ok (.bool r) w:=by
     unfold Go.binOp
     cases u <;> first | (cases e2;done) | (cases v <;> simp[e3])
    simp only[Sem.run_bind,e4,e5,Result.andThen_ok,Sem.run_pure]
   ·simp only[execOp]
    generalize ac.eval x=u at e2 e3
    generalize ac.eval y=v at e2 e3
    have e4:(eqGuard .neq T x y u v).run P w=.ok () w:=by
     unfold eqGuard
     cases u <;> first | (cases e2;done) | simp | (cases v <;> simp)
    have e5:(Go.binOp .neq T u v).run P w=.ok (.bool (!r)) w:=by
     unfold Go.binOp
     cases u <;> first | (cases e2;done) | (cases v <;> simp[e3])
    simp only[Sem.run_bind,e4,e5,Result.andThen_ok,Sem.run_pure]
  split
  ·rename_i r hr
   refine Sat.pure fun F ρ w ac hR=>⟨.bool r,?_,Zc3 _⟩
   have:=(hb r hr F ρ w ac hR).1
   simpa[execOp,h] using this
  ·rename_i r hr
   refine Sat.pure fun F ρ w ac hR=>⟨.bool (!r),?_,Zc3 _⟩
   have:=(hb r hr F ρ w ac hR).2
   simpa[execOp,h] using this
  ·exact Sat.fail
end
end Go.Ev
end

section
namespace Go.Ev
variable [Tabs] [Orgs]
open Go
def ρ0:Rho:=fun _=>undef
def st0:St:=⟨[],[]⟩
inductive TReps (F:Nat→Prop) (w:World):List AV→List Value→List Nat→Prop
 | nil:TReps F w [] [] []
 | top {v r vs L} :TReps F w r vs L→TReps F w (.top :: r) (v :: vs) L
 | flat {x v r vs L} :flatB x=true→ARep F ρ0 w st0 x v→TReps F w r vs L→TReps F w (x :: r) (v :: vs) L
 | ag {cs us L1 r vs L} :TReps F w cs us L1→TReps F w r vs L→TReps F w (.ag cs :: r) (.agg us.toArray :: vs) (L1++L)
 | tu {cs us L1 r vs L} :TReps F w cs us L1→TReps F w r vs L→TReps F w (.tu cs :: r) (.tuple us.toArray :: vs) (L1++L)
 | bx {T b cs us L1 r vs L} :w.heap[b]? =some (.cells us.toArray T (0,0))→TReps F w cs us L1→TReps F w r vs L→TReps F w (.bx T cs :: r) (.pointer (some ⟨b,0,none⟩) :: vs) (b :: (L1++L))
 | rw {E t l v r vs L} :RowRep F w E t l v→TReps F w r vs L→TReps F w (.rw E t l :: r) (v :: vs) ((hb v)++L)
 | dw {E d l v u r vs L} :v=gv (gv u)→(hb u).Nodup→DRow F w E d (gv u) l (hb u)→TReps F w r vs L→TReps F w (.dw E d l :: r) (v :: vs) (hb u++L)
 | mv {kt vt l v r vs L} :MapRep w kt vt l v→TReps F w r vs L→TReps F w (.mv kt vt l :: r) (v :: vs) ((hb v)++L)
section
variable {P:Program} {Mod:Nat→Prop} {st:St} {F:Nat→Prop} {ρ:Rho} {w:World} {tm:Array Value}
theorem Zl5 {x:AV} {v:Value} {st':St} {ρ':Rho} (hx:leafB x=true) (h:ARep F ρ w st x v):ARep F ρ' w st' x v:=by
 cases x <;> simp only[leafB] at hx <;> first | (cases hx;done) | skip
 ·cases h with | d _ _ _ h=>exact .d _ _ _ h
 ·cases h;exact .nil
 ·cases h;exact .cst _
theorem Zvq {x:AV} {v:Value} {st':St} {ρ':Rho} (hx:flatB x=true) (h:ARep F ρ w st x v):ARep F ρ' w st' x v:=by
 cases x with
 | d t v=>exact Zl5 rfl h
 | nil=>exact Zl5 rfl h
 | cst v=>exact Zl5 rfl h
 | ifc t y=>
  cases h with
  | ifc _ _ u hu=>
   refine .ifc _ _ _ ?_
   cases y with
   | ag cs=>
    simp only[flatB] at hx
    cases hu with
    | ag _ vs hl hall=>exact .ag _ _ hl fun i c u h1 h2=>Zl5 (List.all_eq_true.1 hx c (List.mem_of_getElem? h1)) (hall i c u h1 h2)
   | _=>exact Zl5 hx hu
 | _=>cases hx
theorem TReps.length {xs:List AV} {vs:List Value} {L:List Nat} (h:TReps F w xs vs L):xs.length=vs.length:=by
 induction h <;> simp_all
theorem TReps.append {xs ys:List AV} {vs us:List Value} {L M:List Nat} (h:TReps F w xs vs L) (h':TReps F w ys us M):TReps F w (xs++ys) (vs++us) (L++M):=by
 induction h with
 | nil=>exact h'
 | top _ ih=>exact .top ih
 | flat hx ha _ ih=>exact .flat hx ha ih
 | ag h1 _ _ ih=>rw[List.append_assoc];exact .ag h1 ih
 | tu h1 _ _ ih=>rw[List.append_assoc];exact .tu h1 ih
 | bx hh h1 _ _ ih=>have:=TReps.bx hh h1 ih;simpa[List.append_assoc] using this
 | rw h1 _ ih=>rw[List.append_assoc];exact .rw h1 ih
 | mv h1 _ ih=>rw[List.append_assoc];exact .mv h1 ih
 | dw h1 h2 h3 _ ih=>rw[List.append_assoc];exact .dw h1 h2 h3 ih
theorem TReps.split {x:AV} {xs:List AV} {vs:List Value} {L:List Nat} (h:TReps F w (x :: xs) vs L):∃v us L1 L2,vs=v :: us∧L=L1++L2∧TReps F w [x] [v] L1∧TReps F w xs us L2:=by
 cases h with
 | top h=>exact ⟨_,_,[],_,rfl,rfl,.top .nil,h⟩
 | flat hx ha h=>exact ⟨_,_,[],_,rfl,rfl,.flat hx ha .nil,h⟩
 | ag h1 h=>exact ⟨_,_,_,_,rfl,rfl,(by have:=TReps.ag h1 TReps.nil;rwa[List.append_nil] at this),h⟩
 | tu h1 h=>exact ⟨_,_,_,_,rfl,rfl,(by have:=TReps.tu h1 TReps.nil;rwa[List.append_nil] at this),h⟩
 | bx hh h1 h=>exact ⟨_,_,_,_,rfl,(List.cons_append ..).symm,(by have:=TReps.bx hh h1 TReps.nil;rwa[List.append_nil] at this),h⟩
 | rw h1 h=>exact ⟨_,_,_,_,rfl,rfl,(by have:=TReps.rw h1 (TReps.nil (F:=F) (w:=w));rwa[List.append_nil] at this),h⟩
 | dw h1 h2 h3 h=>exact ⟨_,_,_,_,rfl,rfl,(by have:=TReps.dw h1 h2 h3 (TReps.nil (F:=F) (w:=w));rwa[List.append_nil] at this),h⟩
 | mv h1 h=>exact ⟨_,_,_,_,rfl,rfl,(by have:=TReps.mv h1 (TReps.nil (F:=F) (w:=w));rwa[List.append_nil] at this),h⟩
def blocks (ρ:Rho) (ids:List Id):List Nat:=ids.flatMap fun id=>(hb (ρ id))
def rowsIn (st:St) (ρ:Rho) (F1:Nat→Prop) (is:List Id):Prop:=∀id∈is,∀v o,find id st.ob=some (v,o)→isRow o=true→∀b,b∈hb (ρ id)→F1 b
def okGiven (st:St) (ρ:Rho) (F1:Nat→Prop) (is os:List Id):Prop:=
 (∀id∈os,∃ver o,find id st.ob=some (ver,o)∧o.free=true)∧(∀id∈is,∃ver o,find id st.ob=some (ver,o)∧isRow o=true)
theorem okGiven.append {F1:Nat→Prop} {is os is' os':List Id} (h:okGiven st ρ F1 is os) (h':okGiven st ρ F1 is' os'):okGiven st ρ F1 (is++is') (os++os'):=
 ⟨fun id hid=>(List.mem_append.1 hid).elim (h.1 id) (h'.1 id),fun id hid=>(List.mem_append.1 hid).elim (h.2 id) (h'.2 id)⟩
theorem RowRep.pre {E:TypeId} {t:Ty} {l:List (El t)} {A:Option Addr} {c n:Nat} (h:RowRep F w E t l (.slice A l.length c)) (hn:n≤l.length):RowRep F w E t (l.take n) (.slice A n c):=by
 obtain ⟨cells,hown,hl⟩:=h
 refine ⟨cells.take (n*t.cells),?_,fun i x hx=>?_⟩
 ·have hle:n*t.cells≤List.length l*t.cells:=Nat.mul_le_mul_right _ hn
  have hnl:List.length (l.take n)=n:=by rw[List.length_take,Nat.min_eq_left hn]
  rw[hnl]
  refine ⟨by rw[List.length_take,hown.1,Nat.min_eq_left hle],?_⟩
  rcases hown.2 with ⟨h1,h2⟩ | ⟨g,off,cap,cur,h1,h3,h4,h5,h6,h7⟩
  ·simp only[Value.slice.injEq] at h1
   obtain ⟨rfl,_,rfl⟩:=h1
   obtain rfl:n=0:=by omega
   exact .inl ⟨rfl,rfl⟩
  ·simp only[Value.slice.injEq] at h1
   obtain ⟨rfl,_,rfl⟩:=h1
   refine .inr ⟨g,off,c,cur,rfl,h3,by omega,h5,h6,?_⟩
   rw[←h7,List.take_take,Nat.min_eq_left hle]
 ·rw[List.getElem?_take] at hx
  split at hx
  ·rename_i hi
   obtain ⟨cs,h1,h2⟩:=hl i x hx
   refine ⟨cs,h1,fun j u hu=>?_⟩
   have hj:j < t.cells:=by rw[←h1.length];exact (List.getElem?_eq_some_iff.1 hu).1
   rw[List.getElem?_take,if_pos]
   ·exact h2 j u hu
   ·calc i*t.cells+j < i*t.cells+t.cells:=by omega
     _=(i+1)*t.cells:=by rw[Nat.add_mul,Nat.one_mul]
     _≤n*t.cells:=Nat.mul_le_mul_right _ hi
  ·cases hx
theorem Zlw {g:AV→Option Given} {F1:Nat→Prop} {H:List Id→Prop} (hH:∀a b,H (a++b)→H a∧H b):∀(xs:List AV) {vs:List Value} {ys:List AV} {is os:List Id},allG g xs=some (ys,is,os)→CsRep F ρ w st xs vs→
  (∀x∈xs,∀v y is' os',g x=some (y,is',os')→H is'→ARep F ρ w st x v→TReps F1 w [y] [v] (blocks ρ os')∧okGiven st ρ F1 is' os')→
  H is→TReps F1 w ys vs (blocks ρ os)∧okGiven st ρ F1 is os
 | [],vs,ys,is,os,h,hc,_,_=>by
  simp only[allG,Option.some.injEq,Prod.mk.injEq] at h
  obtain ⟨rfl,rfl,rfl⟩:=h
  have:vs=[]:=List.length_eq_zero_iff.1 hc.1.symm
  subst this
  exact ⟨.nil,fun _ h=>(by cases h),fun _ h=>(by cases h)⟩
 | x :: xs,vs,ys,is,os,h,hc,hg,hF=>by
  simp only[allG] at h
  obtain ⟨⟨y,i1,o1⟩,h1,h⟩:=Option.bind_eq_some_iff.1 h
  obtain ⟨⟨zs,i2,o2⟩,h2,h⟩:=Option.map_eq_some_iff.1 h
  simp only[Prod.mk.injEq] at h
  obtain ⟨rfl,rfl,rfl⟩:=h
  cases vs with
  | nil=>have:=hc.1;simp at this
  | cons v vs=>
   have hx:=hc.2 0 x v rfl rfl
   have hr:CsRep F ρ w st xs vs:=⟨by have:=hc.1;simpa using this,fun i c u h1 h2=>hc.2 (i+1) c u h1 h2⟩
   obtain ⟨a1,a2⟩:=hg x (by simp) v y i1 o1 h1 (hH _ _ hF).1 hx
   obtain ⟨b1,b2⟩:=Zlw hH xs h2 hr (fun x hx=>hg x (by simp[hx])) (hH _ _ hF).2
   refine ⟨?_,a2.append b2⟩
   have:=a1.append b1
   simpa[blocks] using this
theorem ZjS {F1:Nat→Prop} (hR:R Mod F ρ w st tm) (hF:∀b,F b→F1 b):∀(n:Nat) (rows:Bool) (x:AV) (v:Value) (y:AV) (is os:List Id),give st rows n x=some (y,is,os)→
  (rows=true∨rowsIn st ρ F1 is)→ARep F ρ w st x v→TReps F1 w [y] [v] (blocks ρ os)∧okGiven st ρ F1 is os
 | 0,_,_,_,_,_,_,h,_,_=>by cases h
 | n+1,rows,x,v,y,is,os,h,hi,hx=>by
  have hk:Keeps F w F1 w:=⟨hF,fun _ _=>rfl⟩
  have hH:∀r:Bool,∀a b:List Id,(r=true∨rowsIn st ρ F1 (a++b))→(r=true∨rowsIn st ρ F1 a)∧(r=true∨rowsIn st ρ F1 b):=fun r a b h=>⟨h.imp id fun h i hi=>h i (by simp[hi]),h.imp id fun h i hi=>h i (by simp[hi])⟩
  unfold give at h
  split at h
  ·rename_i id ver
   split at h
   ·rename_i T cs tg ho
    obtain ⟨⟨vs,i1,o1⟩,h1,h⟩:=Option.map_eq_some_iff.1 h
    simp only[Prod.mk.injEq] at h
    obtain ⟨rfl,rfl,rfl⟩:=h
    cases hx with
    | pt _ _ _ _ hbn _ hp=>
     obtain ⟨b,hρ,rfl⟩:=hp _ ho
     obtain ⟨_,b',arr,hρ',hh,hl,hc⟩:=hR.obs id ver _ (Zw.1 ho)
     rw[hρ] at hρ'
     cases hρ'
     have hcs:CsRep F ρ w st cs arr.toList:=⟨by simp[hl],fun i c u h1 h2=>hc i c u h1 (by simpa using h2)⟩
     obtain ⟨a1,a2⟩:=Zlw (H:=fun is=>true=true∨rowsIn st ρ F1 is) (hH true) cs h1 hcs (fun x _ v y is' os' hg hi' hxv=>ZjS hR hF n true x v y is' os' hg hi' hxv) (.inl rfl)
     refine ⟨?_,fun i hi=>?_,a2.2⟩
     ·have:=TReps.bx (b:=b) (T:=T) (us:=arr.toList) (by simpa using hh) a1 TReps.nil
      simpa[blocks,hρ,Go.Ev.hb] using this
     ·rcases List.mem_cons.1 hi with rfl | hi
      ·exact ⟨_,_,Zw.1 ho,rfl⟩
      ·exact a2.1 i hi
   ·cases h
  ·rename_i id ver
   split at h
   ·rename_i kt vt l ho
    cases h
    cases hx with
    | mp _ _ _ hbn _ hp=>
     have hm:=hR.obs id ver _ (Zw.1 ho)
     have hv:=hp _ ho
     subst hv
     refine ⟨?_,fun i hi=>?_,fun _ h=>(by cases h)⟩
     ·have:=TReps.mv (F:=F1) (w:=w) (kt:=kt) (vt:=vt) (l:=l) (v:=ρ id) hm TReps.nil
      simpa[blocks] using this
     ·rcases List.mem_cons.1 hi with rfl | hi
      ·exact ⟨_,_,Zw.1 ho,rfl⟩
      ·cases hi
   ·cases h
  ·rename_i cs
   obtain ⟨⟨vs,i1,o1⟩,h1,h⟩:=Option.map_eq_some_iff.1 h
   simp only[Prod.mk.injEq] at h
   obtain ⟨rfl,rfl,rfl⟩:=h
   cases hx with
   | ag _ us hl hall=>
    obtain ⟨a1,a2⟩:=Zlw (H:=fun is=>rows=true∨rowsIn st ρ F1 is) (vs:=us.toList) (hH rows) cs h1 ⟨by simpa using hl,fun i c u h1 h2=>hall i c u h1 (by simpa using h2)⟩ (fun x _ v y is' os' hg hi' hxv=>ZjS hR hF n rows x v y is' os' hg hi' hxv) hi
    refine ⟨?_,a2⟩
    have:=TReps.ag a1 TReps.nil
    simpa using this
  ·rename_i cs
   obtain ⟨⟨vs,i1,o1⟩,h1,h⟩:=Option.map_eq_some_iff.1 h
   simp only[Prod.mk.injEq] at h
   obtain ⟨rfl,rfl,rfl⟩:=h
   cases hx with
   | tu _ us hl hall=>
    obtain ⟨a1,a2⟩:=Zlw (H:=fun is=>rows=true∨rowsIn st ρ F1 is) (vs:=us.toList) (hH rows) cs h1 ⟨by simpa using hl,fun i c u h1 h2=>hall i c u h1 (by simpa using h2)⟩ (fun x _ v y is' os' hg hi' hxv=>ZjS hR hF n rows x v y is' os' hg hi' hxv) hi
    refine ⟨?_,a2⟩
    have:=TReps.tu a1 TReps.nil
    simpa using this
  ·rename_i id ver pre
   split at h
   ·rename_i E t l lk ho
    cases hx with
    | own _ _ _ _ hbn _ hp=>
     obtain ⟨hn,A,c,hρ,rfl⟩:=hp _ _ _ _ ho
     have hrow:RowRep F w E t l (ρ id):=hR.obs id ver _ (Zw.1 ho)
     have hle:pre.getD l.length≤l.length:=by
      cases pre with
      | none=>exact Nat.le_refl _
      | some m=>exact hn m rfl
     cases hw:(rows&& !lk) with
     | true=>
      rw[hw] at h
      cases h
      rw[Zow]
      refine ⟨?_,fun i hi=>?_,fun _ h=>(by cases h)⟩
      ·have h2:RowRep F1 w E t l (ρ id):=ORep.mono (o:=.row E t l false) hk (Ref.refl (st:=st) (ρ:=ρ)) (fun _ _=>rfl) hrow
       rw[hρ] at h2
       have:=TReps.rw (RowRep.pre h2 hle) (TReps.nil (F:=F1) (w:=w))
       have hbb:hb (ρ id)=hb (.slice A (pre.getD l.length) c):=by rw[hρ];cases A <;> rfl
       simpa[blocks,hbb] using this
      ·rcases List.mem_cons.1 hi with rfl | hi
       ·simp only[Bool.and_eq_true,Bool.not_eq_true'] at hw
        exact ⟨_,_,Zw.1 ho,by simp[Obj.free,hw.2]⟩
       ·cases hi
     | false=>
      rw[hw] at h
      cases h
      rw[Zow]
      have hin:∀b,b∈hb (ρ id)→F1 b:=by
       rcases hi with hi | hi
       ·subst hi
        have hlk:lk=true:=by simpa using hw
        subst hlk
        exact fun b hb=>hF b (hR.data _ _ _ _ _ (Zw.1 ho) b hb)
       ·exact hi id (by simp) _ _ (Zw.1 ho) rfl
      have hd:=hrow.data hF hin hρ hle
      refine ⟨TReps.flat rfl (.d _ _ _ hd) .nil,fun _ h=>(by cases h),fun i hi=>?_⟩
      rcases List.mem_cons.1 hi with rfl | hi
      ·exact ⟨_,_,Zw.1 ho,rfl⟩
      ·cases hi
   ·cases h
  ·rename_i id ver p
   split at h
   ·rename_i E d l ho
    cases hx with
    | dn _ _ _ _ hbn _ hp=>
     obtain ⟨hpa,rfl⟩:=hp _ _ _ ho
     obtain ⟨hnd,hrow⟩:=hR.obs id ver _ (Zw.1 ho)
     cases p with
     | nil=>
      cases rows with
      | true=>
       cases h
       refine ⟨?_,fun i hi=>?_,fun _ h=>(by cases h)⟩
       ·have:=TReps.dw (F:=F1) (w:=w) (u:=ρ id) (v:=gv (gAt (gv (ρ id)) [])) rfl hnd (hrow.keep hk fun _ _=>rfl) TReps.nil
        simpa[blocks] using this
       ·rcases List.mem_cons.1 hi with rfl | hi
        ·exact ⟨_,_,Zw.1 ho,rfl⟩
        ·cases hi
      | false=>
       cases h
       have hin:=(hi.resolve_left (by simp)) id (by simp) _ _ (Zw.1 ho) rfl
       refine ⟨TReps.flat rfl (.d _ _ _ (hrow.data hF hin)) .nil,fun _ h=>(by cases h),fun i hi=>?_⟩
       rcases List.mem_cons.1 hi with rfl | hi
       ·exact ⟨_,_,Zw.1 ho,rfl⟩
       ·cases hi
     | cons e r=>
      cases rows with
      | true=>cases h
      | false=>
       obtain ⟨q2,Eq,Bq,a1,a2,a3⟩:=Zek hrow hpa
       simp only[cond_false,a1] at h
       cases h
       have hin:=(hi.resolve_left (by simp)) id (by simp) _ _ (Zw.1 ho) rfl
       refine ⟨TReps.flat rfl (.d _ _ _ (a2.data hF fun b hb=>hin b (a3 b hb))) .nil,fun _ h=>(by cases h),fun i hi=>?_⟩
       rcases List.mem_cons.1 hi with rfl | hi
       ·exact ⟨_,_,Zw.1 ho,rfl⟩
       ·cases hi
   ·cases h
  ·cases hfl:flatB x with
   | false=>rw[hfl] at h;cases h
   | true=>
    rw[hfl] at h
    cases h
    exact ⟨TReps.flat hfl (Zvq hfl (hx.mono hk Ref.refl)) .nil,fun _ h=>(by cases h),fun _ h=>(by cases h)⟩
end
end Go.Ev
end

section
namespace Go.Ev
variable [Tabs] [Orgs]
open Go
section
variable {P:Program} {Mod:Nat→Prop} {st:St} {F:Nat→Prop} {ρ:Rho} {w:World} {tm:Array Value}
def held (st:St) (ρ:Rho) (b:Nat):Prop:=∃id ver o,find id st.ob=some (ver,o)∧o.free=true∧b∈hb (ρ id)
structure Fr (Mod F:Nat→Prop) (ρ:Rho) (w:World) (st:St) (L:List Nat):Prop where
 nodup:L.Nodup
 out:∀b∈L,¬F b∧Mod b∧b < w.heap.size∧¬held st ρ b
structure Came (st:St) (ρ:Rho) (st':St) (ρ':Rho) (L:List Nat):Prop where
 ref:Ref st ρ st' ρ'
 held:∀b,held st' ρ' b→b∈L∨Go.Ev.held st ρ b
 tm:st'.tm=st.tm
theorem Came.refl {L:List Nat} :Came st ρ st ρ L:=⟨Ref.refl,fun _ h=>.inr h,rfl⟩
theorem Came.trans {st' st'':St} {ρ' ρ'':Rho} {L M N:List Nat} (h:Came st ρ st' ρ' L) (k:Came st' ρ' st'' ρ'' M) (hL:∀b∈L,b∈N) (hM:∀b∈M,b∈N):Came st ρ st'' ρ'' N:=
 ⟨h.ref.trans k.ref,fun b hb=>(k.held b hb).elim (fun x=>.inl (hM b x)) fun x=>(h.held b x).elim (fun y=>.inl (hL b y)) .inr,k.tm.trans h.tm⟩
theorem Fr.left {L M:List Nat} (h:Fr Mod F ρ w st (L++M)):Fr Mod F ρ w st L:=⟨(List.nodup_append.1 h.nodup).1,fun b hb=>h.out b (by simp[hb])⟩
theorem Fr.right {st':St} {ρ':Rho} {L M:List Nat} (h:Fr Mod F ρ w st (L++M)) (hc:Came st ρ st' ρ' L):Fr Mod F ρ' w st' M:=
 ⟨(List.nodup_append.1 h.nodup).2.1,fun b hb=>by
  obtain ⟨h1,h2,h3,h4⟩:=h.out b (by simp[hb])
  refine ⟨h1,h2,h3,fun hh=>?_⟩
  rcases hc.held b hh with hL | hh
  ·exact (List.nodup_append.1 h.nodup).2.2 b hL b hb rfl
  ·exact h4 hh⟩
theorem R.bring (hR:R Mod F ρ w st tm) {id ver':Nat} {o':Obj} {h':Value} (hver:(∃o,find id st.ob=some (ver',o)∧h'=ρ id∧∃tg,o=.gone tg)∨ver'=st.nextVer id) (hfree:o'.free=true)
  (hg:(∃o,find id st.ob=some (ver',o)∧h'=ρ id∧∃tg,o=.gone tg)→∀tg,Obj.sim (.gone tg) o')
  (hblk:∀b,b∈hb h'→¬F b∧Mod b∧b < w.heap.size∧¬held st ρ b) (hO:ORep F (updR ρ id h') w (st.setOb id ver' o') h' o'):
  R Mod F (updR ρ id h') w (st.setOb id ver' o') tm∧Came st ρ (st.setOb id ver' o') (updR ρ id h') (hb h'):=by
 have hver2:(∃o,find id st.ob=some (ver',o)∧h'=ρ id∧Obj.sim o o')∨ver'=st.nextVer id:=by
  rcases hver with h | h
  ·obtain ⟨o,h1,h2,tg,h3⟩:=h
   exact .inl ⟨o,h1,h2,by rw[h3];exact hg ⟨o,h1,h2,tg,h3⟩ tg⟩
  ·exact .inr h
 refine ⟨(R.set' hR rfl rfl rfl (Nat.le_refl _) hver2 (fun _ _ _=>rfl) (fun _ b hbb=>?_) (fun E t l e=>by subst e;cases hfree) hO).1,Ref.set hver2,fun b hh=>?_,rfl⟩
 ·obtain ⟨h1,h2,h3,h4⟩:=hblk b hbb
  exact ⟨h1,h2,h3,fun i v o _ hf hfr hbi=>h4 ⟨i,v,o,hf,hfr,hbi⟩⟩
 ·obtain ⟨i,v,o,hf,hfr,hbi⟩:=hh
  rw[Zp] at hf
  by_cases hi:i=id
  ·subst hi
   simp only[updR,if_true] at hbi
   exact .inl hbi
  ·rw[if_neg hi] at hf
   simp only[updR,if_neg hi] at hbi
   exact .inr ⟨i,v,o,hf,hfr,hbi⟩
theorem Zqv {id v:Nat} {o:Obj} (h:find id st.ob=some (v,o)):st.nextVer id=v+1:=by simp[St.nextVer,h]
def ImpOK (Mod F:Nat→Prop) (w:World) (tm:Array Value) (im:St→Id→AV→Option (AV×St)):Prop:=
 ∀(st:St) (ρ:Rho) (id:Id) (x y:AV) (v:Value) (st':St) (L:List Nat),im st id x=some (y,st')→R Mod F ρ w st tm→TReps F w [x] [v] L→Fr Mod F ρ w st L→
  ∃ρ',R Mod F ρ' w st' tm∧ARep F ρ' w st' y v∧Came st ρ st' ρ' L
theorem ZjP {im:St→Id→AV→Option (AV×St)} (him:ImpOK Mod F w tm im) (id:Id):∀(xs:List AV) (j:Nat) (st:St) (ρ:Rho) (ys:List AV) (vs:List Value) (st':St) (L:List Nat),impA im st id j xs=some (ys,st')→R Mod F ρ w st tm→TReps F w xs vs L→Fr Mod F ρ w st L→
  ∃ρ',R Mod F ρ' w st' tm∧CsRep F ρ' w st' ys vs∧Came st ρ st' ρ' L
 | [],j,st,ρ,ys,vs,st',L,h,hR,hT,hF=>by
  simp only[impA,Option.some.injEq,Prod.mk.injEq] at h
  obtain ⟨rfl,rfl⟩:=h
  cases hT
  exact ⟨ρ,hR,.nil,Came.refl⟩
 | x :: xs,j,st,ρ,ys,vs,st',L,h,hR,hT,hF=>by
  simp only[impA] at h
  obtain ⟨⟨y,st1⟩,h1,h⟩:=Option.bind_eq_some_iff.1 h
  obtain ⟨⟨zs,st2⟩,h2,h⟩:=Option.map_eq_some_iff.1 h
  simp only[Prod.mk.injEq] at h
  obtain ⟨rfl,rfl⟩:=h
  obtain ⟨v,us,L1,L2,rfl,rfl,t1,t2⟩:=hT.split
  obtain ⟨ρ1,r1,a1,c1⟩:=him st ρ _ x y v st1 L1 h1 hR t1 hF.left
  obtain ⟨ρ2,r2,a2,c2⟩:=ZjP him id xs (j+1) st1 ρ1 zs us st2 L2 h2 r1 t2 (hF.right c1)
  exact ⟨ρ2,r2,.cons (a1.mono (Keeps.refl _ _) c2.ref) a2,c1.trans c2 (fun b hb=>by simp[hb]) (fun b hb=>by simp[hb])⟩
theorem Zn5:∀n,ImpOK Mod F w tm (imp n)
 | 0=>fun _ _ _ _ _ _ _ _ h=>by cases h
 | n+1=>by
  intro st ρ id x y v st' L h hR hT hF
  have ih:=Zn5 n
  unfold imp at h
  split at h
  ·rename_i T cs
   obtain ⟨⟨vs,st1⟩,h1,h⟩:=Option.map_eq_some_iff.1 h
   simp only[Prod.mk.injEq] at h
   obtain ⟨rfl,rfl⟩:=h
   cases hT with
   | flat hx=>cases hx
   | @bx _ b _ us L1 _ _ _ hh hcs hr=>
    cases hr
    rw[List.append_nil] at hF
    have hnb:b∉L1:=(List.nodup_cons.1 hF.nodup).1
    have hF1:Fr Mod F ρ w st L1:=⟨(List.nodup_cons.1 hF.nodup).2,fun c hc=>hF.out c (by simp[hc])⟩
    obtain ⟨ρ1,r1,a1,c1⟩:=ZjP ih id cs 0 st ρ vs us st1 L1 h1 hR hcs hF1
    have hb1:∀c,c∈hb (.pointer (some ⟨b,0,none⟩))→¬F c∧Mod c∧c < w.heap.size∧¬held st1 ρ1 c:=by
     intro c hc
     have hc:=(List.mem_singleton.1 hc).symm
     subst hc
     obtain ⟨k1,k2,k3,k4⟩:=hF.out b (by simp)
     exact ⟨k1,k2,k3,fun hh=>(c1.held b hh).elim hnb k4⟩
    obtain ⟨r2,c2⟩:=r1.bring (id:=id) (ver':=st1.nextVer id) (o':=.box T vs none) (h':=.pointer (some ⟨b,0,none⟩)) (.inr rfl) rfl (fun _ _=>trivial) hb1
     ⟨(fun j e=>by cases e),b,us.toArray,rfl,hh,by simpa using a1.1.symm,fun i c u e1 e2=>(a1.2 i c u e1 (by simpa using e2)).mono (Keeps.refl _ _) Ref.new⟩
    refine ⟨_,r2,Zuj (by simp[updR]),?_⟩
    rw[List.append_nil]
    exact c1.trans c2 (fun c hc=>by simp[hc]) (fun c hc=>by simpa[Go.Ev.hb] using .inl (by simpa[Go.Ev.hb] using hc))
  ·rename_i E t l
   simp only[Option.some.injEq,Prod.mk.injEq] at h
   obtain ⟨rfl,rfl⟩:=h
   cases hT with
   | flat hx=>cases hx
   | rw hrow hr=>
    cases hr
    rw[List.append_nil] at hF ⊢
    obtain ⟨r2,c2⟩:=hR.bring (id:=id) (ver':=st.nextVer id) (o':=.row E t l false) (h':=v) (.inr rfl) rfl (fun ⟨o,hf,_,_⟩=>by
      exfalso
      have:=Zqv hf
      omega) (fun b hbb=>hF.out b hbb) hrow
    refine ⟨_,r2,.own _ _ _ _ ZcJ ?_ fun E' t' l' lk' ho=>?_,c2⟩
    ·rcases hrow with ⟨cells,hown,_⟩
     rcases hown.2 with ⟨e,_⟩ | ⟨g,off,cap,cur,e,_⟩ <;> rw[e] <;> rfl
    ·rw[ZlH] at ho
     cases ho
     refine ⟨fun n e=>(by cases e),?_⟩
     rcases hrow with ⟨cells,hown,_⟩
     simp only[updR,if_true,Option.getD_none]
     rcases hown.2 with ⟨e,e2⟩ | ⟨g,off,cap,cur,e,_⟩
     ·exact ⟨none,0,by rw[e,e2],by rw[e,e2]⟩
     ·exact ⟨_,_,e,e⟩
  ·rename_i kt vt l
   simp only[Option.some.injEq,Prod.mk.injEq] at h
   obtain ⟨rfl,rfl⟩:=h
   cases hT with
   | flat hx=>cases hx
   | mv hm hr=>
    cases hr
    rw[List.append_nil] at hF ⊢
    obtain ⟨r2,c2⟩:=hR.bring (id:=id) (ver':=st.nextVer id) (o':=.map kt vt l) (h':=v) (.inr rfl) rfl (fun _ _=>trivial) (fun b hbb=>hF.out b hbb) hm
    refine ⟨_,r2,.mp _ _ _ ZcJ ?_ fun o' ho=>by simp[updR],c2⟩
    obtain ⟨r,es,clock,e,_⟩:=hm
    rw[e];rfl
  ·rename_i E d l
   simp only[Option.some.injEq,Prod.mk.injEq] at h
   obtain ⟨rfl,rfl⟩:=h
   cases hT with
   | flat hx=>cases hx
   | dw hv hn hrow hr=>
    cases hr
    rename_i u
    rw[List.append_nil] at hF ⊢
    obtain ⟨r2,c2⟩:=hR.bring (id:=id) (ver':=st.nextVer id) (o':=.deep E d l) (h':=u) (.inr rfl) rfl (fun ⟨o,hf,_,_⟩=>by
      exfalso
      have:=Zqv hf
      omega) (fun b hbb=>hF.out b hbb) ⟨hn,hrow⟩
    refine ⟨_,r2,.dn _ _ _ _ ZcJ ?_ fun E' d' l' ho=>⟨trivial,by simpa[updR,gAt] using hv⟩,c2⟩
    obtain ⟨cells,Bs,hown,_⟩:=hrow
    rw[hv]
    rcases hown.2 with ⟨e,_⟩ | ⟨g,off,cap,cur,e,_⟩ <;> rw[e] <;> rfl
  ·rename_i cs
   obtain ⟨⟨vs,st1⟩,h1,h⟩:=Option.map_eq_some_iff.1 h
   simp only[Prod.mk.injEq] at h
   obtain ⟨rfl,rfl⟩:=h
   cases hT with
   | flat hx=>cases hx
   | ag hcs hr=>
    cases hr
    rw[List.append_nil] at hF ⊢
    obtain ⟨ρ1,r1,a1,c1⟩:=ZjP ih id cs 0 st ρ vs _ st1 _ h1 hR hcs hF
    exact ⟨ρ1,r1,.ag _ _ (by simpa using a1.1) fun i c u e1 e2=>a1.2 i c u e1 (by simpa using e2),c1⟩
  ·rename_i cs
   obtain ⟨⟨vs,st1⟩,h1,h⟩:=Option.map_eq_some_iff.1 h
   simp only[Prod.mk.injEq] at h
   obtain ⟨rfl,rfl⟩:=h
   cases hT with
   | flat hx=>cases hx
   | tu hcs hr=>
    cases hr
    rw[List.append_nil] at hF ⊢
    obtain ⟨ρ1,r1,a1,c1⟩:=ZjP ih id cs 0 st ρ vs _ st1 _ h1 hR hcs hF
    exact ⟨ρ1,r1,.tu _ _ (by simpa using a1.1) fun i c u e1 e2=>a1.2 i c u e1 (by simpa using e2),c1⟩
  ·rename_i n1 n2 n3 n4 n5 n6
   cases hfl:flatB x with
   | false=>rw[hfl] at h;cases h
   | true=>
    rw[hfl] at h
    simp only[cond_true,Option.some.injEq,Prod.mk.injEq] at h
    obtain ⟨rfl,rfl⟩:=h
    cases hT with
    | flat hx ha hr=>cases hr;exact ⟨ρ,hR,Zvq hx ha,Came.refl⟩
    | top=>cases hfl
    | ag=>cases hfl
    | tu=>cases hfl
    | bx=>cases hfl
    | rw=>cases hfl
    | mv=>cases hfl
    | dw=>cases hfl
theorem Zxb {i:Nat} {x y:AV} {v:Value} {st':St} {L:List Nat} (h:impT st i x=some (y,st')) (hR:R Mod F ρ w st tm) (hT:TReps F w [x] [v] L) (hF:Fr Mod F ρ w st L) (hv:v=Orgs.org i):
  ∃ρ',R Mod F ρ' w st' tm∧ARep F ρ' w st' y v∧Came st ρ st' ρ' L:=by
 unfold impT at h
 split at h
 ·rename_i T cs
  obtain ⟨⟨vs,st1⟩,h1,h⟩:=Option.map_eq_some_iff.1 h
  simp only[Prod.mk.injEq] at h
  obtain ⟨rfl,rfl⟩:=h
  cases hT with
  | flat hx=>cases hx
  | @bx _ b _ us L1 _ _ _ hh hcs hr=>
   cases hr
   rw[List.append_nil] at hF
   have hnb:b∉L1:=(List.nodup_cons.1 hF.nodup).1
   have hF1:Fr Mod F ρ w st L1:=⟨(List.nodup_cons.1 hF.nodup).2,fun c hc=>hF.out c (by simp[hc])⟩
   obtain ⟨ρ1,r1,a1,c1⟩:=ZjP (Zn5 5) (rootId i) cs 0 st ρ vs us st1 L1 h1 hR hcs hF1
   have hb1:∀c,c∈hb (.pointer (some ⟨b,0,none⟩))→¬F c∧Mod c∧c < w.heap.size∧¬held st1 ρ1 c:=by
    intro c hc
    have hc:=(List.mem_singleton.1 hc).symm
    subst hc
    obtain ⟨k1,k2,k3,k4⟩:=hF.out b (by simp)
    exact ⟨k1,k2,k3,fun hh=>(c1.held b hh).elim hnb k4⟩
   obtain ⟨r2,c2⟩:=r1.bring (id:=rootId i) (ver':=st1.nextVer (rootId i)) (o':=.box T vs (some i)) (h':=.pointer (some ⟨b,0,none⟩)) (.inr rfl) rfl (fun _ _=>trivial) hb1
    ⟨(fun j e=>by cases e;exact hv),b,us.toArray,rfl,hh,by simpa using a1.1.symm,fun i c u e1 e2=>(a1.2 i c u e1 (by simpa using e2)).mono (Keeps.refl _ _) Ref.new⟩
   refine ⟨_,r2,Zuj (by simp[updR]),?_⟩
   rw[List.append_nil]
   exact c1.trans c2 (fun c hc=>by simp[hc]) (fun c hc=>by simpa[Go.Ev.hb] using .inl (by simpa[Go.Ev.hb] using hc))
 ·exact Zn5 6 st ρ _ x y v st' L h hR hT hF
end
end Go.Ev
end

section
namespace Go.Ev
variable [Tabs] [Orgs]
open Go
def ModC (L:List Nat) (w:World) (b:Nat):Prop:=b∈L∨w.heap.size≤b
def CallPost (F:Nat→Prop) (w:World) (L:List Nat) (vals:List Value) (ans:Ans) (v:Value) (w':World):Prop:=
 ∃F' Lr Lo,Evo (ModC L w) F w F' w'∧(∀b,F' b→b < w'.heap.size)∧TReps F' w' [ans.1] [v] Lr∧TReps F' w' ans.2 vals Lo∧(Lo++Lr).Nodup∧∀b∈Lo++Lr,¬F' b∧ModC L w b∧b < w'.heap.size
def CallG (P:Program) (f:FuncId) (g:List Value→Array Value) (forms:List AV) (ans:Ans):Prop:=
 ∀(F:Nat→Prop) (w:World) (vals:List Value) (L:List Nat),TReps F w forms vals L→L.Nodup→(∀b∈L,¬F b∧b < w.heap.size)→(∀b,F b→b < w.heap.size)→TabOK F w→
  Calls P f (g vals) w fun
   |.returned v,w'=>CallPost F w L vals ans v w'
   | _,_=>False
def twice (vals:List Value):Array Value:=(vals++vals).toArray
def CallOK (P:Program) (f:FuncId) (forms:List AV) (ans:Ans):Prop:=CallG P f List.toArray forms ans∧∀r,forms=.pt 0 0 1 :: r→CallG P f twice r ans
def Known (P:Program) (f:FuncId):Prop:=∃fn c,P.funcs[f]? =some fn∧(fn.name== "runtime.NumGoroutine")=false∧fn.body=some c
def Spec (P:Program) (cl:Cl):Prop:=∀f forms,Sat (cl f forms) fun ans=>Known P f∧CallOK P f forms ans
section
variable {P:Program} {Mod:Nat→Prop} {o:Oper} {st:St} {F:Nat→Prop} {ρ:Rho} {w:World} {tm:Array Value}
theorem Zym {v:Value} {o:Obj} (h:ORep F ρ w st v o):∀j,o.tag=some j→v=Orgs.org j:=by
 cases o with
 | box T cs tg=>exact h.1
 | gone tg=>exact h
 | _=>intro j e;cases e
theorem ZjG:∀(os:List Id) {st:St},R Mod F ρ w st tm→R Mod F ρ w (dropIds os st) tm∧Ref st ρ (dropIds os st) ρ∧(dropIds os st).tm=st.tm∧
  (∀b,held (dropIds os st) ρ b→∃id ver o,find id st.ob=some (ver,o)∧o.free=true∧b∈hb (ρ id)∧id∉os)∧∀id ver,bnd st id ver→bnd (dropIds os st) id ver
 | [],st,h=>⟨h,Ref.refl,rfl,fun b ⟨id,ver,o,h1,h2,h3⟩=>⟨id,ver,o,h1,h2,h3,by simp⟩,fun _ _ h=>h⟩
 | id :: r,st,h=>by
  unfold dropIds
  cases hf:find id st.ob with
  | none=>
   obtain ⟨h1,h2,h3,h4,h5⟩:=ZjG r h
   refine ⟨h1,h2,h3,fun b hb=>?_,h5⟩
   obtain ⟨i,v,o,k1,k2,k3,k4⟩:=h4 b hb
   refine ⟨i,v,o,k1,k2,k3,fun hm=>?_⟩
   rcases List.mem_cons.1 hm with rfl | hm
   ·rw[hf] at k1;cases k1
   ·exact k4 hm
  | some p=>
   obtain ⟨v,ob⟩:=p
   simp only
   have hver:(∃o,find id st.ob=some (v,o)∧ρ id=ρ id∧Obj.sim o (.gone ob.tag))∨v=st.nextVer id:=.inl ⟨ob,hf,rfl,ob.sim_gone _⟩
   have hset:=R.set h (o':=.gone ob.tag) (h':=ρ id) rfl rfl rfl (Nat.le_refl _) hver (fun _ _ _=>rfl) (fun e=>by cases e) (fun _ _ _ e=>by cases e) (Zym (h.obs id v ob hf))
   have href:=Ref.set (ρ:=ρ) (o':=.gone ob.tag) hver
   rw[Zlo] at hset href
   obtain ⟨h1,h2,h3,h4,h5⟩:=ZjG r hset.1
   refine ⟨h1,href.trans h2,h3,fun b hb=>?_,fun i ver hb=>h5 _ _ (href.b _ _ hb)⟩
   obtain ⟨i,v',o,k1,k2,k3,k4⟩:=h4 b hb
   rw[Zp] at k1
   by_cases hi:i=id
   ·subst hi
    rw[if_pos rfl] at k1
    cases k1
    cases k2
   ·rw[if_neg hi] at k1
    exact ⟨i,v',o,k1,k2,k3,fun hm=>(List.mem_cons.1 hm).elim hi k4⟩
theorem R.world (h:R Mod F ρ w st tm) {M F2:Nat→Prop} {w':World} (hE:Evo M F w F2 w') (hM:∀b,M b→Mod b) (hh:∀b,held st ρ b→¬M b) (hlow:∀b,F2 b→b < w'.heap.size):
  R Mod F2 ρ w' st tm∧Evo Mod F w F2 w':=by
 have hE2:Evo Mod F w F2 w':=⟨hE.os,hE.tape,hE.output,hE.size,hE.more,fun b hb=>(hE.new b hb).imp id (hM b),fun b hb hF=>hE.same b hb (hF.imp id fun hn hm=>hn (hM b hm))⟩
 have hk:=hE2.keeps h.low
 refine ⟨⟨h.size,fun i x hx=>?_,fun id ver o hf=>?_,fun id ver o b hf hfr hbb=>?_,fun id ver E t l hf b hbb=>hE.more b (h.data id ver E t l hf b hbb),hlow,fun b hb=>h.hi b (Nat.le_trans hE.size hb),h.tabs.keep hk⟩,hE2⟩
 ·obtain ⟨v,hv,ha⟩:=h.tms i x hx
  exact ⟨v,hv,ha.mono hk Ref.refl⟩
 ·by_cases hg:∃tg,o=.gone tg
  ·obtain ⟨tg,rfl⟩:=hg;exact h.obs id ver _ hf
  refine ORep.mono hk (Ref.refl (st:=st) (ρ:=ρ)) (fun b hbb=>?_) (h.obs id ver o hf)
  by_cases hfr:o.free=true
  ·exact hE.same b (h.sep _ _ _ _ hf hfr hbb).2.2.1 (.inr (hh b ⟨id,ver,o,hf,hfr,hbb⟩))
  ·cases o with
   | row E t l lk=>
    have:lk=true:=by simpa[Obj.free] using hfr
    subst this
    exact hk.same b (h.data _ _ _ _ _ hf b hbb)
   | gone tg=>exact absurd ⟨tg,rfl⟩ hg
   | box T cs tg=>simp[Obj.free] at hfr
   | map kt vt l=>simp[Obj.free] at hfr
   | sit s p=>simp[Obj.free] at hfr
   | deep E d l=>simp[Obj.free] at hfr
 ·obtain ⟨h1,h2,h3,h4⟩:=h.sep _ _ _ _ hf hfr hbb
  exact ⟨fun hF=>(hE.new b hF).elim h1 (hh b ⟨id,ver,o,hf,hfr,hbb⟩),h2,Nat.lt_of_lt_of_le h3 hE.size,h4⟩
theorem LRep.any {F2:Nat→Prop} {w':World} :∀ {t:Ty} {x:El t} {vs:List Value},tySl t=false→LRep F w t x vs→LRep F2 w' t x vs
 |.int _,_,_,_,h=>h
 |.bool,_,_,_,h=>h
 |.str,_,_,_,h=>h
 |.sl _,_,_,h,_=>by cases h
 |.pr a b,x,vs,hs,h=>by
  simp only[tySl,Bool.or_eq_false_iff] at hs
  simp only[LRep] at h ⊢
  obtain ⟨v1,v2,e,h1,h2⟩:=h
  exact ⟨v1,v2,e,LRep.any hs.1 h1,LRep.any hs.2 h2⟩
 |.un,_,_,_,h=>h
theorem Zqo {f:AV→Bool} :∀ {xs:List AV},hasSl.anyB f xs=false→∀x∈xs,f x=false
 | [],_,_,h=>by cases h
 | y :: ys,h,x,hx=>by
  simp only[hasSl.anyB,Bool.or_eq_false_iff] at h
  rcases List.mem_cons.1 hx with rfl | hx
  ·exact h.1
  ·exact Zqo h.2 x hx
theorem Zjs {F2:Nat→Prop} {n:Nat} {x:AV} {v:Value} (hx:leafB x=true) (hs:hasSl n x=false) (h:ARep F ρ w st x v):ARep F2 ρ w st x v:=by
 cases n with
 | zero=>cases hs
 | succ n=>
  cases h with
  | d t x v h=>exact .d _ _ _ (LRep.any hs h)
  | nil=>exact .nil
  | cst=>exact .cst _
  | _=>cases hx
theorem Zv5 {F2:Nat→Prop} {n:Nat} {x:AV} {v:Value} (hx:flatB x=true) (hs:hasSl n x=false) (h:ARep F ρ w st x v):ARep F2 ρ w st x v:=by
 cases x with
 | d t v=>exact Zjs rfl hs h
 | nil=>exact Zjs rfl hs h
 | cst v=>exact Zjs rfl hs h
 | ifc t y=>
  cases n with
  | zero=>cases hs
  | succ n=>
   cases h with
   | ifc _ _ u hu=>
    refine .ifc _ _ _ ?_
    simp only[hasSl] at hs
    cases y with
    | ag cs=>
     cases n with
     | zero=>cases hs
     | succ n=>
      simp only[flatB] at hx
      simp only[hasSl] at hs
      cases hu with
      | ag _ vs hl hall=>exact .ag _ _ hl fun i c u h1 h2=>Zjs (List.all_eq_true.1 hx c (List.mem_of_getElem? h1)) (Zqo hs c (List.mem_of_getElem? h1)) (hall i c u h1 h2)
    | _=>exact Zjs hx hs hu
 | _=>cases hx
theorem TReps.noSl {F2:Nat→Prop} {xs:List AV} {vs:List Value} {L:List Nat} (h:TReps F w xs vs L):∀n,hasSl.anyB (hasSl n) xs=false→TReps F2 w xs vs L:=by
 induction h with
 | nil=>exact fun _ _=>.nil
 | top _ ih=>intro n hs;simp only[hasSl.anyB,Bool.or_eq_false_iff] at hs;exact .top (ih n hs.2)
 | flat hx ha _ ih=>intro n hs;simp only[hasSl.anyB,Bool.or_eq_false_iff] at hs;exact .flat hx (Zv5 hx hs.1 ha) (ih n hs.2)
 | ag h1 _ i1 ih=>
  intro n hs;simp only[hasSl.anyB,Bool.or_eq_false_iff] at hs
  cases n with
  | zero=>cases hs.1
  | succ n=>exact .ag (i1 n hs.1) (ih _ hs.2)
 | tu h1 _ i1 ih=>
  intro n hs;simp only[hasSl.anyB,Bool.or_eq_false_iff] at hs
  cases n with
  | zero=>cases hs.1
  | succ n=>exact .tu (i1 n hs.1) (ih _ hs.2)
 | bx hh h1 _ i1 ih=>
  intro n hs;simp only[hasSl.anyB,Bool.or_eq_false_iff] at hs
  cases n with
  | zero=>cases hs.1
  | succ n=>exact .bx hh (i1 n hs.1) (ih _ hs.2)
 | rw h1 _ ih=>
  intro n hs;simp only[hasSl.anyB,Bool.or_eq_false_iff] at hs
  cases n with
  | zero=>cases hs.1
  | succ n=>
   obtain ⟨cells,hown,hl⟩:=h1
   exact .rw ⟨cells,hown,fun i x hx=>let ⟨cs,k1,k2⟩:=hl i x hx;⟨cs,LRep.any hs.1 k1,k2⟩⟩ (ih _ hs.2)
 | dw h1 h2 h3 _ ih=>
  intro n hs;simp only[hasSl.anyB,Bool.or_eq_false_iff] at hs
  cases n with
  | zero=>cases hs.1
  | succ n=>cases hs.1
 | mv h1 _ ih=>intro n hs;simp only[hasSl.anyB,Bool.or_eq_false_iff] at hs;exact .mv h1 (ih _ hs.2)
theorem Zlt:∀(args outs:List AV) (vals:List Value) {st st':St} {ρ:Rho} {L:List Nat},backA st (args.zip outs)=some st'→R Mod F ρ w st tm→CsRep F ρ w st args vals→TReps F w outs vals L→Fr Mod F ρ w st L→
  ∃ρ',R Mod F ρ' w st' tm∧Came st ρ st' ρ' L
 | [],outs,vals,st,st',ρ,L,h,hR,hc,hT,hF=>by
  simp only[List.zip_nil_left,backA,Option.some.injEq] at h
  subst h
  exact ⟨ρ,hR,Came.refl⟩
 | x :: xs,[],vals,st,st',ρ,L,h,hR,hc,hT,hF=>by
  simp only[List.zip_nil_right,backA,Option.some.injEq] at h
  subst h
  exact ⟨ρ,hR,Came.refl⟩
 | x :: xs,y :: ys,vals,st,st',ρ,L,h,hR,hc,hT,hF=>by
  obtain ⟨v,us,L1,L2,rfl,rfl,t1,t2⟩:=hT.split
  have hx:ARep F ρ w st x v:=hc.2 0 x v rfl rfl
  have hr:CsRep F ρ w st xs us:=⟨by have:=hc.1;simpa using this,fun i c u h1 h2=>hc.2 (i+1) c u h1 h2⟩
  rw[List.zip_cons_cons] at h
  unfold backA at h
  split at h
  ·rename_i id ver T cs
   obtain ⟨⟨vs,st1⟩,h1,h⟩:=Option.bind_eq_some_iff.1 h
   simp only at h
   split at h
   ·rename_i tg ho
    cases t1 with
    | flat hx=>cases hx
    | @bx _ b _ bs M1 _ _ _ hh hcs hr0=>
     cases hr0
     rw[List.append_nil] at hF
     have hF1:=hF.left
     have hnb:b∉M1:=(List.nodup_cons.1 hF1.nodup).1
     have hF2:Fr Mod F ρ w st M1:=⟨(List.nodup_cons.1 hF1.nodup).2,fun c hc=>hF1.out c (by simp[hc])⟩
     obtain ⟨ρ1,r1,a1,c1⟩:=ZjP (Zn5 6) id cs 0 st ρ vs _ st1 M1 h1 hR hcs hF2
     have hx1:=hx.mono (Keeps.refl _ _) c1.ref
     cases hx1 with
     | pt _ _ _ _ _ _ hp=>
      obtain ⟨b',hρ,hv⟩:=hp _ ho
      cases hv
      have hb1:∀c,c∈hb (ρ1 id)→¬F c∧Mod c∧c < w.heap.size∧¬held st1 ρ1 c:=by
       intro c hc
       rw[hρ] at hc
       have hc:=(List.mem_singleton.1 hc).symm
       subst hc
       obtain ⟨k1,k2,k3,k4⟩:=hF1.out b (by simp)
       exact ⟨k1,k2,k3,fun hh=>(c1.held b hh).elim hnb k4⟩
      have hf:=Zw.1 ho
      obtain ⟨r2,c2⟩:=r1.bring (id:=id) (ver':=ver) (o':=.box T vs tg) (h':=ρ1 id) (.inl ⟨_,hf,rfl,tg,rfl⟩) rfl (fun _ _=>trivial) hb1
       ⟨r1.obs id ver _ hf,b,bs.toArray,hρ,hh,by simpa using a1.1.symm,fun i c u e1 e2=>(a1.2 i c u e1 (by simpa using e2)).mono (Keeps.refl _ _) (Ref.set (o':=.box T vs tg) (.inl ⟨_,hf,rfl,trivial⟩))⟩
      have c3:Came st ρ (st1.setOb id ver (.box T vs tg)) (updR ρ1 id (ρ1 id)) (b :: (M1++[])):=by
       refine c1.trans c2 (fun c hc=>by simp[hc]) (fun c hc=>?_)
       rw[hρ] at hc
       have hc:=(List.mem_singleton.1 hc).symm
       subst hc
       simp
      rw[List.append_nil] at c3
      obtain ⟨ρ3,r3,c4⟩:=Zlt xs ys us h r2 (hr.mono (Keeps.refl _ _) c3.ref) t2 (hF.right c3)
      rw[List.append_nil]
      exact ⟨ρ3,r3,c3.trans c4 (fun c hc=>by simp at hc ⊢;rcases hc with hc | hc <;> simp[hc]) (fun c hc=>by simp[hc])⟩
   ·cases h
  ·rename_i id ver kt vt l
   split at h
   ·rename_i ho
    cases t1 with
    | flat hx=>cases hx
    | mv hm hr0=>
     cases hr0
     rw[List.append_nil] at hF ⊢
     cases hx with
     | mp _ _ _ _ _ hp=>
      have hv:=hp _ ho
      subst hv
      have hf:=Zw.1 ho
      obtain ⟨r2,c2⟩:=hR.bring (id:=id) (ver':=ver) (o':=.map kt vt l) (h':=ρ id) (.inl ⟨_,hf,rfl,_,rfl⟩) rfl (fun _ _=>trivial) (fun b hbb=>hF.left.out b hbb) hm
      obtain ⟨ρ3,r3,c4⟩:=Zlt xs ys us h r2 (hr.mono (Keeps.refl _ _) c2.ref) t2 (hF.right c2)
      exact ⟨ρ3,r3,c2.trans c4 (fun c hc=>by simp[hc]) (fun c hc=>by simp[hc])⟩
   ·cases h
  ·cases t1 with
   | top hr0=>
    cases hr0
    exact Zlt xs ys us h hR hr t2 hF
   | flat hx=>cases hx
  ·cases h
end
end Go.Ev
end

section
namespace Go.Ev
variable [Tabs] [Orgs]
open Go
section
variable {P:Program} {Mod:Nat→Prop} {o:Oper} {st:St} {F:Nat→Prop} {ρ:Rho} {w:World} {tm:Array Value}
theorem ZoT {u v:Value} (h:ARep F ρ w st (.cst u) v):v=u:=by cases h;rfl
theorem ZdW:∀ {l:List Id},nodupB l=true→l.Nodup
 | [],_=>.nil
 | x :: r,h=>by
  simp only[nodupB,Bool.and_eq_true,Bool.not_eq_true'] at h
  refine List.nodup_cons.2 ⟨fun hm=>?_,ZdW h.2⟩
  have:=h.1
  rw[List.any_eq_false] at this
  exact this x hm (Nat.beq_refl x)
theorem ZkF {is os:List Id} (h:apartB is os=true):∀id∈os,id∉is:=by
 intro id hid hm
 have:=List.all_eq_true.1 h id hid
 simp only[Bool.not_eq_true'] at this
 rw[List.any_eq_false] at this
 exact this id hm (Nat.beq_refl id)
theorem Zdo:∀(is:List Id) {st:St} {id:Id},id∉is→find id (st.lock is).ob=find id st.ob
 | [],_,_,_=>rfl
 | x :: r,st,id,h=>by
  have hx:id≠x:=fun e=>h (by simp[e])
  have hr:id∉r:=fun e=>h (by simp[e])
  unfold St.lock
  split
  ·rw[Zdo r hr,Zp,if_neg hx]
  ·rw[Zdo r hr,Zp,if_neg hx]
  ·rw[Zdo r hr,Zp,if_neg hx]
  ·exact Zdo r hr
theorem ZoP:∀(is:List Id) {st:St},(st.lock is).tm=st.tm
 | [],_=>rfl
 | x :: r,st=>by
  unfold St.lock
  split
  ·rw[ZoP r];rfl
  ·rw[ZoP r];rfl
  ·rw[ZoP r];rfl
  ·exact ZoP r
theorem Zfb {ids:List Id} {b:Nat} :b∈blocks ρ ids↔∃id∈ids,b∈hb (ρ id):=by
 simp only[blocks,List.mem_flatMap]
theorem Zeu (hR:R Mod F ρ w st tm):∀ {os:List Id},os.Nodup→(∀id∈os,∃ver o,find id st.ob=some (ver,o)∧o.free=true)→(blocks ρ os).Nodup
 | [],_,_=>.nil
 | id :: r,hn,ho=>by
  have hnid:(hb (ρ id)).Nodup:=by
   obtain ⟨v1,o1,f1,r1⟩:=ho id (by simp)
   have:=hR.obs _ _ _ f1
   cases o1 with
   | deep E d l=>exact this.1
   | gone tg=>cases r1
   | box T cs tg=>obtain ⟨_,b,arr,e,_⟩:=this;rw[e];simp[hb]
   | row E t l lk=>obtain ⟨cells,hown,_⟩:=this;rcases hown.2 with ⟨e,_⟩ | ⟨g,off,cap,cur,e,_⟩ <;> rw[e] <;> simp[hb]
   | map kt vt l=>obtain ⟨r,es,clock,e,_⟩:=this;rw[e];simp[hb]
   | sit s p=>obtain ⟨r,e,_⟩:=this;rw[e];simp[hb]
  obtain ⟨hn1,hn2⟩:=List.nodup_cons.1 hn
  have ih:=Zeu hR hn2 fun i hi=>ho i (by simp[hi])
  have:blocks ρ (id :: r)=(hb (ρ id))++blocks ρ r:=by simp[blocks]
  rw[this]
  refine List.nodup_append.2 ⟨hnid,ih,fun a ha b hb' e=>?_⟩
  subst e
  obtain ⟨i,hi,hbi⟩:=Zfb.1 hb'
  have hba:a∈hb (ρ id):=by simpa using ha
  obtain ⟨v1,o1,f1,r1⟩:=ho id (by simp)
  obtain ⟨v2,o2,f2,r2⟩:=ho i (by simp[hi])
  have:=(hR.sep _ _ _ _ f1 r1 hba).2.2.2 _ _ _ f2 r2 hbi
  subst this
  exact hn1 hi
theorem Zts {cl:Cl} {f:FuncId} {g:List Value→Array Value} (hcl:∀forms,Sat (cl f forms) fun ans=>Known P f∧CallG P f g forms ans) {xs:List AV} {evs:Act→List Value} (hrep:∀(F:Nat→Prop) (ρ:Rho) (w:World) (a:Act),R Mod F ρ w st a.tmps→CsRep F ρ w st xs (evs a))
  (hexec:∀(F:Nat→Prop) (ρ:Rho) (w:World) (a:Act),R Mod F ρ w st a.tmps→Known P f→(execOp a.eval o).run P w=.ok (.enter f (g (evs a))) w):
  Sat (callA cl f xs o.dst st) (OpOK P Mod o st):=by
 unfold callA
 split
 ·exact Sat.fail
 rename_i forms is os hg
 refine Sat.cond (fun hb0=>?_) fun _=>Sat.fail
 simp only[Bool.and_eq_true] at hb0
 have hnd:=ZdW hb0.1
 have hap:=ZkF hb0.2
 refine Sat.bind (hcl forms) fun ans hans=>?_
 obtain ⟨r,outs⟩:=ans
 obtain ⟨hknown,hans⟩:=hans
 simp only
 split
 ·exact Sat.fail
 rename_i st2 hback
 have key:(∀F ρ w (a:Act),R Mod F ρ w st a.tmps→∀F2 ρ2 w2 v Lr,R Mod F2 ρ2 w2 st2 a.tmps→Evo Mod F w F2 w2→TReps F2 w2 [r] [v] Lr→Fr Mod F2 ρ2 w2 st2 Lr→∀st3,(∃ρ3,R Mod F2 ρ3 w2 st3 (a.put o.dst v).tmps)→True):=fun _ _ _ _ _ _ _ _ _ _ _ _ _ _ _ _=>trivial
 clear key
 have main:∀st3:St,(∀F ρ w (a:Act) v Lr,R Mod F ρ w st2 a.tmps→TReps F w [r] [v] Lr→Fr Mod F ρ w st2 Lr→∃ρ',R Mod F ρ' w st3 (a.put o.dst v).tmps)→OpOK P Mod o st st3:=by
  intro st3 h3 F ρ w a Q hR hdef
  have hargs:CsRep F ρ w st xs (evs a):=hrep F ρ w a hR
  obtain ⟨F1,hR1,hE1,href1,hF1⟩:=ZbO is hR
  obtain ⟨hT,hok⟩:=Zlw (F1:=F1) (H:=fun is=>takes cl f=true∨rowsIn st ρ F1 is) (fun a b h=>⟨h.imp id fun h i hi=>h i (by simp[hi]),h.imp id fun h i hi=>h i (by simp[hi])⟩) _ hg hargs (fun x _ v y is' os' hg' hi' hxv=>ZjS hR hE1.more 6 (takes cl f) x v y is' os' hg' hi' hxv) (.inr hF1)
  have hfree1:∀id∈os,∃ver o,find id (st.lock is).ob=some (ver,o)∧o.free=true:=fun id hid=>by
   rw[Zdo is (hap id hid)]
   exact hok.1 id hid
  have hLn:(blocks ρ os).Nodup:=Zeu hR hnd hok.1
  have hL:∀b∈blocks ρ os,¬F1 b∧b < w.heap.size∧Mod b:=fun b hb'=>by
   obtain ⟨id,hid,hbi⟩:=Zfb.1 hb'
   obtain ⟨ver,ob,hf,hfr⟩:=hfree1 id hid
   obtain ⟨s1,s2,s3,_⟩:=hR1.sep _ _ _ _ hf hfr hbi
   exact ⟨s1,s3,s2⟩
  have hcall:=hans F1 w (evs a) (blocks ρ os) hT hLn (fun b hb'=>⟨(hL b hb').1,(hL b hb').2.1⟩) hR1.low hR1.tabs
  have hrun:=hexec F ρ w a hR hknown
  unfold Oper.wp
  rw[hrun,Oper.upon_enter]
  refine Calls.mono hcall fun e w' he=>?_
  cases e with
  | panicked ch=>exact he.elim
  | outgrown=>exact he.elim
  | returned v=>
   obtain ⟨F',Lr,Lo,hE,hlow',hTr,hTo,hnd',hfresh⟩:=he
   have fin:∀(stb:St) (Fb F2:Nat→Prop),R Mod Fb ρ w stb a.tmps→Evo Mod F w Fb w→Ref st ρ stb ρ→(∀b,Fb b→F1 b)→(∀id∈os,find id stb.ob=find id st.ob)→
     Evo (ModC (blocks ρ os) w) Fb w F2 w'→(∀b,F2 b→F' b)→TReps F2 w' [r] [v] Lr→TReps F2 w' outs (evs a) Lo→
     backA (dropIds os stb) (xs.zip outs)=some st2→OpPost Mod F w st3 (a.put o.dst v) w':=by
    intro stb Fb F2 hRb hEb hrefb hFb hosb hE2 hF2 hTr2 hTo2 hbk
    obtain ⟨d1,d2,d3,d4,d5⟩:=ZjG os hRb
    have hheld:∀b,held (dropIds os stb) ρ b→b∉blocks ρ os∧b < w.heap.size:=fun b hh=>by
     obtain ⟨i,ver,ob,hf,hfr,hbi,hni⟩:=d4 b hh
     refine ⟨fun hm=>?_,(hRb.sep _ _ _ _ hf hfr hbi).2.2.1⟩
     obtain ⟨j,hj,hbj⟩:=Zfb.1 hm
     obtain ⟨ver2,ob2,hf2,hfr2⟩:=hok.1 j hj
     rw[←hosb j hj] at hf2
     have:=(hRb.sep _ _ _ _ hf2 hfr2 hbj).2.2.2 _ _ _ hf hfr hbi
     subst this
     exact hni hj
    have hMod:∀b,ModC (blocks ρ os) w b→Mod b:=fun b hb'=>hb'.elim (fun hm=>(hL b hm).2.2) (hR.hi b)
    obtain ⟨w1,w2⟩:=d1.world hE2 hMod (fun b hh hm=>by
     obtain ⟨h1,h2⟩:=hheld b hh
     rcases hm with hm | hm
     ·exact h1 hm
     ·omega) (fun b hb'=>hlow' b (hF2 b hb'))
    have hfr:Fr Mod F2 ρ w' (dropIds os stb) (Lo++Lr):=⟨hnd',fun b hb'=>by
     obtain ⟨k1,k2,k3⟩:=hfresh b hb'
     refine ⟨fun hF=>k1 (hF2 b hF),hMod b k2,k3,fun hh=>?_⟩
     obtain ⟨h1,h2⟩:=hheld b hh
     rcases k2 with k2 | k2
     ·exact h1 k2
     ·omega⟩
    have hk:Keeps Fb w F2 w':=hE2.keeps hRb.low
    have hargs2:CsRep F2 ρ w' (dropIds os stb) xs (evs a):=(hargs.mono ⟨hEb.more,fun _ _=>rfl⟩ hrefb).mono hk d2
    obtain ⟨ρ3,r3,c3⟩:=Zlt _ _ _ hbk w1 hargs2 hTo2 hfr.left
    obtain ⟨ρ4,r4⟩:=h3 F2 ρ3 w' a v Lr r3 hTr2 (hfr.right c3)
    exact ⟨by rw[ZX];exact hdef,F2,ρ4,r4,hEb.trans w2⟩
   show OpPost Mod F w st3 (a.put o.dst v) w'
   cases hsl:(hasSl 6 r || hasSl.anyB (hasSl 6) outs) with
   | true=>
    rw[hsl] at hback
    exact fin (st.lock is) F1 F' hR1 hE1 href1 (fun _ h=>h) (fun id hid=>Zdo is (hap id hid)) hE (fun _ h=>h) hTr hTo hback
   | false=>
    rw[hsl] at hback
    simp only[Bool.or_eq_false_iff] at hsl
    refine fin st F (fun b=>F' b∧(F1 b→F b)) hR (Evo.refl _ _ _) Ref.refl hE1.more (fun _ _=>rfl) ?_ (fun b hb'=>hb'.1) (hTr.noSl 6 (by simp[hasSl.anyB,hsl.1])) (hTo.noSl 6 hsl.2) hback
    refine ⟨hE.os,hE.tape,hE.output,hE.size,fun b hb'=>⟨hE.more b (hE1.more b hb'),fun _=>hb'⟩,fun b hb'=>?_,fun b hlt hF=>hE.same b hlt (hF.imp (hE1.more b) id)⟩
    exact (hE.new b hb'.1).imp hb'.2 id
 split
 ·rename_i hd
  refine Sat.pure (main st2 fun F ρ w a v Lr hr _ _=>⟨ρ,by rw[hd];exact hr⟩)
 ·rename_i d hd
  split
  ·rename_i v3 st3 him
   refine Sat.pure (main _ fun F ρ w a v Lr hr hT hF=>?_)
   obtain ⟨ρ',r',a',c'⟩:=Zn5 6 st2 ρ _ r v3 v st3 Lr him hr hT hF
   exact ⟨ρ',by rw[hd];exact R.put (a:=a) r' a' (some d)⟩
  ·exact Sat.fail
theorem Ztv {cl:Cl} (hcl:Spec P cl) {f:FuncId} {xs:List AV} {evs:Act→List Value} (hrep:∀(F:Nat→Prop) (ρ:Rho) (w:World) (a:Act),R Mod F ρ w st a.tmps→CsRep F ρ w st xs (evs a))
  (hexec:∀(F:Nat→Prop) (ρ:Rho) (w:World) (a:Act),R Mod F ρ w st a.tmps→Known P f→(execOp a.eval o).run P w=.ok (.enter f (evs a).toArray) w):
  Sat (callA cl f xs o.dst st) (OpOK P Mod o st):=
 Zts (g:=List.toArray) (fun forms k y h=>(hcl f forms k y h).imp fun ans h=>⟨⟨h.1.1,h.1.2.1⟩,h.2⟩) hrep hexec
theorem Zyw {id ver off:Nat} {ob:Obj} (hob:st.obj id ver=some ob) {v1 v2:Value} (h1:ARep F ρ w st (.pt id ver off) v1) (h2:ARep F ρ w st (.pt id ver off) v2):v1=v2:=by
 cases h1 with
 | pt _ _ _ _ _ _ h1=>
  cases h2 with
  | pt _ _ _ _ _ _ h2=>
   obtain ⟨b1,e1,f1⟩:=h1 ob hob
   obtain ⟨b2,e2,f2⟩:=h2 ob hob
   rw[e1] at e2
   cases e2
   rw[f1,f2]
theorem Zqf {xs:List AV} {x:AV} (h:same2 xs=some x):∃i v,xs=[.pt i v 0,.pt i v 0]∧x=.pt i v 0:=by
 unfold same2 at h
 split at h
 ·rename_i i v j u
  cases hb:(Nat.beq i j&&Nat.beq v u) with
  | false=>rw[hb] at h;cases h
  | true=>
   rw[hb] at h
   rw[Bool.and_eq_true] at hb
   obtain rfl:=Nat.eq_of_beq_eq_true hb.1
   obtain rfl:=Nat.eq_of_beq_eq_true hb.2
   cases h
   exact ⟨i,v,rfl,rfl⟩
 ·cases h
theorem Zwy {cl:Cl} (hcl:Spec P cl) {f:FuncId} {xs:List AV} {evs:Act→List Value} (hrep:∀(F:Nat→Prop) (ρ:Rho) (w:World) (a:Act),R Mod F ρ w st a.tmps→CsRep F ρ w st xs (evs a))
  (hexec:∀(F:Nat→Prop) (ρ:Rho) (w:World) (a:Act),R Mod F ρ w st a.tmps→Known P f→(execOp a.eval o).run P w=.ok (.enter f (evs a).toArray) w):
  Sat (callX cl f xs o.dst st) (OpOK P Mod o st):=by
 unfold callX
 cases hs:same2 xs with
 | none=>exact Ztv hcl hrep hexec
 | some x=>
  obtain ⟨i,v,rfl,rfl⟩:=Zqf hs
  simp only
  cases hob:st.obj i v with
  | none=>
   unfold callA
   have:allG (give st (takes (sameCl cl) f) 6) [.pt i v 0]=none:=by simp only[allG,give,hob];rfl
   rw[this]
   exact Sat.fail
  | some ob=>
   refine Zts (cl:=sameCl cl) (g:=twice) (fun forms k y h=>?_) (evs:=fun a=>(evs a).take 1) (fun F ρ w a hR=>?_) fun F ρ w a hR hk=>?_
   ·obtain ⟨ans,h1,h2⟩:=hcl f (.pt 0 0 1 :: forms) k y h
    exact ⟨ans,⟨h1.1,h1.2.2 forms rfl⟩,h2⟩
   ·have h:=hrep F ρ w a hR
    generalize evs a=e at h
    match e,h with
    | [v1,v2],h=>exact .cons (h.2 0 _ v1 rfl rfl) .nil
    | [],h=>exact absurd h.1 (by simp)
    | [_],h=>exact absurd h.1 (by simp)
    | _ :: _ :: _ :: _,h=>exact absurd h.1 (by simp)
   ·have h:=hrep F ρ w a hR
    have e:(evs a).toArray=twice ((evs a).take 1):=by
     generalize evs a=e at h
     match e,h with
     | [v1,v2],h=>
      have:=Zyw hob (h.2 0 _ v1 rfl rfl) (h.2 1 _ v2 rfl rfl)
      subst this
      rfl
     | [],h=>exact absurd h.1 (by simp)
     | [_],h=>exact absurd h.1 (by simp)
     | _ :: _ :: _ :: _,h=>exact absurd h.1 (by simp)
    rw[←e]
    exact hexec F ρ w a hR hk
theorem Zv8 {cl:Cl} (hcl:Spec P cl) {c:Call} {x:Operand} {f:FuncId} (h:o.op=.call c) (hc:c.callee=.value x) (hx:st.ev x=.cst (.func (.func f) #[] #[])):
  Sat (callX cl f (asArg st c.args.toList) o.dst st) (OpOK P Mod o st):=
 Zwy hcl (evs:=fun a=>c.args.toList.map a.eval) (fun F ρ w a hR=>Zdt hR _) fun F ρ w a hR ⟨fn,body,hfn,hname,hbody⟩=>by
  have hf0:=Zt hR x
  rw[hx] at hf0
  have hev:a.eval x=.func (.func f) #[] #[]:=ZoT hf0
  have he:(c.args.toList.map a.eval).toArray=c.args.map a.eval:=by apply Array.ext';simp
  rw[he]
  have hn:¬fn.name= "runtime.NumGoroutine" :=by simpa using hname
  simp[execOp,h,resolve,hc,hev,Deferred.ofValue,invoke,callFunc,hfn,hn,hbody]
def capsOf:Value→List Value
 |.func _ _ vs=>vs.toList
 | _=>[]
theorem Zwk {cl:Cl} (hcl:Spec P cl) {c:Call} {x:Operand} {f:FuncId} {cs:List AV} (h:o.op=.call c) (hc:c.callee=.value x) (hx:st.ev x=.fn f cs):
  Sat (callA cl f (asArg st c.args.toList++cs) o.dst st) (OpOK P Mod o st):=by
 have hfn:∀(F:Nat→Prop) (ρ:Rho) (w:World) (a:Act),R Mod F ρ w st a.tmps→∃vs:Array Value,a.eval x=.func (.func f) #[] vs∧CsRep F ρ w st cs vs.toList:=fun F ρ w a hR=>by
  have hf0:=Zt hR x
  rw[hx] at hf0
  generalize a.eval x=u at hf0
  cases hf0 with
  | fn _ _ vs hl hall=>exact ⟨vs,rfl,by simpa using hl,fun i c v h1 h2=>hall i c v h1 (by simpa using h2)⟩
 refine Ztv hcl (evs:=fun a=>c.args.toList.map a.eval++capsOf (a.eval x)) (fun F ρ w a hR=>?_) fun F ρ w a hR ⟨fn,body,hfn1,hname,hbody⟩=>?_
 ·obtain ⟨vs,e,hvs⟩:=hfn F ρ w a hR
  rw[e]
  exact (Zdt hR _).append hvs
 ·obtain ⟨vs,e,hvs⟩:=hfn F ρ w a hR
  have hn:¬fn.name= "runtime.NumGoroutine" :=by simpa using hname
  have he:(c.args.toList.map a.eval++capsOf (a.eval x)).toArray=c.args.map a.eval++vs:=by apply Array.ext';simp[e,capsOf]
  rw[he]
  simp[execOp,h,resolve,hc,e,Deferred.ofValue,invoke,callFunc,hfn1,hn,hbody]
theorem Zvd {cl:Cl} {f:FuncId} {first caps:Array Operand} (h:o.op=.makeFunc (.func f) first caps):Sat (opA P cl o st) (OpOK P Mod o st):=by
 simp only[opA,h]
 refine Sat.cond (fun he=>Sat.pure (ZG fun F ρ w a hR=>?_)) fun _=>Sat.fail
 have he:first= #[]:=by simpa using he
 subst he
 have hr:=Zdt hR caps.toList
 refine ⟨.func (.func f) #[] (caps.map a.eval),by simp[execOp,h,Instr.makeFunc],.fn _ _ _ (by simpa using hr.1) fun i c v h1 h2=>hr.2 i c v h1 (by simpa using h2)⟩
end
end Go.Ev
end

section
namespace Go.Ev
variable [Tabs] [Orgs]
open Go
section
variable {P:Program} {Mod:Nat→Prop} {o:Oper} {st:St} {F:Nat→Prop} {ρ:Rho} {w:World} {tm:Array Value}
theorem ZkQ {cl:Cl} (hcl:Spec P cl):Sat (opA P cl o st) (OpOK P Mod o st):=by
 cases h:o.op with
 | move x=>exact Zyf h
 | assign x=>exact Zwt h
 | pick c a b=>exact Zyk h
 | alloc T=>exact Zw7 h
 | box T x=>exact Zyq h
 | build T ps=>exact Zxy h
 | buildSlice T n ps=>exact ZqU h
 | load T x=>exact Zx5 h
 | store T x v=>exact Zxp h
 | nilCheck x=>exact Zun h
 | binOp op T x y T'=>exact Zyx h
 | unOp op T x=>exact Zyz h
 | convert a b x=>exact ZvO h
 | makeInterface T x=>exact Zxi h
 | makeMap T r=>cases r with
  | none=>exact ZvK h
  | some r=>simp only[opA,h];exact Sat.fail
 | makeSlice T n c=>exact Ztr h
 | slice T x lo hi mx=>cases mx with
  | none=>exact Zxm h
  | some m=>simp only[opA,h];exact Sat.fail
 | fieldAddr S x j=>exact Ztc h
 | field T x j=>exact Zxg h
 | indexAddr T x i=>exact ZtD h
 | index T x i=>exact ZxP h
 | lookup T x k ok=>exact Zwj h
 | mapUpdate T x k v=>exact Ztm h
 | range T x=>exact ZxG h
 | next x s=>cases s with
  | true=>exact Zyb h
  | false=>simp only[opA,h];exact Sat.fail
 | typeAssert x T0 T ok=>exact Zwa h
 | makeFunc fn first caps=>cases fn with
  | func f=>exact Zvd h
  | _=>simp only[opA,h];exact Sat.fail
 | extract x j=>exact ZvS h
 | call c=>
  cases hc:c.callee with
  | builtin b=>cases b with
   | len=>exact Zyt h hc
   | append=>exact Zww h hc
   | min=>exact ZsJ h (.inl hc)
   | max=>exact ZsJ h (.inr hc)
   | _=>simp only[opA,h,hc];exact Sat.fail
  | value x=>
   simp only[opA,h,hc]
   split
   ·rename_i f first caps hx
    refine Sat.cond (fun he=>?_) fun _=>Sat.fail
    simp only[Bool.and_eq_true,Array.isEmpty_iff] at he
    obtain ⟨rfl,rfl⟩:=he
    exact Zv8 hcl h hc hx
   ·rename_i f cs hx
    exact Zwk hcl h hc hx
   ·exact Sat.fail
  | invoke r m=>simp only[opA,h,hc];exact Sat.fail
 | _=>simp only[opA,h];exact Sat.fail
def Rel (Mod F0:Nat→Prop) (w0:World) (st:St) (a:Act) (w:World):Prop:=a.defers=[]∧∃F ρ,R Mod F ρ w st a.tmps∧Evo Mod F0 w0 F w
theorem ZoQ {m:M St} (hm:Sat m (OpOK P Mod o st)) {F0:Nat→Prop} {w0:World} {a:Act} {y:Ans} {k:St→Option Ans} (h:m k=some y) (hr:Rel Mod F0 w0 st a w) (Q:Exit→Act→World→Prop):
  o.wp P a w (fun a' w'=>∃st',Rel Mod F0 w0 st' a' w'∧k st'=some y) Q:=by
 obtain ⟨st',hok,hk⟩:=hm k y h
 obtain ⟨hd,F,ρ,hR,hE⟩:=hr
 refine Oper.wp_mono (fun a' w' h'=>?_) (hok F ρ w a Q hR hd)
 obtain ⟨hd',F',ρ',hR',hE'⟩:=h'
 exact ⟨st',⟨hd',F',ρ',hR',hE.trans hE'⟩,hk⟩
theorem Zv0 {cl:Cl} (hcl:Spec P cl) {F0:Nat→Prop} {w0:World} {a:Act} {y:Ans} {k:St→Option Ans} (h:opA P cl o st k=some y) (hr:Rel Mod F0 w0 st a w) (Q:Exit→Act→World→Prop):
  o.wp P a w (fun a' w'=>∃st',Rel Mod F0 w0 st' a' w'∧k st'=some y) Q:=ZoQ (ZkQ hcl) h hr Q
theorem Ziz {a:Act} {F0:Nat→Prop} {w0:World} (hr:Rel Mod F0 w0 st a w) (d:Option Nat):Rel Mod F0 w0 (st.put d sk) (a.put d undef) w:=by
 obtain ⟨hd,F,ρ,hR,hE⟩:=hr
 exact ⟨by rw[ZX];exact hd,F,ρ,R.put hR (.cst _) d,hE⟩
theorem Zj0 {st:St} {t:Nat} {x:AV} (h:st.tm.getD t .top=x) (hx:x≠ .top):st.tm.set t x=st.tm:=by
 apply List.ext_getElem?
 intro i
 rw[List.getElem?_set]
 split
 ·rename_i hi
  subst hi
  rw[List.getD_eq_getElem?_getD] at h
  cases he:st.tm[t]? with
  | none=>rw[he] at h;exact absurd h.symm hx
  | some z=>
   rw[he] at h
   simp only[Option.getD_some] at h
   subst h
   rw[if_pos (List.getElem?_eq_some_iff.1 he).1]
 ·rfl
theorem ZlK {op:Oper→St→M St} (hop:∀(o:Oper) (st:St),Sat (op o st) (OpOK P Mod o st)) {F0:Nat→Prop} {w0:World} {y:Ans} {ops:Array Oper} {k:St→Option Ans} {Q:Exit→Act→World→Prop}
  (hQ:∀st a w,Rel Mod F0 w0 st a w→k st=some y→Q .normal a w):
  ∀(l:List Oper) (i:Nat) (st:St) (a:Act) (w:World),ops.toList.drop i=l→opsG op ops l st k=some y→Rel Mod F0 w0 st a w→wpOps P ops Q (List.range' i l.length) a w
 | [],i,st,a,w,_,h,hr=>hQ st a w hr h
 | o :: r,i,st,a,w,hl,h,hr=>by
  have ho:ops[i]? =some o:=by
   have:(ops.toList.drop i)[0]? =some o:=by rw[hl];rfl
   simpa using this
  have hl':ops.toList.drop (i+1)=r:=by rw[←List.tail_drop,hl];rfl
  rw[List.length_cons,List.range'_succ,wpOps_cons]
  unfold wpOp
  simp only[ho]
  have run:(op o st) (fun st=>opsG op ops r st k)=some y→o.wp P a w (wpOps P ops Q (List.range' (i+1) r.length)) Q:=fun h=>by
   refine Oper.wp_mono (fun a' w' h'=>?_) (ZoQ (hop o st) h hr Q)
   obtain ⟨st',hr',hk⟩:=h'
   exact ZlK hop hQ r (i+1) st' a' w' hl' hk hr'
  cases hg:o.guard with
  | none=>
   simp only[opsG,hg] at h
   have hw:Region.wanted o (yielded ops a.tmps)=true:=by unfold Region.wanted;rw[hg]
   rw[if_pos hw]
   exact .inl (run h)
  | some jw=>
   obtain ⟨j,want⟩:=jw
   cases ht:(ops[j]?).bind (·.dst) with
   | none=>simp only[opsG,hg,ht] at h;cases h
   | some t=>
    cases hb:st.tm.getD t .top with
    | d T b=>
     cases T with
     | bool=>
      have hset:({ st with tm:=st.tm.set t (.d .bool b) } :St)=st:=by
       cases st with
       | mk tmm obb=>simp only[St.mk.injEq,and_true];exact Zj0 (st:=⟨tmm,obb⟩) hb (by simp)
      have hy:yielded ops a.tmps j=some b:=by
       obtain ⟨_,F,ρ,hR,_⟩:=hr
       have h1:=Zt hR (.tmp t)
       simp only[St.ev] at h1
       rw[hb] at h1
       have h2:=Zcq h1
       simp only[Act.eval] at h2
       unfold yielded
       rw[ht]
       simp only[Option.bind_some]
       rw[Array.getD_eq_getD_getElem?] at h2
       cases he:a.tmps[t]? with
       | none=>rw[he] at h2;simp[undef] at h2
       | some v=>rw[he] at h2;simp only[Option.getD_some] at h2;rw[h2]
      simp only[opsG,hg,ht,hb] at h
      cases b <;> cases want <;> simp only[M.bind,branch,cond_true,cond_false] at h <;> rw[hset] at h
      ·have hw:Region.wanted o (yielded ops a.tmps)=true:=by unfold Region.wanted;rw[hg];simp only[hy];rfl
       rw[if_pos hw]
       exact .inl (run h)
      ·have hw:¬Region.wanted o (yielded ops a.tmps)=true:=by unfold Region.wanted;rw[hg];simp only[hy];decide
       rw[if_neg hw]
       exact ZlK hop hQ r (i+1) _ _ w hl' h (Ziz hr o.dst)
      ·have hw:¬Region.wanted o (yielded ops a.tmps)=true:=by unfold Region.wanted;rw[hg];simp only[hy];decide
       rw[if_neg hw]
       exact ZlK hop hQ r (i+1) _ _ w hl' h (Ziz hr o.dst)
      ·have hw:Region.wanted o (yielded ops a.tmps)=true:=by unfold Region.wanted;rw[hg];simp only[hy];rfl
       rw[if_pos hw]
       exact .inl (run h)
     | _=>simp only[opsG,hg,ht,hb] at h;cases h
    | cst u=>
     simp only[opsG,hg,ht,hb] at h
     cases hn:notBool u with
     | false=>rw[hn] at h;cases h
     | true=>
      rw[hn] at h
      have hy:yielded ops a.tmps j=none:=by
       obtain ⟨_,F,ρ,hR,_⟩:=hr
       have h1:=Zt hR (.tmp t)
       simp only[St.ev] at h1
       rw[hb] at h1
       have h2:=ZoT h1
       simp only[Act.eval] at h2
       unfold yielded
       rw[ht]
       simp only[Option.bind_some]
       rw[Array.getD_eq_getD_getElem?] at h2
       cases he:a.tmps[t]? with
       | none=>rfl
       | some v=>
        rw[he] at h2
        simp only[Option.getD_some] at h2
        subst h2
        cases v <;> first | rfl | (simp[notBool] at hn)
      have hw:¬Region.wanted o (yielded ops a.tmps)=true:=by unfold Region.wanted;rw[hg];simp only[hy];cases want <;> decide
      rw[if_neg hw]
      exact ZlK hop hQ r (i+1) _ _ w hl' h (Ziz hr o.dst)
    | _=>simp only[opsG,hg,ht,hb] at h;cases h
theorem Zxj {cl:Cl} (hcl:Spec P cl) {F0:Nat→Prop} {w0:World} {y:Ans} {ops:Array Oper} {k:St→Option Ans} {Q:Exit→Act→World→Prop}
  (hQ:∀st a w,Rel Mod F0 w0 st a w→k st=some y→Q .normal a w):
  ∀(l:List Oper) (i:Nat) (st:St) (a:Act) (w:World),ops.toList.drop i=l→opsA P cl ops l st k=some y→Rel Mod F0 w0 st a w→wpOps P ops Q (List.range' i l.length) a w:=
 ZlK (fun _ _=>ZkQ hcl) hQ
end
end Go.Ev
end

section
namespace Go.Ev
variable [Tabs] [Orgs]
open Go
section
variable {P:Program} {Mod:Nat→Prop} {o:Oper} {st:St} {F F1:Nat→Prop} {ρ:Rho} {w:World} {tm:Array Value}
def mkG (g:Value) (B:List Nat):Value:=.tuple #[g,.tuple (B.map fun b=>Value.map (some b)).toArray]
theorem Zp3 (g:Value) (B:List Nat):hb (mkG g B)=B:=by
 show (B.map fun b=>Value.map (some b)).toArray.toList.flatMap hb1=B
 rw[List.toList_toArray]
 induction B with
 | nil=>rfl
 | cons b r ih=>rw[List.map_cons,List.flatMap_cons,ih];rfl
theorem Zv7 (g:Value) (B:List Nat):gv (mkG g B)=g:=rfl
def mkT (h:Value) (ks:List Value):Value:=.tuple (h :: ks).toArray
theorem Zvw (h:Value) (ks:List Value):gv (mkT h ks)=h:=rfl
theorem Zqw (h:Value) (ks:List Value) (i:Nat):gk (mkT h ks) i=ks.getD i undef:=by
 show ((h :: ks).toArray).getD (i+1) undef=_
 simp[Array.getD_eq_getD_getElem?,List.getD_eq_getElem?_getD]
theorem RowRep.deep {E:TypeId} {t:Ty} {l:List (El t)} {v:Value} (h:RowRep F w E t l v) {g:Value} (hg:gv g=v):DRow F w E (.leaf t) g l (hb v):=by
 obtain ⟨cells,hown,hl⟩:=h
 refine ⟨cells,List.replicate l.length [],by rw[hg];exact hown,by simp,?_,fun i x hx=>?_⟩
 ·rw[hg,Zca hown];simp
 ·obtain ⟨cs,h1,h2⟩:=hl i x hx
  exact ⟨cs,[],by simp[(List.getElem?_eq_some_iff.1 hx).1],⟨h1,rfl⟩,h2⟩
theorem CsRep.split {cs:List AV} {vs:List Value} (h:CsRep F ρ w st cs vs) (n:Nat):∃v1 v2,vs=v1++v2∧CsRep F ρ w st (cs.take n) v1∧CsRep F ρ w st (cs.drop n) v2:=⟨vs.take n,vs.drop n,(List.take_append_drop n vs).symm,h.take n,h.drop n⟩
theorem Zle (hR:R Mod F ρ w st tm) {st':St} (hk:Keeps F w F1 w) (hr:Ref st ρ st' ρ):∀ {d:DTy} {cs rest:List AV} {x:El d.ty} {is ms:List Id} {vs:List Value},packD st d cs=some (x,rest,is,ms)→CsRep F ρ w st cs vs→
  (∀id∈is,∀v o,find id st.ob=some (v,o)→isRow o=true→∀b,b∈hb (ρ id)→F1 b)→
  ∃(v1 v2:List Value) (gs:List Value),vs=v1++v2∧CsRep F ρ w st rest v2∧gs.length=d.ty.cells∧(∀g k0,(∀m u,gs[m]? =some u→gk g (k0+m)=u)→ERep F1 w d g k0 x v1 (blocks ρ ms))∧∀id∈ms,∃ver o,find id st.ob=some (ver,o)∧o.free=true
 |.leaf t,cs,rest,x,is,ms,vs,h,hc,hF=>by
  simp only[packD] at h
  obtain ⟨⟨as,i1⟩,h1,h⟩:=Option.bind_eq_some_iff.1 h
  obtain ⟨y,h2,h⟩:=Option.map_eq_some_iff.1 h
  simp only[Prod.mk.injEq] at h
  obtain ⟨rfl,rfl,rfl,rfl⟩:=h
  obtain ⟨v1,v2,rfl,c1,c2⟩:=hc.split t.cells
  have h3:=Za4 h2 (ZfG hR hk hr h1 c1 hF)
  exact ⟨v1,v2,List.replicate t.cells undef,rfl,c2,by simp,fun g k0 _=>⟨h3,rfl⟩,fun _ h=>by cases h⟩
 |.ro d,[],_,_,_,_,_,h,_,_=>by simp only[packD] at h;cases h
 |.ro d,c :: cs,rest,x,is,ms,vs,h,hc,hF=>by
  match vs,hc.1 with
  | v :: vs,hl=>
   have hv:ARep F ρ w st c v:=hc.2 0 c v rfl rfl
   have hvs:CsRep F ρ w st cs vs:=⟨by simpa using hl,fun i c u a b=>hc.2 (i+1) c u a b⟩
   simp only[packD] at h
   split at h
   ·cases h
    cases hv
    exact ⟨[_],vs,[.slice none 0 0],rfl,hvs,rfl,fun g k0 hg=>by
     have e:=hg 0 _ rfl
     rw[Nat.add_zero] at e
     exact ⟨by rw[e];rfl,0,[],[],by rw[e];exact Zj3 _ _ _,rfl,by rw[e];rfl,fun i x hx=>by simp at hx⟩,fun _ h=>by cases h⟩
   ·rename_i id ver
    split at h
    ·rename_i E t l ho
     split at h
     ·rename_i hd
      subst hd
      cases h
      have hf:=Zw.1 ho
      cases hv with
      | own _ _ _ _ hbn h1 hp=>
       obtain ⟨_,A,c,hρ,rfl⟩:=hp _ _ _ _ ho
       have hrow:RowRep F w E t l (ρ id):=hR.obs id ver _ hf
       refine ⟨[_],vs,[ρ id],rfl,hvs,rfl,fun g k0 hg=>?_,fun i hi=>?_⟩
       ·have e:=hg 0 _ rfl
        rw[Nat.add_zero] at e
        have e2:gv (gk g k0)=ρ id:=by rw[e,hρ];rfl
        refine ⟨by rw[e2,hρ];rfl,E,?_⟩
        have h3:=(hrow.deep (g:=gk g k0) e2).keep hk (fun _ _=>rfl)
        simpa[blocks] using h3
       ·rcases List.mem_cons.1 hi with rfl | hi
        ·exact ⟨_,_,hf,rfl⟩
        ·cases hi
     ·cases h
    ·cases h
   ·rename_i id ver
    split at h
    ·rename_i E d' l ho
     split at h
     ·rename_i hd
      subst hd
      cases h
      have hf:=Zw.1 ho
      cases hv with
      | dn _ _ _ _ hbn h1 hp=>
       obtain ⟨_,rfl⟩:=hp _ _ _ ho
       obtain ⟨hnd,hrow⟩:=hR.obs id ver _ hf
       refine ⟨[_],vs,[gv (ρ id)],rfl,hvs,rfl,fun g k0 hg=>?_,fun i hi=>?_⟩
       ·have e:=hg 0 _ rfl
        rw[Nat.add_zero] at e
        refine ⟨by rw[e];rfl,E,?_⟩
        have h3:=DRow.keep hk (fun _ _=>rfl) hrow
        rw[e]
        simpa[blocks] using h3
       ·rcases List.mem_cons.1 hi with rfl | hi
        ·exact ⟨_,_,hf,rfl⟩
        ·cases hi
     ·cases h
    ·cases h
   ·cases h
 |.pr a b,cs,rest,x,is,ms,vs,h,hc,hF=>by
  simp only[packD] at h
  obtain ⟨⟨y1,r1,i1,m1⟩,h1,h⟩:=Option.bind_eq_some_iff.1 h
  obtain ⟨⟨y2,r2,i2,m2⟩,h2,h⟩:=Option.map_eq_some_iff.1 h
  simp only[Prod.mk.injEq] at h
  obtain ⟨rfl,rfl,rfl,rfl⟩:=h
  obtain ⟨v1,v2,g1,rfl,c1,l1,e1,o1⟩:=Zle hR hk hr h1 hc fun id hid=>hF id (by simp[hid])
  obtain ⟨v3,v4,g2,rfl,c2,l2,e2,o2⟩:=Zle hR hk hr h2 c1 fun id hid=>hF id (by simp[hid])
  refine ⟨v1++v3,v4,g1++g2,by simp,c2,by simp[l1,l2,Ty.cells],fun g k0 hg=>⟨v1,v3,_,_,rfl,by simp[blocks],e1 g k0 fun m u hu=>?_,e2 g _ fun m u hu=>?_⟩,fun id hid=>?_⟩
  ·exact hg m u (by rw[List.getElem?_append_left (List.getElem?_eq_some_iff.1 hu).1];exact hu)
  ·have:=hg (a.ty.cells+m) u (by rw[List.getElem?_append_right (by omega),l1];simpa using hu)
   rw[←this];congr 1;omega
  ·rcases List.mem_append.1 hid with hid | hid
   ·exact o1 id hid
   ·exact o2 id hid
theorem ZpV (hR:R Mod F ρ w st tm) {st':St} (hk:Keeps F w F1 w) (hr:Ref st ρ st' ρ) {d:DTy} :∀ {n:Nat} {cs:List AV} {l:List (El d.ty)} {is ms:List Id} {vs:List Value},packDN st d n cs=some (l,is,ms)→CsRep F ρ w st cs vs→
  (∀id∈is,∀v o,find id st.ob=some (v,o)→isRow o=true→∀b,b∈hb (ρ id)→F1 b)→
  ∃(Bs:List (List Nat)) (gs:List Value),l.length=n∧vs.length=n*d.ty.cells∧Bs.length=n∧gs.length=n∧blocks ρ ms=Bs.flatten∧(∀id∈ms,∃ver o,find id st.ob=some (ver,o)∧o.free=true)∧
   ∀(i:Nat) x,l[i]? =some x→∃us Bi gi,Bs[i]? =some Bi∧gs[i]? =some gi∧ERep F1 w d gi 0 x us Bi∧∀j u,us[j]? =some u→vs[i*d.ty.cells+j]? =some u
 | 0,[],l,is,ms,vs,h,hc,_=>by
  simp only[packDN] at h
  cases h
  have:=hc.1
  simp at this
  exact ⟨[],[],rfl,by simp[this.symm],rfl,rfl,rfl,fun _ h=>(by cases h),fun i x hx=>by simp at hx⟩
 | 0,_ :: _,l,is,ms,vs,h,_,_=>by simp[packDN] at h
 | n+1,cs,l,is,ms,vs,h,hc,hF=>by
  simp only[packDN] at h
  obtain ⟨⟨y1,r1,i1,m1⟩,h1,h⟩:=Option.bind_eq_some_iff.1 h
  obtain ⟨⟨ys,i2,m2⟩,h2,h⟩:=Option.map_eq_some_iff.1 h
  simp only[Prod.mk.injEq] at h
  obtain ⟨rfl,rfl,rfl⟩:=h
  obtain ⟨v1,v2,g1,rfl,c1,l1,e1,o1⟩:=Zle hR hk hr h1 hc fun id hid=>hF id (by simp[hid])
  obtain ⟨Bs,gs,a1,a2,a3,a4,a5,a6,a7⟩:=ZpV hR hk hr h2 c1 fun id hid=>hF id (by simp[hid])
  have he:=e1 (mkT undef g1) 0 fun m u hu=>by rw[Nat.zero_add,Zqw,List.getD_eq_getElem?_getD,hu];rfl
  have hv1:=he.length
  refine ⟨blocks ρ m1 :: Bs,mkT undef g1 :: gs,by simp[a1],by simp[hv1,a2,Nat.add_mul];omega,by simp[a3],by simp[a4],by simp[blocks,←a5],fun id hid=>?_,fun i x hx=>?_⟩
  ·rcases List.mem_append.1 hid with hid | hid
   ·exact o1 id hid
   ·exact a6 id hid
  ·cases i with
   | zero=>
    simp at hx
    subst hx
    exact ⟨v1,_,_,rfl,rfl,he,fun j u hu=>by rw[Nat.zero_mul,Nat.zero_add,List.getElem?_append_left (List.getElem?_eq_some_iff.1 hu).1];exact hu⟩
   | succ i=>
    simp at hx
    obtain ⟨us,Bi,gi,h3,h4,h5,h6⟩:=a7 i x hx
    refine ⟨us,Bi,gi,by simpa using h3,by simpa using h4,h5,fun j u hu=>?_⟩
    rw[List.getElem?_append_right (by rw[hv1,Nat.add_mul];omega)]
    rw[show (i+1)*d.ty.cells+j - v1.length=i*d.ty.cells+j by rw[hv1,Nat.add_mul];omega]
    exact h6 j u hu
end
end Go.Ev
end

section
namespace Go.Ev
variable [Tabs] [Orgs]
open Go
section
variable {P:Program} {Mod:Nat→Prop} {o:Oper} {st:St} {F F1:Nat→Prop} {ρ:Rho} {w:World} {tm:Array Value}
theorem ZpW {own:TypeId→Bool} {T E:TypeId} {d:DTy} {bytes:Nat} (h:elemD P own T=some (E,d,bytes)):Go.Ev.elemOf P T=some (E,d.ty,bytes):=by
 unfold elemD at h
 obtain ⟨⟨E',t,by'⟩,h1,h⟩:=Option.bind_eq_some_iff.1 h
 simp only at h
 cases ho:own E' with
 | false=>rw[ho] at h;cases h
 | true=>
  rw[ho] at h
  obtain ⟨d',h2,h⟩:=Option.bind_eq_some_iff.1 h
  split at h
  ·cases h
  ·split at h
   ·rename_i ht
    cases h
    rw[h1,ht]
   ·cases h
theorem ZwD {d0:Nat} (hd:o.dst=some d0) {st1:St} {id ver':Nat} {E:TypeId} {d:DTy} {l:List (El d.ty)}
  (h:∀F ρ w (a:Act),R Mod F ρ w st a.tmps→∃F1 v' w' tree B,R Mod F1 ρ w st1 a.tmps∧Evo Mod F w F1 w∧(execOp a.eval o).run P w=.ok (.value v') w'∧ver'=st1.nextVer id∧
   w'.os=w.os∧w'.tape=w.tape∧w'.output=w.output∧w.heap.size≤w'.heap.size∧(∀k,k < w.heap.size→(∀v o,find id st1.ob=some (v,o)→o.free=true→k∉hb (ρ id))→w'.heap[k]? =w.heap[k]?)∧
   (∀b∈B,¬F1 b∧Mod b∧b < w'.heap.size∧(∀i v o,i≠id→find i st1.ob=some (v,o)→o.free=true→b∉hb (ρ i)))∧B.Nodup∧v'=gv tree∧DRow F1 w' E d tree l B):
  OpOK P Mod o st ((st1.setOb id ver' (.deep E d l)).put (some d0) (.dn id ver' [])):=by
 intro F ρ w a Q hR hdef
 obtain ⟨F1,v',w',tree,B,hR1,hE1,hrun,hver,e1,e2,e3,e4,hsame,hB,hnd,rfl,hrow⟩:=h F ρ w a hR
 unfold Oper.wp
 rw[hrun]
 show OpPost Mod F w _ (a.put o.dst _) _
 rw[hd]
 have hset:=R.set' hR1 (w':=w') (id:=id) (ver':=ver') (o':=.deep E d l) (h':=mkG tree B) e1 e2 e3 e4 (.inr hver) hsame
  (fun _ b hbb=>by rw[Zp3] at hbb;exact hB b hbb) (fun _ _ _ e=>by cases e) ⟨by rw[Zp3];exact hnd,by rw[Zp3,Zv7];exact hrow⟩
 obtain ⟨hR',hE⟩:=hset
 refine ⟨by rw[ZX];exact hdef,F1,_,R.put (a:=a) hR' (.dn _ _ _ _ ZcJ ?_ fun E2 d2 l2 ho=>⟨show okPath d2 l2 [] from trivial,?_⟩) (some d0),hE1.trans hE⟩
 ·obtain ⟨cells,Bs,hown,_⟩:=hrow
  rcases hown.2 with ⟨e,_⟩ | ⟨g,off,cap,cur,e,_⟩ <;> rw[e] <;> rfl
 ·simp only[updR,if_true]
  rfl
theorem Zkd {own:TypeId→Bool} {T:TypeId} {len:Nat} {parts:Array (Nat×Operand)} (h:o.op=.buildSlice T len parts) {E:TypeId} {d:DTy} {bytes:Nat} (hel:elemD P own T=some (E,d,bytes)) {s:Nat} {z:List AV} (hs:szOf P E=some s) (hz:zeroAV P E=some z)
  (hle:len*s≤16777216) {cs:List AV} (hfl:fillA (fun i=>some (i*s,s)) ((List.range (len*s)).map fun i=>z.getD (i % z.length) .top) (parts.toList.map fun p=>(p.1,st.ev p.2))=some cs)
  {l:List (El d.ty)} {is ms:List Id} (hp:packDN st d len cs=some (l,is,ms)) (hn:nodupB ms=true) (hap:apartB is ms=true) {d0:Nat} (hd:o.dst=some d0):
  OpOK P Mod o st (((dropIds ms (st.lock is)).setOb (rootId d0) ((dropIds ms (st.lock is)).nextVer (rootId d0)) (.deep E d l)).put (some d0) (.dn (rootId d0) ((dropIds ms (st.lock is)).nextVer (rootId d0)) [])):=by
 obtain ⟨hu,hty,i,zv,hi,hsz,hpos,hzz,hzs,hby,hbp⟩:=ZbZ (ZpW hel)
 have hs':s=d.ty.cells:=by
  unfold szOf at hs;rw[hi] at hs;simp at hs;omega
 subst hs'
 have hnd:=ZdW hn
 have hapt:=ZkF hap
 refine ZwD hd fun F ρ w a hR=>?_
 have hzv:z=zv.cells.toList.map ofVal:=by
  unfold zeroAV at hz
  rw[hi] at hz
  simpa[hzz] using hz.symm
 obtain ⟨F1,hR1,hE1,hr1,hF1⟩:=ZbO is hR
 have hk1:Keeps F w F1 w:=⟨hE1.more,fun _ _=>rfl⟩
 have hz0:CsRep F ρ w st ((List.range (len*d.ty.cells)).map fun i=>z.getD (i % z.length) .top) ((Array.range (len*d.ty.cells)).map (zv.cells[· % zv.cells.size]!)).toList:=by
  refine ⟨by simp,fun j c u h1 h2=>?_⟩
  simp only[List.getElem?_map] at h1
  simp only[Array.toList_map,Array.toList_range,List.getElem?_map] at h2
  cases hj:(List.range (len*d.ty.cells))[j]? with
  | none=>rw[hj] at h1;cases h1
  | some j'=>
   rw[hj] at h1 h2
   simp only[Option.map_some,Option.some.injEq] at h1 h2
   subst h1
   subst h2
   have hlz:0 < zv.cells.size:=by omega
   have hlt:=Nat.mod_lt j' hlz
   rw[hzv]
   simp only[List.length_map,Array.length_toList,List.getD_eq_getElem?_getD,List.getElem?_map]
   rw[Array.getElem?_toList,Array.getElem?_eq_getElem hlt,getElem!_pos zv.cells _ hlt]
   exact Zi2 _
 obtain ⟨us,h1,h2⟩:=Zlv (qs:=(parts.map fun (i,x)=>(i,a.eval x)).toList) hfl hz0 (by simp) (ZlM hR parts)
 obtain ⟨Bs,gs,a1,a2,a3,a4,a5,a6,a7⟩:=ZpV hR hk1 hr1 hp h2 hF1
 have hsl:(Go.sizeOf E).run P w=.ok d.ty.cells w:=ZP hs
 have ho1:∀id∈ms,∃ver o,find id (st.lock is).ob=some (ver,o)∧o.free=true:=fun id hid=>by rw[Zdo is (hapt id hid)];exact a6 id hid
 obtain ⟨r1,r2,r3,r4,r5⟩:=ZjG ms hR1
 have hblk:∀b∈blocks ρ ms,¬F1 b∧Mod b∧b < w.heap.size∧∀i v o,find i (dropIds ms (st.lock is)).ob=some (v,o)→o.free=true→b∉hb (ρ i):=fun b hb'=>by
  obtain ⟨id,hid,hbi⟩:=Zfb.1 hb'
  obtain ⟨ver,ob,hf,hfr⟩:=ho1 id hid
  obtain ⟨s1,s2,s3,s4⟩:=hR1.sep _ _ _ _ hf hfr hbi
  refine ⟨s1,s2,s3,fun i v o hfi hfri hbi'=>?_⟩
  obtain ⟨i',v',o',k1,k2,k3,k4⟩:=r4 b ⟨i,v,o,hfi,hfri,hbi'⟩
  exact k4 ((s4 _ _ _ k1 k2 k3)▸hid)
 have hlen:us.size=len*d.ty.cells:=by rw[←Array.length_toList,a2]
 have hw:∀b,b < w.heap.size→(w.alloc (.cells us E)).heap[b]? =w.heap[b]?:=fun b hb=>Zcp w _ hb
 have hk2:Keeps F1 w F1 (w.alloc (.cells us E)):=⟨fun _ h=>h,fun b hF=>hw b (hR1.low b hF)⟩
 refine ⟨F1,.slice (some ⟨w.heap.size,0,none⟩) len len,w.alloc (.cells us E),mkT (.slice (some ⟨w.heap.size,0,none⟩) len len) gs,w.heap.size :: blocks ρ ms,r1,hE1,?_,rfl,rfl,rfl,rfl,by simp,fun k hk _=>hw k hk,fun b hb=>?_,?_,rfl,us.toList,Bs,?_,by rw[a3,a1],by rw[Zvw,a5];rfl,fun j x hx=>?_⟩
 ·have hn:¬(len*d.ty.cells > 2 ^ 24):=by simp;omega
  by_cases h0:len*d.ty.cells=0
  ·have hr0:∀(f:Nat→Value),(Array.range (len*d.ty.cells)).map f= #[]:=fun f=>by
    apply Array.ext'
    rw[h0]
    simp
   rw[hr0] at h1
   simp only[execOp,h,Instr.buildSlice,Sem.run_bind,run_underlying hu,Result.andThen_ok,hsl,if_neg hn,if_pos h0,Sem.run_pure,hr0,h1,newRow]
   rfl
  ·simp only[execOp,h,Instr.buildSlice,Sem.run_bind,run_underlying hu,Result.andThen_ok,hsl,if_neg hn,if_neg h0]
   have hzr:(Go.zeroValue E).run P w=.ok zv w:=Zhz (by rw[hi];exact hzz)
   simp only[Sem.run_bind,hzr,Result.andThen_ok,Sem.run_pure,h1,newRow]
   rfl
 ·rcases List.mem_cons.1 hb with rfl | hb
  ·refine ⟨fun hF=>by have:=hR1.low _ hF;omega,hR.hi _ (Nat.le_refl _),by simp,fun i v o _ hf hfr hbi=>?_⟩
   obtain ⟨i',v',o',k1,k2,k3,k4⟩:=r4 _ ⟨i,v,o,hf,hfr,hbi⟩
   have:=(hR1.sep _ _ _ _ k1 k2 k3).2.2.1
   omega
  ·obtain ⟨s1,s2,s3,s4⟩:=hblk b hb
   exact ⟨s1,s2,by simp;omega,fun i v o _=>s4 i v o⟩
 ·refine List.nodup_cons.2 ⟨fun hm=>?_,Zeu hR hnd a6⟩
  have:=(hblk _ hm).2.2.1
  omega
 ·rw[Zvw]
  exact ownsAt.of ⟨by rw[a1,Array.length_toList,hlen],.inr ⟨_,len,us,by rw[a1],Nat.zero_le _,Zb4 _ _,by omega,ZnS (b:=d.ty.cells) (by omega) (by omega),hlen,by rw[a1,←hlen,←Array.length_toList,List.take_length]⟩⟩
 ·obtain ⟨cs',Bi,gi,k1,k2,k3,k4⟩:=a7 j x hx
  refine ⟨cs',Bi,k1,?_,k4⟩
  rw[Zqw,List.getD_eq_getElem?_getD,k2]
  refine k3.keep hk2 fun b hb=>hw b (hblk b ?_).2.2.1
  rw[a5]
  exact List.mem_flatten.2 ⟨Bi,List.mem_of_getElem? k1,hb⟩
theorem ERep.ones:∀ {d:DTy} {g:Value} {k:Nat} {x:El d.ty} {vs:List Value} {B:List Nat},ERep F w d g k x vs B→∀u∈vs,u.oneCell'=true
 |.leaf t,_,_,_,_,_,h=>h.1.ones
 |.ro d,g,k,l,vs,B,h=>by
  obtain ⟨rfl,E,cells,Bs,hown,_⟩:=h
  intro u hu
  simp only[List.mem_singleton] at hu
  subst hu
  rcases hown.2 with ⟨e,_⟩ | ⟨g,off,cap,cur,e,_⟩ <;> rw[e] <;> rfl
 |.pr a b,g,k,x,vs,B,h=>by
  obtain ⟨v1,v2,B1,B2,rfl,rfl,h1,h2⟩:=h
  intro u hu
  rcases List.mem_append.1 hu with hu | hu
  ·exact h1.ones u hu
  ·exact h2.ones u hu
def SrcD (F:Nat→Prop) (w:World) (d:DTy) (l:List (El d.ty)) (cells:List Value) (Bs:List (List Nat)) (gs:List Value):Prop:=
 Bs.length=l.length∧gs.length=l.length∧∀(i:Nat) x,l[i]? =some x→∃cs Bi gi,Bs[i]? =some Bi∧gs[i]? =some gi∧ERep F w d gi 0 x cs Bi∧∀j u,cs[j]? =some u→cells[i*d.ty.cells+j]? =some u
theorem RowD.src {E:TypeId} {d:DTy} {g:Value} {l:List (El d.ty)} {B:List Nat} (h:DRow F w E d g l B):∃cells Bs gs,ownsAt w E d.ty.cells (gv g) l.length cells∧B=hb1 (gv g)++Bs.flatten∧SrcD F w d l cells Bs gs:=by
 obtain ⟨cells,Bs,h1,h2,h3,h4⟩:=h
 refine ⟨cells,Bs,(List.range l.length).map (gk g),h1,h3,h2,by simp,fun i x hx=>?_⟩
 obtain ⟨cs,Bi,k1,k2,k3⟩:=h4 i x hx
 exact ⟨cs,Bi,_,k1,by simp[(List.getElem?_eq_some_iff.1 hx).1],k2,k3⟩
theorem SrcD.ones {d:DTy} {l:List (El d.ty)} {cells:List Value} {Bs:List (List Nat)} {gs:List Value} (h:SrcD F w d l cells Bs gs) (hz:0 < d.ty.cells) (hl:cells.length=l.length*d.ty.cells):∀u∈cells,u.oneCell'=true:=by
 intro u hu
 obtain ⟨m,hm⟩:=List.getElem?_of_mem hu
 have hlt:m < l.length*d.ty.cells:=by rw[←hl];exact (List.getElem?_eq_some_iff.1 hm).1
 have hi:m / d.ty.cells < l.length:=(Nat.div_lt_iff_lt_mul hz).2 hlt
 obtain ⟨cs,Bi,gi,_,_,h3,h4⟩:=h.2.2 (m / d.ty.cells) _ (ZbP (z:=dflt d.ty) hi)
 have hj:m % d.ty.cells < cs.length:=by rw[h3.length];exact Nat.mod_lt _ hz
 have h5:=h4 (m % d.ty.cells) cs[m % d.ty.cells] (by simp[hj])
 rw[Nat.mul_comm,Nat.div_add_mod,hm] at h5
 cases h5
 exact h3.ones _ (List.getElem_mem hj)
theorem SrcD.append {d:DTy} {l l':List (El d.ty)} {cells cells':List Value} {Bs Bs':List (List Nat)} {gs gs':List Value} (h:SrcD F w d l cells Bs gs) (h':SrcD F w d l' cells' Bs' gs') (hl:cells.length=l.length*d.ty.cells):SrcD F w d (l++l') (cells++cells') (Bs++Bs') (gs++gs'):=by
 refine ⟨by simp[h.1,h'.1],by simp[h.2.1,h'.2.1],fun i x hx=>?_⟩
 by_cases hi:i < l.length
 ·rw[List.getElem?_append_left hi] at hx
  obtain ⟨cs,Bi,gi,k1,k2,k3,k4⟩:=h.2.2 i x hx
  refine ⟨cs,Bi,gi,by rw[List.getElem?_append_left (by rw[h.1];exact hi)];exact k1,by rw[List.getElem?_append_left (by rw[h.2.1];exact hi)];exact k2,k3,fun j u hu=>?_⟩
  have:=k4 j u hu
  rw[List.getElem?_append_left (List.getElem?_eq_some_iff.1 this).1]
  exact this
 ·rw[List.getElem?_append_right (by omega)] at hx
  obtain ⟨cs,Bi,gi,k1,k2,k3,k4⟩:=h'.2.2 _ x hx
  refine ⟨cs,Bi,gi,by rw[List.getElem?_append_right (by rw[h.1];omega),h.1];exact k1,by rw[List.getElem?_append_right (by rw[h.2.1];omega),h.2.1];exact k2,k3,fun j u hu=>?_⟩
  have:l.length*d.ty.cells≤i*d.ty.cells:=Nat.mul_le_mul_right _ (by omega)
  rw[List.getElem?_append_right (by rw[hl];omega),hl,show i*d.ty.cells+j - l.length*d.ty.cells=(i - l.length)*d.ty.cells+j by rw[Nat.sub_mul];omega]
  exact k4 j u hu
theorem SrcD.keep {w':World} {d:DTy} {l:List (El d.ty)} {cells:List Value} {Bs:List (List Nat)} {gs:List Value} (h:SrcD F w d l cells Bs gs) (hk:Keeps F w F w') (hs:∀b∈Bs.flatten,w'.heap[b]? =w.heap[b]?):SrcD F w' d l cells Bs gs:=
 ⟨h.1,h.2.1,fun i x hx=>let ⟨cs,Bi,gi,k1,k2,k3,k4⟩:=h.2.2 i x hx;⟨cs,Bi,gi,k1,k2,k3.keep hk fun b hb=>hs b (List.mem_flatten.2 ⟨Bi,List.mem_of_getElem? k1,hb⟩),k4⟩⟩
theorem Zqi {d0:Nat} (hd:o.dst=some d0) {own:TypeId→Bool} {T E:TypeId} {d:DTy} {bytes:Nat} (hel:elemD P own T=some (E,d,bytes)) {c:Call} (hop:o.op=.call c) (hcal:c.callee=.builtin .append) (hat:c.argTypes= #[T,T])
  {s:AV} {idx verx:Nat} (hxs:asArg st c.args.toList=[s,.dn idx verx []]) {l2:List (El d.ty)} (hox:st.obj idx verx=some (.deep E d l2)) {l0:List (El d.ty)} {id ver':Nat} (hbnd:Nat.ble ((l0.length+l2.length)*bytes) limit=true)
  (hs:∀F ρ w (a:Act),R Mod F ρ w st a.tmps→∀v,ARep F ρ w st s v→ver'=(dropIds [idx] st).nextVer id∧∃cells Bs gs,ownsAt w E d.ty.cells v l0.length cells∧SrcD F w d l0 cells Bs gs∧(hb1 v++Bs.flatten).Nodup∧
   ∀b∈hb1 v++Bs.flatten,id≠idx∧∃vv oo,find id st.ob=some (vv,oo)∧oo.free=true∧b∈hb (ρ id)):
  OpOK P Mod o st (((dropIds [idx] st).setOb id ver' (.deep E d (l0++l2))).put (some d0) (.dn id ver' [])):=by
 obtain ⟨hu,hty,i,z,hi,hsz,hpos,hz,hzs,hby,hbp⟩:=ZbZ (ZpW hel)
 refine ZwD hd fun F ρ w a hR=>?_
 have hargr:=Zdt hR c.args.toList
 rw[hxs] at hargr
 obtain ⟨vs,hvs⟩:∃vs,c.args.toList.map a.eval=vs:=⟨_,rfl⟩
 rw[hvs] at hargr
 match vs,hargr.1 with
 | [v,u],_=>
  have hv:ARep F ρ w st s v:=hargr.2 0 _ _ rfl rfl
  have hu2:ARep F ρ w st (.dn idx verx []) u:=hargr.2 1 _ _ rfl rfl
  have hfx:=Zw.1 hox
  obtain ⟨hver,cells,Bs,gs,hown,hsrc,hnd,hblk⟩:=hs F ρ w a hR v hv
  have hux:u=gv (gv (ρ idx)):=by
   cases hu2 with
   | dn _ _ _ _ _ _ hp=>exact (hp _ _ _ hox).2
  obtain ⟨hndx,hrowx⟩:=hR.obs idx verx _ hfx
  obtain ⟨cellsx,Bx,gx,hownx,hBx,hsrcx⟩:=hrowx.src
  rw[←hux] at hownx hBx
  have hnewl:cellsx.length=l2.length*d.ty.cells:=hownx.1
  have hones:=hsrcx.ones (by omega) hnewl
  have hruns:Runs P w T T o.type E i z l2.length u cellsx:=by
   rcases hownx.2 with ⟨e1,e2⟩ | ⟨g,off,cap,cur,e1,_⟩
   ·rw[e1,e2]
    exact Runs.ofSlice hu hi hz (A:=none) (by rw[hnewl,e2,Nat.zero_mul,Nat.zero_mul]) (fun ad e=>by cases e) (fun _=>rfl) hones
   ·rw[e1] at hownx ⊢
    exact Runs.ofSlice hu hi hz (by rw[hnewl,hsz]) (fun ad e=>by cases e;exact fun j u hu=>by rw[Z7];exact hownx.cells hu) (fun e=>by cases e) hones
  have hbytes:=ZrD hbnd
  have h63:l0.length+l2.length≤maxLen:=ZnS hbp hbytes
  obtain ⟨v',w',hrun,hown',hg,hwhere⟩:=Zqn (P:=P) (ty:=o.type) hsz hzs hown hnewl hruns h63 (by rw[hby];exact hbytes)
  have hrun':(execOp a.eval o).run P w=.ok (.value v') w':=by
   have hargs':c.args.map a.eval= #[v,u]:=by
    apply Array.ext'
    rw[Array.toList_map,hvs]
   simp[execOp,hop,resolve,hcal,invoke,builtin,hat,hargs']
   rw[hrun]
   rfl
  have hhead:∀b,v.ownBlock=some b→b∈hb1 v:=fun b e=>by
   rw[Zca hown,ZmJ hown,e]
   simp
  have hxin:∀b∈Bx.flatten,b∈hb (ρ idx):=fun b hb=>by rw[hBx];simp only[List.mem_append];exact .inr hb
  have hsepx:∀b∈hb (ρ idx),¬F b∧Mod b∧b < w.heap.size∧∀i v o,i≠idx→find i st.ob=some (v,o)→o.free=true→b∉hb (ρ i):=fun b hb=>by
   obtain ⟨s1,s2,s3,s4⟩:=hR.sep _ _ _ _ hfx rfl hb
   exact ⟨s1,s2,s3,fun i v o hi hf hfr hbi=>hi (s4 _ _ _ hf hfr hbi)⟩
  have hseps:∀b∈hb1 v++Bs.flatten,¬F b∧Mod b∧b < w.heap.size∧(∀i v o,i≠id→find i st.ob=some (v,o)→o.free=true→b∉hb (ρ i))∧b∉hb (ρ idx):=fun b hb=>by
   obtain ⟨hne,vv,oo,hf,hfr,hbi⟩:=hblk b hb
   obtain ⟨s1,s2,s3,s4⟩:=hR.sep _ _ _ _ hf hfr hbi
   exact ⟨s1,s2,s3,fun i v o hi hf hfr hbi=>hi (s4 _ _ _ hf hfr hbi),fun hx=>hne (s4 _ _ _ hfx rfl hx).symm⟩
  have hkeep:∀b,b < w.heap.size→b∉hb1 v→w'.heap[b]? =w.heap[b]?:=fun b hb hn=>hg.block b hb fun e=>hn (hhead b e.symm)
  have hk:Keeps F w F w':=⟨fun _ h=>h,fun b hF=>hkeep b (hR.low b hF) fun hm=>(hseps b (by simp[hm])).1 hF⟩
  have hdrop:∀i,i≠idx→find i (dropIds [idx] st).ob=find i st.ob:=fun i hi=>by
   simp only[dropIds,hfx]
   rw[Zp,if_neg hi]
  have hdx:∀v o,find idx (dropIds [idx] st).ob=some (v,o)→o.free=false:=fun v o h=>by
   simp only[dropIds,hfx] at h
   rw[Zp,if_pos rfl] at h
   cases h
   rfl
  have hnf:∀i v o,find i (dropIds [idx] st).ob=some (v,o)→o.free=true→i≠idx∧find i st.ob=some (v,o):=fun i v o hf hfr=>by
   have hne:i≠idx:=fun e=>by subst e;rw[hdx v o hf] at hfr;cases hfr
   exact ⟨hne,by rw[←hdrop i hne];exact hf⟩
  obtain ⟨r1,r2,r3,r4,r5⟩:=ZjG [idx] hR
  have hw':∀b,v'.ownBlock=some b→b < w'.heap.size:=hown'.lt
  have hn1:=List.nodup_append.1 hnd
  refine ⟨F,v',w',mkT v' (gs++gx),hb1 v'++(Bs++Bx).flatten,r1,Evo.refl _ _ _,hrun',hver,hg.os,hg.tape,hg.output,hg.size,fun k hk' hne=>?_,fun b hb=>?_,?_,rfl,cells++cellsx,Bs++Bx,?_,by simp[hsrc.1,hsrcx.1],rfl,fun j x hx=>?_⟩
  ·refine hkeep k hk' fun hm=>?_
   obtain ⟨hni,vv,oo,hf,hfr,hbi⟩:=hblk k (by simp[hm])
   exact hne vv oo (by rw[hdrop id hni];exact hf) hfr hbi
  ·have hcase:b∈hb1 v++Bs.flatten∨b=w.heap.size∧b < w'.heap.size∨b∈Bx.flatten:=by
    rcases List.mem_append.1 hb with hb | hb
    ·rw[Zca hown'] at hb
     rcases hwhere with e | e
     ·rw[e,←Zca hown] at hb
      exact .inl (by simp[hb])
     ·rw[e] at hb
      obtain rfl:=List.mem_singleton.1 hb
      refine .inr (.inl ⟨rfl,hw' _ ?_⟩)
      rw[ZmJ hown'] at e
      cases h:v'.ownBlock with
      | none=>rw[h] at e;simp at e
      | some c=>rw[h] at e;simpa using e
    ·rw[List.flatten_append] at hb
     rcases List.mem_append.1 hb with hb | hb
     ·exact .inl (by simp only[List.mem_append];exact .inr hb)
     ·exact .inr (.inr hb)
   rcases hcase with hb | ⟨rfl,hlt⟩ | hb
   ·obtain ⟨s1,s2,s3,s4,_⟩:=hseps b hb
    exact ⟨s1,s2,Nat.lt_of_lt_of_le s3 hg.size,fun i v o hi hf hfr=>s4 i v o hi (hnf i v o hf hfr).2 hfr⟩
   ·refine ⟨fun hF=>by have:=hR.low _ hF;omega,hR.hi _ (Nat.le_refl _),hlt,fun i v o _ hf hfr hbi=>?_⟩
    have:=(hR.sep _ _ _ _ (hnf i v o hf hfr).2 hfr hbi).2.2.1
    omega
   ·obtain ⟨s1,s2,s3,s4⟩:=hsepx b (hxin b hb)
    exact ⟨s1,s2,Nat.lt_of_lt_of_le s3 hg.size,fun i v o _ hf hfr=>s4 i v o (hnf i v o hf hfr).1 (hnf i v o hf hfr).2 hfr⟩
  ·have hndx':Bx.flatten.Nodup:=by rw[hBx] at hndx;exact (List.nodup_append.1 hndx).2.1
   have h1:(Bs.flatten++Bx.flatten).Nodup:=List.nodup_append.2 ⟨hn1.2.1,hndx',fun p hp q hq e=>by subst e;exact (hseps p (by simp only[List.mem_append];exact .inr hp)).2.2.2.2 (hxin p hq)⟩
   rw[List.flatten_append]
   rcases hwhere with e | e
   ·rw[Zca hown',e,←Zca hown]
    refine List.nodup_append.2 ⟨hn1.1,h1,fun p hp q hq e=>?_⟩
    subst e
    rcases List.mem_append.1 hq with hq | hq
    ·exact hn1.2.2 p hp p hq rfl
    ·exact (hseps p (by simp[hp])).2.2.2.2 (hxin p hq)
   ·rw[Zca hown',e]
    refine List.nodup_append.2 ⟨by simp,h1,fun p hp q hq e=>?_⟩
    subst e
    obtain rfl:=List.mem_singleton.1 hp
    rcases List.mem_append.1 hq with hq | hq
    ·have:=(hseps _ (by simp only[List.mem_append];exact .inr hq)).2.2.1
     omega
    ·have:=(hsepx _ (hxin _ hq)).2.2.1
     omega
  ·rw[Zvw,List.length_append]
   exact hown'
  ·have hsa:=(hsrc.keep hk fun b hb=>hkeep b (hseps b (by simp only[List.mem_append];exact .inr hb)).2.2.1 fun hm=>hn1.2.2 b hm b hb rfl).append (hsrcx.keep hk fun b hb=>hkeep b (hsepx b (hxin b hb)).2.2.1 fun hm=>(hseps b (by simp[hm])).2.2.2.2 (hxin b hb)) hown.1
   obtain ⟨cs,Bi,gi,k1,k2,k3,k4⟩:=hsa.2.2 j x hx
   refine ⟨cs,Bi,k1,?_,k4⟩
   rw[Zqw,List.getD_eq_getElem?_getD,k2]
   exact k3
theorem Zus {own:TypeId→Bool} {cl:Cl} (hcl:Spec P cl):Sat (opX P own cl o st) (OpOK P Mod o st):=by
 unfold opX
 split
 ·rename_i T len parts h
  split
  ·exact ZkQ hcl
  ·rename_i E d bytes hel
   split
   ·rename_i s z hs hz
    refine Sat.cond (fun hle=>?_) fun _=>Sat.fail
    split
    ·exact Sat.fail
    ·rename_i cs hfl
     split
     ·exact Sat.fail
     ·rename_i l is ms hp
      refine Sat.cond (fun hb=>?_) fun _=>Sat.fail
      rw[Bool.and_eq_true] at hb
      unfold makeObj
      split
      ·rename_i d0 hd
       exact Sat.pure (Zkd h hel hs hz (Nat.le_of_ble_eq_true hle) hfl hp hb.1 hb.2 hd)
      ·exact Sat.fail
   ·exact Sat.fail
 ·rename_i c h
  split
  ·rename_i hc
   split
   ·rename_i s idx verx T T' dd hargs hT hd
    refine Sat.cond (fun hb=>?_) fun _=>Sat.fail
    have hb:=Nat.eq_of_beq_eq_true hb
    subst hb
    have hat:c.argTypes= #[T,T]:=by apply Array.ext';exact hT
    split
    ·rename_i E d bytes E2 d2 l2 hel hox
     split
     ·rename_i hdd
      subst hdd
      refine Sat.cond (fun hE=>?_) fun _=>Sat.fail
      have hE:=Nat.eq_of_beq_eq_true hE
      subst hE
      split
      ·refine Sat.guard fun hbnd=>Sat.pure ?_
       have:=Zqi (Mod:=Mod) hd hel h hc hat hargs hox (l0:=[]) (id:=rootId dd) (ver':=(dropIds [idx] st).nextVer (rootId dd)) (by simpa using hbnd) fun F ρ w a hR v hv=>by
        cases hv
        exact ⟨rfl,[],[],[],Zj3 _ _ _,⟨rfl,rfl,fun i x hx=>by simp at hx⟩,List.nodup_nil,fun b hb=>by simp[hb1] at hb⟩
       simpa using this
      ·rename_i id ver
       split
       ·rename_i E1 d1 l1 hob
        split
        ·rename_i h1
         subst h1
         refine Sat.cond (fun hE=>?_) fun _=>Sat.fail
         rw[Bool.and_eq_true] at hE
         have hE1:=Nat.eq_of_beq_eq_true hE.1
         subst hE1
         have hne:id≠idx:=fun e=>by subst e;have:=hE.2;simp at this
         refine Sat.guard fun hbnd=>Sat.pure ?_
         refine Zqi (Mod:=Mod) hd hel h hc hat hargs hox (l0:=l1) (id:=id) (ver':=ver+1) hbnd fun F ρ w a hR v hv=>?_
         have hf:=Zw.1 hob
         cases hv with
         | dn _ _ _ _ hbn _ hp=>
          obtain ⟨_,rfl⟩:=hp _ _ _ hob
          obtain ⟨hnd,hrow⟩:=hR.obs id ver _ hf
          obtain ⟨cells,Bs,gs,hown,hB,hsrc⟩:=hrow.src
          refine ⟨?_,cells,Bs,gs,hown,hsrc,by rw[hB] at hnd;exact hnd,fun b hb=>⟨hne,_,_,hf,rfl,by rw[hB];exact hb⟩⟩
          have:find id (dropIds [idx] st).ob=some (ver,.deep E1 d1 l1):=by
           simp only[dropIds,Zw.1 hox]
           rw[Zp,if_neg hne]
           exact hf
          rw[St.nextVer,this]
        ·exact Sat.fail
       ·exact Sat.fail
      ·exact Sat.fail
     ·exact Sat.fail
    ·exact Sat.fail
   ·exact ZkQ hcl
  ·exact ZkQ hcl
 ·exact ZkQ hcl
end
end Go.Ev
end

section
namespace Go.Ev
variable [Tabs] [Orgs]
open Go
section
variable {P:Program} {Mod:Nat→Prop} {st:St} {F:Nat→Prop} {ρ:Rho} {w:World} {tm:Array Value}
structure RI (F:Nat→Prop) (w:World) (st:St) (ρ:Rho) (rn:Ren) (ρ':Rho):Prop where
 m:∀i i',mapd rn.1 i=some i'→∃ver o o',find i st.ob=some (ver,o)∧find i' rn.2=some (0,o')∧ρ' i'=ρ i∧Obj.sim o o'∧o'.free=o.free
 ob:∀id v o',find id rn.2=some (v,o')→v=0∧ORep F ρ' w ⟨[],rn.2⟩ (ρ' id) o'∧((∃i,mapd rn.1 i=some id)∨hb (ρ' id)=[])
 inj:∀i j id,mapd rn.1 i=some id→mapd rn.1 j=some id→i=j
theorem ZlW (i id:Id) (m:List (Id×Id)) (j:Id):mapd ((i,id) :: m) j=if j=i then some id else mapd m j:=by
 unfold mapd
 by_cases h:j=i
 ·subst h;rw[Nat.beq_refl,if_pos rfl];rfl
 ·rw[if_neg h,Zg4 (fun e=>h e.symm)];cases m <;> rfl
theorem RI.add {rn:Ren} {ρ':Rho} (h:RI F w st ρ rn ρ') {m:List (Id×Id)} {id:Id} {o':Obj} {h':Value} (hnew:find id rn.2=none)
  (hm:(m=rn.1∧hb h'=[])∨∃i ver o,m=(i,id) :: rn.1∧mapd rn.1 i=none∧find i st.ob=some (ver,o)∧h'=ρ i∧Obj.sim o o'∧o'.free=o.free)
  (hO:ORep F ρ' w ⟨[],rn.2⟩ h' o'):RI F w st ρ (m,ins id (0,o') rn.2) (updR ρ' id h')∧Ref ⟨[],rn.2⟩ ρ' ⟨[],ins id (0,o') rn.2⟩ (updR ρ' id h'):=by
 have hnv:(⟨[],rn.2⟩:St).nextVer id=0:=by simp[St.nextVer,hnew]
 have href:Ref ⟨[],rn.2⟩ ρ' ⟨[],ins id (0,o') rn.2⟩ (updR ρ' id h'):=Ref.set (st:=⟨[],rn.2⟩) (ver':=0) (o':=o') (.inr hnv.symm)
 have hfi:∀j,find j (ins id (0,o') rn.2)=if j=id then some (0,o') else find j rn.2:=fun j=>ZfM _ _ _ _
 have hold:∀j i',mapd rn.1 j=some i'→i'≠id:=fun j i' hj e=>by
  subst e
  obtain ⟨_,_,_,_,h2,_⟩:=h.m j i' hj
  rw[hnew] at h2
  cases h2
 refine ⟨⟨fun i i' hi=>?_,fun j v o hj=>?_,fun i j k hi hj=>?_⟩,href⟩
 ·have old:mapd rn.1 i=some i'→∃ver o o2,find i st.ob=some (ver,o)∧find i' (ins id (0,o') rn.2)=some (0,o2)∧updR ρ' id h' i'=ρ i∧Obj.sim o o2∧o2.free=o.free:=fun hi=>by
   obtain ⟨ver,o,o2,h1,h2,h3,h4,h5⟩:=h.m i i' hi
   have hne:=hold i i' hi
   exact ⟨ver,o,o2,h1,by rw[hfi,if_neg hne];exact h2,by simp only[updR,if_neg hne];exact h3,h4,h5⟩
  rcases hm with ⟨rfl,_⟩ | ⟨i0,ver,o,rfl,h1,h2,h3,h4,h5⟩
  ·exact old hi
  ·simp only[ZlW] at hi
   split at hi
   ·rename_i e
    subst e
    cases hi
    exact ⟨ver,o,o',h2,by rw[hfi,if_pos rfl],by simp only[updR,if_true];exact h3,h4,h5⟩
   ·exact old hi
 ·rw[hfi] at hj
  split at hj
  ·rename_i e
   subst e
   cases hj
   refine ⟨rfl,?_,?_⟩
   ·simp only[updR,if_true]
    exact ORep.mono (Keeps.refl _ _) href (fun _ _=>rfl) hO
   ·rcases hm with ⟨rfl,hn⟩ | ⟨i0,ver,o,rfl,_⟩
    ·exact .inr (by simp only[updR,if_true];exact hn)
    ·exact .inl ⟨i0,by simp[ZlW]⟩
  ·rename_i hne
   obtain ⟨h1,h2,h3⟩:=h.ob j v o hj
   simp only[updR,if_neg hne]
   refine ⟨h1,ORep.mono (Keeps.refl _ _) href (fun _ _=>rfl) h2,?_⟩
   rcases hm with ⟨rfl,_⟩ | ⟨i0,ver,o,rfl,hn,_⟩
   ·exact h3
   ·refine h3.imp (fun ⟨i,hi⟩=>⟨i,?_⟩) _root_.id
    simp only[ZlW]
    rw[if_neg (fun e=>by subst e;rw[hn] at hi;cases hi)]
    exact hi
 ·rcases hm with ⟨rfl,_⟩ | ⟨i0,ver,o,rfl,hn,_⟩
  ·exact h.inj i j k hi hj
  ·simp only[ZlW] at hi hj
   split at hi <;> split at hj
   ·simp_all
   ·cases hi;exact absurd rfl (hold _ _ hj)
   ·cases hj;exact absurd rfl (hold _ _ hi)
   ·exact h.inj i j k hi hj
theorem Ztw {x:AV} {v:Value} {st':St} {ρ':Rho} (h:ARep F ρ w st x v):ARep F ρ' w st' (plainAV x) v:=by
 unfold plainAV
 split
 ·cases h with | d _ _ _ h=>exact .d _ _ _ h
 ·cases h;exact .nil
 ·cases h;exact .cst _
 ·cases h with | ifc _ _ _ h=>cases h with | d _ _ _ h=>exact .ifc _ _ _ (.d _ _ _ h)
 ·cases h with | rp _ _ _ _ _ h1 h2 h3=>exact .rp _ _ _ _ _ h1 h2 h3
 ·exact .top _
def RenOK (F:Nat→Prop) (w:World) (st:St) (ρ:Rho) (v:Value) (rn:Ren) (ρ':Rho) (r:AV×Ren):Prop:=
 ∃ρ2,RI F w st ρ r.2 ρ2∧ARep F ρ2 w ⟨[],r.2.2⟩ r.1 v∧Ref ⟨[],rn.2⟩ ρ' ⟨[],r.2.2⟩ ρ2
theorem RenOK.top {v:Value} {rn:Ren} {ρ':Rho} (h:RI F w st ρ rn ρ'):RenOK F w st ρ v rn ρ' (.top,rn):=⟨ρ',h,.top _,Ref.refl⟩
theorem ZjY {rn:Ren} {ρ':Rho} (h:RI F w st ρ rn ρ') {i id ver:Nat} {o o':Obj} {x:AV} {v:Value} (hf:find i st.ob=some (ver,o)) (hs:Obj.sim o o') (hfr:o'.free=o.free) (hO:ORep F ρ' w ⟨[],rn.2⟩ (ρ i) o')
  (hx:ARep F (updR ρ' id (ρ i)) w ⟨[],ins id (0,o') rn.2⟩ x v):RenOK F w st ρ v rn ρ' (addR rn i id o' x):=by
 unfold addR
 split
 ·rename_i hm hn
  obtain ⟨h1,h2⟩:=h.add (m:=(i,id) :: rn.1) hn (.inr ⟨i,ver,o,rfl,hm,hf,rfl,hs,hfr⟩) hO
  exact ⟨_,h1,hx,h2⟩
 ·exact RenOK.top h
theorem ZiT {id:Id} {o':Obj} {l:List (Id×Nat×Obj)} :bnd ⟨[],ins id (0,o') l⟩ id 0:=⟨0,o',by simp[ZfM],Nat.le_refl _⟩
theorem ZuJ {id:Id} {o':Obj} {l:List (Id×Nat×Obj)} :(⟨[],ins id (0,o') l⟩:St).obj id 0=some o':=by rw[Zw];simp[ZfM]
theorem Zsl {hints:List (Id×TypeId)} {id:Id} {pre:Option Nat} {n:Nat} (h:∀m,pre=some m→m≤n):(∀m,preOf hints id pre n=some m→m≤n)∧(preOf hints id pre n).getD n=pre.getD n:=by
 unfold preOf
 cases pre with
 | some m=>exact ⟨h,rfl⟩
 | none=>
  cases mapd hints (id+preK) with
  | some T=>exact ⟨fun m e=>by cases e;exact Nat.le_refl _,rfl⟩
  | none=>exact ⟨fun m e=>(by cases e),rfl⟩
theorem Zv6 {hints:List (Id×TypeId)} (hR:R Mod F ρ w st tm):∀(n:Nat) (rn:Ren) (ρ':Rho) (id:Id) (x:AV) (v:Value),RI F w st ρ rn ρ'→ARep F ρ w st x v→RenOK F w st ρ v rn ρ' (ren P hints st n rn id x)
 | 0,rn,ρ',id,x,v,hI,hx=>RenOK.top hI
 | n+1,rn,ρ',id,x,v,hI,hx=>by
  have all:∀(cs:List AV) (vs:List Value) (j:Nat) (rn:Ren) (ρ':Rho),RI F w st ρ rn ρ'→CsRep F ρ w st cs vs→
    ∃ρ2,RI F w st ρ (renA (ren P hints st n) rn id j cs).2 ρ2∧CsRep F ρ2 w ⟨[],(renA (ren P hints st n) rn id j cs).2.2⟩ (renA (ren P hints st n) rn id j cs).1 vs∧Ref ⟨[],rn.2⟩ ρ' ⟨[],(renA (ren P hints st n) rn id j cs).2.2⟩ ρ2:=by
   intro cs
   induction cs with
   | nil=>
    intro vs j rn ρ' hI hc
    have:vs=[]:=List.length_eq_zero_iff.1 hc.1.symm
    subst this
    exact ⟨ρ',hI,.nil,Ref.refl⟩
   | cons c cs ih=>
    intro vs j rn ρ' hI hc
    cases vs with
    | nil=>have:=hc.1;simp at this
    | cons u us=>
     have hx:=hc.2 0 c u rfl rfl
     have hr:CsRep F ρ w st cs us:=⟨by have:=hc.1;simpa using this,fun i c u h1 h2=>hc.2 (i+1) c u h1 h2⟩
     obtain ⟨ρ1,i1,a1,r1⟩:=Zv6 hR n rn ρ' (childId id j) c u hI hx
     obtain ⟨ρ2,i2,a2,r2⟩:=ih us (j+1) _ ρ1 i1 hr
     unfold renA
     exact ⟨ρ2,i2,.cons (a1.mono (Keeps.refl _ _) r2) a2,r1.trans r2⟩
  unfold ren
  split
  ·rename_i i ver off
   split
   ·rename_i T cs tg ho
    cases hx with
    | pt _ _ _ _ hbn h1 hp=>
     obtain ⟨b,hρ,rfl⟩:=hp _ ho
     split
     ·rename_i i' hm
      obtain ⟨ver2,o,o',k1,k2,k3,k4,_⟩:=hI.m i i' hm
      exact ⟨ρ',hI,.pt _ _ _ _ ⟨0,o',k2,Nat.le_refl _⟩ rfl fun o2 _=>⟨b,k3.trans hρ,rfl⟩,Ref.refl⟩
     ·rename_i hm
      obtain ⟨htg,b',arr,hρ',hh,hl,hc⟩:=hR.obs i ver _ (Zw.1 ho)
      rw[hρ] at hρ'
      cases hρ'
      obtain ⟨ρ2,i2,a2,r2⟩:=all cs arr.toList 0 rn ρ' hI ⟨by simp[hl],fun i c u h1 h2=>hc i c u h1 (by simpa using h2)⟩
      generalize renA (ren P hints st n) rn id 0 cs=q at i2 a2 r2
      obtain ⟨vs,rn2⟩:=q
      simp only at i2 a2 r2 ⊢
      have hO:ORep F ρ2 w ⟨[],rn2.2⟩ (ρ i) (.box T vs tg):=⟨htg,b,arr,hρ,hh,by simpa using a2.1.symm,fun i c u h1 h2=>a2.2 i c u h1 (by simpa using h2)⟩
      obtain ⟨ρ3,i3,a3,r3⟩:=ZjY (o':=.box T vs tg) (x:=.pt id 0 off) (v:=.pointer (some ⟨b,off,none⟩)) i2 (id:=id) (Zw.1 ho) trivial rfl hO (.pt _ _ _ _ ZiT rfl fun o2 _=>⟨b,by simp only[updR,if_true];exact hρ,rfl⟩)
      exact ⟨ρ3,i3,a3,r2.trans r3⟩
   ·exact RenOK.top hI
  ·rename_i i ver pre
   split
   ·rename_i E t l lk ho
    cases hx with
    | own _ _ _ _ hbn h1 hp=>
     have hq:=hp _ _ _ _ ho
     cases hlk:(lk&&isLk hints id) with
     | true=>
      rw[Bool.and_eq_true] at hlk
      have hlkt:=hlk.1
      subst hlkt
      simp only[cond_true]
      refine ⟨ρ',hI,?_,Ref.refl⟩
      have htd:toData st (.own i ver pre)=some (.d (.sl t) (preL pre l),[i]):=by unfold toData;simp only[ho]
      have h3:=Zp1 hR htd (.own _ _ _ _ hbn h1 hp) (Keeps.refl F w) (Ref.refl (st:=st) (ρ:=ρ)) (fun id' hid v' o' hf _ b hbb=>by
       simp only[List.mem_singleton] at hid
       subst hid
       rw[Zw.1 ho] at hf
       cases hf
       exact hR.data _ _ _ _ _ (Zw.1 ho) b hbb)
      cases h3 with
      | d _ _ _ h=>exact .d _ _ _ h
     | false=>
     simp only[cond_false]
     split
     ·rename_i i' hm
      obtain ⟨ver2,o,o',k1,k2,k3,k4,_⟩:=hI.m i i' hm
      refine ⟨ρ',hI,.own _ _ _ _ ⟨0,o',k2,Nat.le_refl _⟩ h1 fun E' t' l' lk' ho'=>?_,Ref.refl⟩
      have e1:o'=.row E' t' l' lk':=by
       have:=Zw.1 ho'
       rw[k2] at this
       cases this
       rfl
      have e2:o=.row E t l lk:=by
       have:=Zw.1 ho
       rw[k1] at this
       cases this
       rfl
      subst e1 e2
      obtain ⟨hn,A,c,q1,q2⟩:=hq
      have hlen:List.length l'=List.length l:=k4.2.symm
      obtain ⟨w1,w2⟩:=Zsl (hints:=hints) (id:=id) hn
      exact ⟨fun n e=>by rw[hlen];exact w1 n e,A,c,by rw[k3,q1,hlen],by rw[q2,hlen,w2]⟩
     ·refine ZjY hI (Zw.1 ho) ⟨rfl,rfl⟩ rfl (ORep.mono (o:=.row E t l lk) (Keeps.refl _ _) (Ref.refl (st:=st) (ρ:=ρ)) (fun _ _=>rfl) (hR.obs i ver _ (Zw.1 ho))) (.own _ _ _ _ ZiT h1 fun E' t' l' lk' ho'=>?_)
      rw[ZuJ] at ho'
      cases ho'
      simp only[updR,if_true]
      obtain ⟨hn,A,c,q1,q2⟩:=hq
      obtain ⟨w1,w2⟩:=Zsl (hints:=hints) (id:=id) hn
      exact ⟨w1,A,c,q1,by rw[q2,w2]⟩
   ·exact RenOK.top hI
  ·rename_i i ver
   split
   ·rename_i kt vt l ho
    cases hx with
    | mp _ _ _ hbn h1 hp=>
     have hq:=hp _ ho
     split
     ·rename_i i' hm
      obtain ⟨ver2,o,o',k1,k2,k3,k4,_⟩:=hI.m i i' hm
      exact ⟨ρ',hI,.mp _ _ _ ⟨0,o',k2,Nat.le_refl _⟩ h1 fun o2 _=>hq.trans k3.symm,Ref.refl⟩
     ·exact ZjY hI (Zw.1 ho) trivial rfl (hR.obs i ver _ (Zw.1 ho)) (.mp _ _ _ ZiT h1 fun o2 _=>by simp only[updR,if_true];exact hq)
   ·rename_i tg ho
    cases hx with
    | mp _ _ _ hbn h1 hp=>
     have hq:=hp _ ho
     split
     ·rename_i i' hm
      obtain ⟨ver2,o,o',k1,k2,k3,k4,_⟩:=hI.m i i' hm
      exact ⟨ρ',hI,.mp _ _ _ ⟨0,o',k2,Nat.le_refl _⟩ h1 fun o2 _=>hq.trans k3.symm,Ref.refl⟩
     ·exact ZjY hI (Zw.1 ho) trivial rfl (hR.obs i ver _ (Zw.1 ho)) (.mp _ _ _ ZiT h1 fun o2 _=>by simp only[updR,if_true];exact hq)
   ·exact RenOK.top hI
  ·rename_i i ver
   split
   ·rename_i s p ho
    cases hx with
    | it _ _ _ hbn h1 hp=>
     have hq:=hp _ _ ho
     split
     ·rename_i i' hm
      obtain ⟨ver2,o,o',k1,k2,k3,k4,_⟩:=hI.m i i' hm
      exact ⟨ρ',hI,.it _ _ _ ⟨0,o',k2,Nat.le_refl _⟩ h1 fun s' p' _=>hq.trans k3.symm,Ref.refl⟩
     ·exact ZjY hI (Zw.1 ho) trivial rfl (hR.obs i ver _ (Zw.1 ho)) (.it _ _ _ ZiT h1 fun s' p' _=>by simp only[updR,if_true];exact hq)
   ·exact RenOK.top hI
  ·cases hx
   split
   ·rename_i T hT
    cases Nat.beq (T % 2) 1 with
    | true=>
     simp only[cond_true]
     refine ⟨ρ',hI,?_,Ref.refl⟩
     unfold nilData
     split
     ·exact .d _ _ _ ⟨none,0,rfl,Nat.le_refl _,fun i x hx=>by simp at hx⟩
     ·exact .nil
    | false=>
    simp only[cond_false]
    split
    ·rename_i E d z hel hn
     have hO:ORep F ρ' w ⟨[],rn.2⟩ (.slice none 0 0) (.deep E d []):=⟨List.nodup_nil,[],[],Zj3 _ _ _,rfl,rfl,fun i x hx=>by simp at hx⟩
     obtain ⟨h1,h2⟩:=hI.add (m:=rn.1) (id:=id) (h':=.slice none 0 0) hn (.inl ⟨rfl,rfl⟩) hO
     refine ⟨_,h1,.dn _ _ _ _ ZiT rfl fun E' d' l' ho'=>⟨show okPath d' l' [] from trivial,by simp only[updR,if_true];rfl⟩,h2⟩
    split
    ·rename_i E t z hel hn
     have hO:ORep F ρ' w ⟨[],rn.2⟩ (.slice none 0 0) (.row E t [] false):=⟨[],⟨by simp,.inl ⟨rfl,rfl⟩⟩,fun i x hx=>by simp at hx⟩
     obtain ⟨h1,h2⟩:=hI.add (m:=rn.1) (id:=id) (h':=.slice none 0 0) hn (.inl ⟨rfl,rfl⟩) hO
     refine ⟨_,h1,.own _ _ _ _ ZiT rfl fun E' t' l' lk' ho'=>?_,h2⟩
     rw[ZuJ] at ho'
     cases ho'
     obtain ⟨w1,w2⟩:=Zsl (hints:=hints) (id:=id) (pre:=none) (n:=0) (fun m e=>by cases e)
     exact ⟨w1,none,0,by simp[updR],by rw[show (List.length ([]:List (El t)))=0 from rfl,w2];rfl⟩
    ·exact ⟨ρ',hI,.nil,Ref.refl⟩
   ·exact ⟨ρ',hI,.nil,Ref.refl⟩
  ·rename_i i ver p
   split
   ·rename_i E d l ho
    cases hx with
    | dn _ _ _ _ hbn h1 hp=>
     obtain ⟨hpa,hv⟩:=hp _ _ _ ho
     split
     ·rename_i i' hm
      obtain ⟨ver2,o,o',k1,k2,k3,k4,_⟩:=hI.m i i' hm
      refine ⟨ρ',hI,.dn _ _ _ _ ⟨0,o',k2,Nat.le_refl _⟩ h1 fun E' d' l' ho'=>?_,Ref.refl⟩
      have e1:o'=.deep E' d' l':=by
       have:=Zw.1 ho'
       rw[k2] at this
       cases this
       rfl
      have e2:o=.deep E d l:=by
       have:=Zw.1 ho
       rw[k1] at this
       cases this
       rfl
      subst e1 e2
      obtain ⟨rfl,rfl,hs⟩:=k4
      exact ⟨(Zla hs hpa).1,by rw[k3];exact hv⟩
     ·refine ZjY hI (Zw.1 ho) (Obj.sim_refl _) rfl (ORep.mono (o:=.deep E d l) (Keeps.refl _ _) (Ref.refl (st:=st) (ρ:=ρ)) (fun _ _=>rfl) (hR.obs i ver _ (Zw.1 ho))) (.dn _ _ _ _ ZiT h1 fun E' d' l' ho'=>?_)
      rw[ZuJ] at ho'
      cases ho'
      exact ⟨hpa,by simp only[updR,if_true];exact hv⟩
   ·exact RenOK.top hI
  ·rename_i cs
   cases hx with
   | ag _ vs hl hall=>
    refine ⟨ρ',hI,.ag _ _ (by simpa using hl) fun i c u h1 h2=>?_,Ref.refl⟩
    rw[List.getElem?_map] at h1
    obtain ⟨c',hc',rfl⟩:=Option.map_eq_some_iff.1 h1
    exact Ztw (hall i c' u hc' h2)
  ·rename_i f cs
   cases hx with
   | fn _ _ vs hl hall=>
    obtain ⟨ρ2,i2,a2,r2⟩:=all cs vs.toList 0 rn ρ' hI ⟨by simpa using hl,fun i c u h1 h2=>hall i c u h1 (by simpa using h2)⟩
    generalize renA (ren P hints st n) rn id 0 cs=q at i2 a2 r2
    obtain ⟨us,rn2⟩:=q
    simp only at i2 a2 r2 ⊢
    exact ⟨ρ2,i2,.fn _ _ _ (by simpa using a2.1) fun i c u h1 h2=>a2.2 i c u h1 (by simpa using h2),r2⟩
  ·exact ⟨ρ',hI,Ztw hx,Ref.refl⟩
theorem ZnT {hints:List (Id×TypeId)} (hR:R Mod F ρ w st tm):∀(live:List Nat) (rn:Ren) (ρ':Rho) (tl:List AV),RI F w st ρ rn ρ'→tl.length=st.tm.length→
  (∀(i:Nat) (x:AV),tl[i]? =some x→∃v,tm[i]? =some v∧ARep F ρ' w ⟨[],rn.2⟩ x v)→
  ∃ρ2,RI F w st ρ (renTm P hints st live rn tl).2 ρ2∧(renTm P hints st live rn tl).1.length=st.tm.length∧
   ∀(i:Nat) (x:AV),(renTm P hints st live rn tl).1[i]? =some x→∃v,tm[i]? =some v∧ARep F ρ2 w ⟨[],(renTm P hints st live rn tl).2.2⟩ x v
 | [],rn,ρ',tl,hI,hl,ht=>⟨ρ',hI,hl,ht⟩
 | s :: r,rn,ρ',tl,hI,hl,ht=>by
  unfold renTm
  by_cases hs:s < st.tm.length
  ·obtain ⟨v,hv,ha⟩:=hR.tms s st.tm[s] (by simp[hs])
   have hg:st.tm.getD s .top=st.tm[s]:=by simp[List.getD,hs]
   rw[hg]
   obtain ⟨ρ1,i1,a1,r1⟩:=Zv6 (P:=P) (hints:=hints) hR 6 rn ρ' (rootId s) st.tm[s] v hI ha
   generalize ren P hints st 6 rn (rootId s) st.tm[s]=q at i1 a1 r1
   obtain ⟨y,rn1⟩:=q
   refine ZnT hR r rn1 ρ1 (tl.set s y) i1 (by simpa using hl) fun i x hx=>?_
   rw[List.getElem?_set] at hx
   split at hx
   ·rename_i e
    subst e
    split at hx
    ·cases hx;exact ⟨v,hv,a1⟩
    ·cases hx
   ·obtain ⟨u,hu,hau⟩:=ht i x hx
    exact ⟨u,hu,hau.mono (Keeps.refl _ _) r1⟩
  ·have hg:st.tm.getD s .top=.top:=by simp[List.getD,hs]
   rw[hg]
   have hr:ren P hints st 6 rn (rootId s) .top=(.top,rn):=rfl
   rw[hr]
   have hset:tl.set s .top=tl:=List.set_eq_of_length_le (by omega)
   simp only[hset]
   exact ZnT hR r rn ρ' tl hI hl ht
theorem ZqO:∀(n i:Nat) (x:AV),(tops n)[i]? =some x→x=.top
 | 0,i,x,h=>by simp[tops] at h
 | n+1,0,x,h=>by simp[tops] at h;exact h.symm
 | n+1,i+1,x,h=>ZqO n i x (by simpa[tops] using h)
theorem ZfD:∀n,(tops n).length=n
 | 0=>rfl
 | n+1=>by simp[tops,ZfD n]
theorem Zw4 {lab:Lab} (hR:R Mod F ρ w st tm):∃ρ',R Mod F ρ' w (norm P lab st) tm:=by
 have hI0:RI F w st ρ ([],[]) (fun _=>undef):=⟨fun i i' h=>by simp[mapd] at h,fun id v o h=>by simp[find] at h,fun i j id h=>by simp[mapd] at h⟩
 obtain ⟨ρ2,hI,hl,ht⟩:=ZnT (P:=P) (hints:=lab.hints) hR lab.live ([],[]) _ (tops st.tm.length) hI0 (ZfD _) (fun i x hx=>by
  obtain rfl:=ZqO _ _ _ hx
  have hlt:i < tm.size:=by
   rw[hR.size]
   have:=(List.getElem?_eq_some_iff.1 hx).1
   rwa[ZfD] at this
  exact ⟨tm[i],by simp[hlt],.top _⟩)
 unfold norm
 generalize renTm P lab.hints st lab.live ([],[]) (tops st.tm.length)=q at hI hl ht
 obtain ⟨tl,rn⟩:=q
 simp only at hI hl ht ⊢
 refine ⟨ρ2,hR.size.trans hl.symm,fun i x hx=>?_,fun id ver o hf=>?_,fun id ver o b hf hfr hbb=>?_,fun id ver E t l hf b hbb=>?_,hR.low,hR.hi,hR.tabs⟩
 ·obtain ⟨v,hv,ha⟩:=ht i x hx
  exact ⟨v,hv,ARep.of_ob (st:=⟨[],rn.2⟩) (st':=⟨tl,rn.2⟩) rfl ha⟩
 ·obtain ⟨_,h2,_⟩:=hI.ob id ver o hf
  exact ORep.mono (Keeps.refl _ _) (Ref.of_ob (st:=⟨[],rn.2⟩) (st':=⟨tl,rn.2⟩) rfl) (fun _ _=>rfl) h2
 ·obtain ⟨h1,h2,h3⟩:=hI.ob id ver o hf
  rcases h3 with ⟨i,hi⟩ | hn
  ·obtain ⟨v0,o0,o1,k1,k2,k3,k4,k5⟩:=hI.m i id hi
   have e:o1=o:=by rw[show find id rn.2=some (ver,o) from hf] at k2;cases k2;rfl
   subst e
   obtain ⟨s1,s2,s3,s4⟩:=hR.sep i v0 o0 b k1 (by rw[←k5];exact hfr) (by rw[←k3];exact hbb)
   refine ⟨s1,s2,s3,fun id' ver' o' hf' hfr' hbb'=>?_⟩
   obtain ⟨_,_,h3'⟩:=hI.ob id' ver' o' hf'
   rcases h3' with ⟨j,hj⟩ | hn
   ·obtain ⟨v2,o2,o3,m1,m2,m3,m4,m5⟩:=hI.m j id' hj
    have e:o3=o':=by rw[show find id' rn.2=some (ver',o') from hf'] at m2;cases m2;rfl
    subst e
    have:=s4 j v2 o2 m1 (by rw[←m5];exact hfr') (by rw[←m3];exact hbb')
    subst this
    rw[hi] at hj
    cases hj
    rfl
   ·rw[hn] at hbb';simp at hbb'
  ·rw[hn] at hbb;simp at hbb
 ·obtain ⟨_,_,h3⟩:=hI.ob id ver _ hf
  rcases h3 with ⟨i,hi⟩ | hn
  ·obtain ⟨v0,o0,o1,k1,k2,k3,k4,k5⟩:=hI.m i id hi
   have e:o1=.row E t l true:=by rw[show find id rn.2=some (ver,.row E t l true) from hf] at k2;cases k2;rfl
   subst e
   cases o0 <;> simp only[Obj.sim] at k4
   rename_i E0 t0 l0 lk0
   have:lk0=true:=by simpa[Obj.free] using k5
   subst this
   exact hR.data i v0 _ _ _ k1 b (by rw[←k3];exact hbb)
  ·rw[hn] at hbb;simp at hbb
theorem ZnY {lab:Lab} {F0:Nat→Prop} {w0:World} {a:Act} (h:Rel Mod F0 w0 st a w):Rel Mod F0 w0 (normL P lab st) a w:=by
 obtain ⟨hd,F,ρ,hR,hE⟩:=h
 obtain ⟨F2,hR2,hE2,_⟩:=ZbO (lockIds lab st) hR
 obtain ⟨ρ',hR'⟩:=Zw4 (P:=P) (lab:=lab) hR2
 exact ⟨hd,F2,ρ',hR',hE.trans hE2⟩
end
end Go.Ev
end

section
namespace Go.Ev
variable [Tabs] [Orgs]
open Go
def Det {α:Type} (m:M α):Prop:=(∀k,m k=none)∨∃a,∀k,m k=k a
theorem Det.pure {α:Type} (a:α):Det (M.pure a):=.inr ⟨a,fun _=>rfl⟩
theorem Det.fail {α:Type} :Det (fail:M α):=.inl fun _=>rfl
theorem Det.cond {α:Type} {b:Bool} {m n:M α} (h:Det m) (h':Det n):Det (bif b then m else n):=by cases b <;> assumption
theorem Det.guard {α:Type} {b:Bool} {m:M α} (h:Det m):Det (fun k=>bif b then m k else none):=by
 cases b
 ·exact .inl fun _=>rfl
 ·exact h
theorem Det.guard' {α:Type} {b:Bool} {m:M α} (h:Det m):Det (fun k=>bif b then none else m k):=by
 cases b
 ·exact h
 ·exact .inl fun _=>rfl
theorem Det.bind {α β:Type} {m:M α} {f:α→M β} (h:Det m) (hf:∀a,Det (f a)):Det (M.bind m f):=by
 rcases h with h | ⟨a,h⟩
 ·exact .inl fun k=>h _
 ·rcases hf a with h' | ⟨b,h'⟩
  ·exact .inl fun k=>(h _).trans (h' k)
  ·exact .inr ⟨b,fun k=>(h _).trans (h' k)⟩
theorem Det.branch {b:Bool} :Det (branch b):=by cases b <;> exact .inr ⟨_,fun _=>rfl⟩
theorem Det.toB {x:AV} :Det (toB x):=by unfold Go.Ev.toB;split <;> first | exact Det.pure _ | exact Det.fail
theorem Det.toI {x:AV} :Det (toI x):=by unfold Go.Ev.toI;split <;> first | exact Det.pure _ | exact Det.fail
theorem Det.boundI {i n:Int} :Det (boundI i n):=Det.guard (Det.pure _)
theorem Det.caseNat {i:Int} :∀ {n:Nat},Det (caseNat i n)
 | 0=>Det.fail
 | n+1=>by
  unfold Go.Ev.caseNat
  cases h:(i==(n:Int))
  ·exact Det.caseNat
  ·exact Det.pure n
theorem Det.unA {op:UnOp} {x:AV} :Det (unA op x):=by unfold Go.Ev.unA;split <;> first | exact Det.pure _ | exact Det.fail
theorem Det.binI {op:BinOp} {k k':IntKind} {a b:Int} :Det (binI op k k' a b):=by
 unfold Go.Ev.binI
 cases op <;> simp only <;> first
  | exact Det.guard' (Det.pure _)
  | (split <;> first | exact Det.pure _ | exact Det.fail | exact Det.guard' (Det.pure _) | (split <;> first | exact Det.pure _ | exact Det.fail))
theorem Det.binS {op:BinOp} {a b:ByteArray} :Det (binS op a b):=by
 unfold Go.Ev.binS
 cases op <;> simp only <;> first
  | exact Det.guard' (Det.pure _)
  | exact Det.pure _
  | exact Det.fail
theorem Det.binA {P:Program} {st:St} {op:BinOp} {t:TypeId} {x y:AV} :Det (binA P st op t x y):=by
 unfold Go.Ev.binA
 split
 ·exact Det.binI
 ·exact Det.binS
 ·split <;> first | exact Det.pure _ | exact Det.fail
 ·refine Det.cond Det.fail ?_
  split <;> first | exact Det.pure _ | exact Det.fail
 ·split <;> first | exact Det.pure _ | exact Det.fail
theorem Det.lenA {st:St} {x:AV} :Det (lenA st x):=by
 unfold Go.Ev.lenA
 split <;> first | exact Det.pure _ | exact Det.fail | (split <;> first | exact Det.pure _ | exact Det.fail | (split <;> first | exact Det.pure _ | exact Det.fail))
def Fr2 (m m2:M St) (st st2:St) (d:Option Nat):Prop:=(∀k,m k=none)∨∃v,(∀k,m k=k (st.put d v))∧∀k,m2 k=k (st2.put d v)
section
variable {st st2:St} {d:Option Nat}
theorem Fr2.pure (v:AV):Fr2 (M.pure (st.put d v)) (M.pure (st2.put d v)) st st2 d:=.inr ⟨v,fun _=>rfl,fun _=>rfl⟩
theorem Fr2.fail {m2:M St} :Fr2 fail m2 st st2 d:=.inl fun _=>rfl
theorem Fr2.bind {α:Type} {m:M α} (h:Det m) {f g:α→M St} (hf:∀a,Fr2 (f a) (g a) st st2 d):Fr2 (M.bind m f) (M.bind m g) st st2 d:=by
 rcases h with h | ⟨a,h⟩
 ·exact .inl fun k=>h _
 ·rcases hf a with h' | ⟨v,h1,h2⟩
  ·exact .inl fun k=>(h _).trans (h' k)
  ·exact .inr ⟨v,fun k=>(h _).trans (h1 k),fun k=>(h _).trans (h2 k)⟩
theorem Fr2.cond {b:Bool} {m n m2 n2:M St} (h:Fr2 m m2 st st2 d) (h':Fr2 n n2 st st2 d):Fr2 (bif b then m else n) (bif b then m2 else n2) st st2 d:=by cases b <;> assumption
theorem Fr2.opt {x:Option AV} :Fr2 (match x with | some v=>M.pure (st.put d v) | none=>Go.Ev.fail) (match x with | some v=>M.pure (st2.put d v) | none=>Go.Ev.fail) st st2 d:=by
 cases x
 ·exact Fr2.fail
 ·exact Fr2.pure _
theorem Fr2.elim {b:Option AV} {f:AV→AV} {v:AV} :Fr2 (fun c=>Option.elim b (M.pure (st.put d v) c) (fun u=>M.pure (st.put d (f u)) c)) (fun c=>Option.elim b (M.pure (st2.put d v) c) (fun u=>M.pure (st2.put d (f u)) c)) st st2 d:=by
 cases b
 ·exact Fr2.pure _
 ·exact Fr2.pure _
end
theorem Zwd {P:Program} {cl:Cl} {o:Oper} {tm tm2:List AV} {ob:List (Id×Nat×Obj)} (hv:isV o.op=true) (hev:∀x∈o.op.operands,(⟨tm2,ob⟩:St).ev x=(⟨tm,ob⟩:St).ev x):
  Fr2 (opA P cl o ⟨tm,ob⟩) (opA P cl o ⟨tm2,ob⟩) ⟨tm,ob⟩ ⟨tm2,ob⟩ o.dst:=by
 have hobj:∀id ver,(⟨tm2,ob⟩:St).obj id ver=(⟨tm,ob⟩:St).obj id ver:=fun _ _=>rfl
 have hbeh:∀x,behind ⟨tm2,ob⟩ x=behind ⟨tm,ob⟩ x:=fun x=>by cases x <;> rfl
 have hlive:∀x,live ⟨tm2,ob⟩ x=live ⟨tm,ob⟩ x:=fun x=>by cases x <;> rfl
 have hnil:∀T x y,isNil P T ⟨tm2,ob⟩ x y=isNil P T ⟨tm,ob⟩ x y:=fun T x y=>rfl
 have hext:∀t x,extra ⟨tm2,ob⟩ t x=extra ⟨tm,ob⟩ t x:=fun t x=>rfl
 have hbin:∀op T x y,binA P ⟨tm2,ob⟩ op T x y=binA P ⟨tm,ob⟩ op T x y:=fun op T x y=>rfl
 cases h:o.op <;> rw[h] at hv hev <;> simp only[isV] at hv <;> first | (cases hv;done) | skip
 case move x=>
  simp only[opA,h,hev x (by simp[Op.operands])]
  exact Fr2.pure _
 case assign x=>
  simp only[opA,h,hev x (by simp[Op.operands])]
  exact Fr2.pure _
 case pick c x y=>
  simp only[opA,h,hev c (by simp[Op.operands]),hev x (by simp[Op.operands]),hev y (by simp[Op.operands])]
  refine Fr2.bind Det.toB fun b=>Fr2.bind Det.branch fun b'=>?_
  cases b' <;> exact Fr2.pure _
 case load T x=>
  simp only[opA,h,hev x (by simp[Op.operands]),hbeh]
  split
  ·exact Fr2.cond (Fr2.pure _) Fr2.fail
  ·exact Fr2.opt
  ·exact Fr2.fail
 case nilCheck x=>
  simp only[opA,h,hev x (by simp[Op.operands]),hlive]
  exact Fr2.cond (Fr2.pure _) Fr2.fail
 case binOp op T x y T'=>
  simp only[opA,h,hev x (by simp[Op.operands]),hev y (by simp[Op.operands]),hbin]
  exact Fr2.bind Det.binA fun v=>Fr2.pure _
 case unOp op T x=>
  simp only[opA,h,hev x (by simp[Op.operands])]
  exact Fr2.bind Det.unA fun v=>Fr2.pure _
 case convert a b x=>
  simp only[opA,h,hev x (by simp[Op.operands]),hext]
  split <;> first | exact Fr2.pure _ | exact Fr2.fail | (split <;> first | exact Fr2.fail | (split <;> first | exact Fr2.pure _ | exact Fr2.fail))
 case makeInterface T x=>
  simp only[opA,h,hev x (by simp[Op.operands])]
  split <;> first | exact Fr2.pure _ | exact Fr2.fail
 case fieldAddr S x j=>
  simp only[opA,h,hev x (by simp[Op.operands]),hlive]
  split
  ·exact Fr2.fail
  ·exact Fr2.cond (Fr2.pure _) Fr2.fail
 case field T x j=>
  simp only[opA,h,hev x (by simp[Op.operands])]
  split
  ·split
   ·exact Fr2.opt
   ·exact Fr2.fail
  ·exact Fr2.fail
 case indexAddr T x i=>
  simp only[opA,h,hev x (by simp[Op.operands]),hev i (by simp[Op.operands]),hlive,hobj]
  refine Fr2.bind Det.toI fun p=>?_
  split
  ·split
   ·exact Fr2.cond (Fr2.bind Det.boundI fun n=>Fr2.pure _) Fr2.fail
   ·exact Fr2.fail
  ·split
   ·exact Fr2.cond (Fr2.bind Det.boundI fun n=>Fr2.pure _) Fr2.fail
   ·exact Fr2.fail
  ·split
   ·split
    ·exact Fr2.cond (Fr2.bind Det.boundI fun n=>Fr2.pure _) Fr2.fail
    ·exact Fr2.fail
   ·exact Fr2.fail
  ·refine Fr2.cond ?_ Fr2.fail
   split
   ·exact Fr2.bind Det.caseNat fun n=>Fr2.pure _
   ·exact Fr2.fail
  ·exact Fr2.fail
 case index T x i=>
  simp only[opA,h,hev x (by simp[Op.operands]),hev i (by simp[Op.operands])]
  refine Fr2.bind Det.toI fun p=>?_
  split
  ·exact Fr2.bind Det.boundI fun n=>Fr2.pure _
  ·split
   ·exact Fr2.bind Det.caseNat fun n=>Fr2.opt
   ·exact Fr2.fail
  ·exact Fr2.fail
 case extract x j=>
  simp only[opA,h,hev x (by simp[Op.operands])]
  split
  ·exact Fr2.opt
  ·exact Fr2.fail
 case lookup T x k ok=>
  simp only[opA,h,hev x (by simp[Op.operands]),hev k (by simp[Op.operands]),hobj]
  split
  ·split
   ·split
    ·refine Fr2.cond (Fr2.cond ?_ (Fr2.pure _)) Fr2.fail
     rename_i kt vt l _ _ _ key z _ _
     cases mget key l
     ·exact Fr2.pure _
     ·exact Fr2.pure _
    ·exact Fr2.fail
   ·exact Fr2.fail
  ·exact Fr2.fail
 case typeAssert x T0 T ok=>
  simp only[opA,h,hev x (by simp[Op.operands])]
  split
  ·exact Fr2.fail
  ·exact Fr2.fail
  ·refine Fr2.cond (Fr2.pure _) (Fr2.cond ?_ Fr2.fail)
   split
   ·exact Fr2.pure _
   ·exact Fr2.fail
  ·exact Fr2.fail
theorem Fr2.guard {st st2:St} {d:Option Nat} {b:Bool} {m m2:M St} (h:Fr2 m m2 st st2 d):Fr2 (fun k=>bif b then m k else none) (fun k=>bif b then m2 k else none) st st2 d:=by
 cases b
 ·exact .inl fun _=>rfl
 ·exact h
theorem Det.upto {x:Option Operand} {st:St} {d:Int} :Det (upto x st d):=by
 unfold Go.Ev.upto
 split
 ·exact Det.pure _
 ·exact Det.bind Det.toI fun _=>Det.pure _
theorem Zqh {x:Option Operand} {st st2:St} {d:Int} (h:∀y,x=some y→st2.ev y=st.ev y):upto x st2 d=upto x st d:=by
 cases x with
 | none=>rfl
 | some y=>simp only[Go.Ev.upto,h y rfl]
theorem ZoH {P:Program} {cl:Cl} {o:Oper} {st st2:St} {T:TypeId} {x:Operand} {lo hi:Option Operand} (h:o.op=.slice T x lo hi none) (hsl:slX (st.ev x) lo=true)
  (hev:∀y∈o.op.operands,st2.ev y=st.ev y) (hobj:∀id∈men1 (st.ev x),∀ver,st2.obj id ver=st.obj id ver):Fr2 (opA P cl o st) (opA P cl o st2) st st2 o.dst:=by
 rw[h] at hev
 have hlo:∀d,upto lo st2 d=upto lo st d:=fun d=>Zqh fun y hy=>hev y (by subst hy;simp[Op.operands])
 have hhi:∀d,upto hi st2 d=upto hi st d:=fun d=>Zqh fun y hy=>hev y (by subst hy;simp[Op.operands])
 simp only[opA,h,hev x (by simp[Op.operands]),hlo,hhi]
 generalize st.ev x=a at hsl hobj ⊢
 split
 ·exact Fr2.bind Det.upto fun l=>Fr2.bind Det.upto fun h=>Fr2.guard (Fr2.pure _)
 ·exact Fr2.cond (Fr2.bind Det.upto fun l=>Fr2.bind Det.upto fun h=>Fr2.guard (Fr2.pure _)) Fr2.fail
 ·rename_i id ver pre e _
  rw[hobj id (by simp[men1])]
  cases lo with
  | some y=>cases hsl
  | none=>
   split
   ·exact Fr2.cond (Fr2.bind Det.upto fun h=>Fr2.guard (Fr2.pure _)) Fr2.fail
   ·rename_i e;cases e
   ·exact Fr2.fail
 ·exact Fr2.fail
def DetC (cl:Cl):Prop:=∀f xs,Det (cl f xs)
theorem Za2 {st st2:St} :∀(l:List Operand),(∀x∈l,st2.ev x=st.ev x)→asArg st2 l=asArg st l
 | [],_=>rfl
 | x :: r,h=>by simp only[asArg,h x (by simp),Za2 r fun y hy=>h y (by simp[hy])]
theorem Zu4 {tm tm2:List AV} {ob:List (Id×Nat×Obj)} :∀(n:Nat) (rows:Bool),give ⟨tm2,ob⟩ rows n=give ⟨tm,ob⟩ rows n
 | 0,_=>rfl
 | n+1,rows=>by
  funext x
  have h1:=Zu4 (tm:=tm) (tm2:=tm2) (ob:=ob) n rows
  have h2:=Zu4 (tm:=tm) (tm2:=tm2) (ob:=ob) n true
  have hobj:∀id ver,(⟨tm2,ob⟩:St).obj id ver=(⟨tm,ob⟩:St).obj id ver:=fun _ _=>rfl
  unfold give
  rw[h1,h2]
  rfl
theorem Zt3 {P:Program} {cl:Cl} (hcl:DetC cl) {o:Oper} {tm tm2:List AV} {ob:List (Id×Nat×Obj)} (hev:∀x∈o.op.operands,(⟨tm2,ob⟩:St).ev x=(⟨tm,ob⟩:St).ev x):
  Fr2 (opD P cl o ⟨tm,ob⟩) (opD P cl o ⟨tm2,ob⟩) ⟨tm,ob⟩ ⟨tm2,ob⟩ o.dst:=by
 unfold opD
 cases hv:isV o.op with
 | true=>exact Zwd hv hev
 | false=>
  simp only[cond_false]
  split
  ·rename_i T x lo hi h
   rw[hev x (by rw[h];simp[Op.operands])]
   cases hs:slX ((⟨tm,ob⟩:St).ev x) lo with
   | false=>exact Fr2.fail
   | true=>exact ZoH h hs hev fun _ _ _=>rfl
  ·rename_i c h
   rw[h] at hev
   split
   ·rename_i f hc
    rw[hev f (by simp[Op.operands,Call.operands,hc])]
    split
    ·refine Fr2.cond ?_ Fr2.fail
     unfold callD
     rw[Za2 (st:=⟨tm,ob⟩) (st2:=⟨tm2,ob⟩) c.args.toList (fun x hx=>hev x (by
      simp only[Op.operands,Call.operands,hc]
      simp at hx ⊢
      exact .inr hx)),Zu4 (tm:=tm) (tm2:=tm2)]
     split
     ·exact Fr2.bind (hcl _ _) fun ans=>Fr2.cond (Fr2.pure _) Fr2.fail
     ·exact Fr2.fail
    ·exact Fr2.fail
   ·rename_i hc
    simp only[opA,h,hc]
    rw[Za2 (st:=⟨tm,ob⟩) (st2:=⟨tm2,ob⟩) c.args.toList (fun x hx=>hev x (by
      simp only[Op.operands,Call.operands,hc]
      simpa using hx))]
    split
    ·refine Fr2.cond ?_ Fr2.fail
     have hlen:∀x,lenA ⟨tm2,ob⟩ x=lenA ⟨tm,ob⟩ x:=fun x=>by cases x <;> rfl
     rw[hlen]
     exact Fr2.bind Det.lenA fun v=>Fr2.pure _
    ·exact Fr2.fail
   ·rename_i hc
    simp only[opA,h,hc]
    rw[Za2 (st:=⟨tm,ob⟩) (st2:=⟨tm2,ob⟩) c.args.toList (fun x hx=>hev x (by
      simp only[Op.operands,Call.operands,hc]
      simpa using hx))]
    split
    ·exact Fr2.bind Det.toI fun p=>Fr2.bind Det.toI fun q=>Fr2.pure _
    ·exact Fr2.fail
   ·rename_i hc
    simp only[opA,h,hc]
    rw[Za2 (st:=⟨tm,ob⟩) (st2:=⟨tm2,ob⟩) c.args.toList (fun x hx=>hev x (by
      simp only[Op.operands,Call.operands,hc]
      simpa using hx))]
    split
    ·exact Fr2.bind Det.toI fun p=>Fr2.bind Det.toI fun q=>Fr2.pure _
    ·exact Fr2.fail
   ·exact Fr2.fail
  ·exact Fr2.fail
end Go.Ev
end

section
namespace Go.Ev
variable [Tabs] [Orgs]
open Go
theorem Zmp:∀(st:St) (args outs:List AV),outs.all isTop=true→backA st (args.zip outs)=some st
 | st,[],outs,_=>by simp[backA]
 | st,a :: ar,[],_=>by simp[backA]
 | st,a :: ar,o :: os,h=>by
  simp only[List.all_cons,Bool.and_eq_true] at h
  cases o <;> simp only[isTop] at h <;> first | (cases h.1;done) | skip
  rw[List.zip_cons_cons]
  have ih:=Zmp st ar os h.2
  cases a with
  | pt i v off=>cases off <;> exact ih
  | _=>exact ih
theorem ZoR:∀(outs:List AV),outs.all isTop=true→hasSl.anyB (hasSl 6) outs=false
 | [],_=>rfl
 | o :: os,h=>by
  simp only[List.all_cons,Bool.and_eq_true] at h
  cases o <;> simp only[isTop] at h <;> first | (cases h.1;done) | skip
  simp only[hasSl.anyB,ZoR os h.2]
  rfl
theorem Zxt {st:St} {id:Id} {r:AV} {n:Nat} (h:flatB r=true):imp (n+1) st id r=some (r,st):=by
 cases r <;> simp only[flatB] at h <;> first | (cases h;done) | (unfold imp;simp only[flatB,h];rfl)
theorem Zut {cl:Cl} (hcl:DetC cl) {f:FuncId} {args:List AV} {dst:Option Nat} {st:St} {k:St→Option Ans} {y:Ans} (h:callD cl f args dst st k=some y):callA cl f args dst st k=some y:=by
 unfold callD at h
 unfold callA
 cases hg:allG (give st (takes cl f) 6) args with
 | none=>rw[hg] at h;cases h
 | some p=>
  obtain ⟨forms,is,os⟩:=p
  rw[hg] at h
  cases os with
  | cons x r=>cases h
  | nil=>
   simp only[nodupB,apartB,List.all_nil,Bool.and_true,cond_true] at h ⊢
   rcases hcl f forms with hd | ⟨⟨r,outs⟩,hd⟩
   ·simp only[M.bind,hd] at h;cases h
   ·simp only[M.bind,hd] at h ⊢
    cases hc:(flatB r&& !(hasSl 6 r)&&outs.all isTop) with
    | false=>rw[hc] at h;cases h
    | true=>
     rw[hc] at h
     simp only[Bool.and_eq_true,Bool.not_eq_true'] at hc
     obtain ⟨⟨h1,h2⟩,h3⟩:=hc
     simp only[h2,ZoR _ h3,Bool.or_self,cond_false,dropIds,Zmp _ _ _ h3]
     cases dst with
     | none=>exact h
     | some d=>simp only[Zxt h1];exact h
theorem Zyo {st:St} {b:Bool} {i v:Nat} {x:Given} (h:give st b 6 (.pt i v 0)=some x):x.2.2≠ []:=by
 have e:give st b 6 (.pt i v 0)=(match st.obj i v with
  | some (.box T cs _)=>(allG (give st true 5) cs).map fun (vs,is,os)=>(.bx T vs,is,i :: os)
  | _=>none):=rfl
 rw[e] at h
 split at h
 ·generalize allG (give st true 5) _=z at h
  cases z with
  | none=>cases h
  | some p=>
   obtain ⟨p1,p2,p3⟩:=p
   cases h
   exact List.cons_ne_nil _ _
 ·cases h
theorem Zp5 {st:St} {b:Bool} {args forms:List AV} {x:AV} {is os:List Id} (hs:same2 args=some x) (hg:allG (give st b 6) args=some (forms,is,os)):os≠ []:=by
 obtain ⟨i,v,rfl,rfl⟩:=Zqf hs
 rw[allG] at hg
 obtain ⟨⟨y,i1,o1⟩,h1,h2⟩:=Option.bind_eq_some_iff.1 hg
 obtain ⟨⟨ys,i2,o2⟩,h3,h4⟩:=Option.map_eq_some_iff.1 h2
 have:=Zyo h1
 simp only[Prod.mk.injEq] at h4
 intro he
 rw[he] at h4
 simp at h4
 exact this h4.2.2.1
theorem Zuu {cl:Cl} (hcl:DetC cl) {f:FuncId} {args:List AV} {dst:Option Nat} {st:St} {k:St→Option Ans} {y:Ans} (h:callD cl f args dst st k=some y):callX cl f args dst st k=some y:=by
 unfold callX
 cases hs:same2 args with
 | none=>exact Zut hcl h
 | some x=>
  exfalso
  unfold callD at h
  cases hg:allG (give st (takes cl f) 6) args with
  | none=>rw[hg] at h;cases h
  | some p=>
   obtain ⟨forms,is,os⟩:=p
   rw[hg] at h
   cases os with
   | cons a b=>cases h
   | nil=>exact Zp5 hs hg rfl
theorem Zx4 {P:Program} {cl:Cl} (hcl:DetC cl) {o:Oper} {st:St} {k:St→Option Ans} {y:Ans} (h:opD P cl o st k=some y):opA P cl o st k=some y:=by
 unfold opD at h
 cases hv:isV o.op with
 | true=>rw[hv] at h;exact h
 | false=>
  rw[hv] at h
  simp only[cond_false] at h
  cases hop:o.op <;> rw[hop] at h <;> first | (cases h;done) | skip
  case slice T x lo hi mx=>
   cases mx with
   | some m=>cases h
   | none=>
    simp only at h
    cases hs:slX (st.ev x) lo with
    | false=>rw[hs] at h;cases h
    | true=>rw[hs] at h;exact h
  rename_i c
  simp only at h
  cases hc:c.callee with
  | invoke r m=>rw[hc] at h;cases h
  | builtin b=>rw[hc] at h;cases b <;> first | exact h | (cases h;done)
  | value f=>
   rw[hc] at h
   simp only at h
   simp only[opA,hop,hc]
   cases hf:st.ev f with
   | cst u=>
    rw[hf] at h
    cases u with
    | func g first caps=>
     cases g with
     | func g=>
      simp only at h ⊢
      cases he:(first.isEmpty&&caps.isEmpty) with
      | false=>rw[he] at h;cases h
      | true=>rw[he] at h;exact Zuu hcl h
     | _=>cases h
    | _=>cases h
   | _=>rw[hf] at h;cases h
section
variable {P:Program} {Mod F0:Nat→Prop} {w0:World} {cl:Cl} {ops:Array Oper} {st0:St} {vs:Nat→AV}
def dstOf (ops:Array Oper) (i:Nat):Option Nat:=(ops[i]?).bind (·.dst)
def acc (ops:Array Oper) (st0:St) (vs:Nat→AV) (S:Nat→Bool):Nat→St
 | 0=>st0
 | n+1=>if S n then (acc ops st0 vs S n).put (dstOf ops n) (vs n) else acc ops st0 vs S n
theorem Zyy (st:St) (d:Option Nat) (v:AV):(st.put d v).ob=st.ob:=by cases d <;> rfl
theorem ZwI (st:St) (d:Option Nat) (v:AV):(st.put d v).tm.length=st.tm.length:=by cases d <;> simp[St.put]
theorem ZxW (S:Nat→Bool):∀n,(acc ops st0 vs S n).ob=st0.ob
 | 0=>rfl
 | n+1=>by unfold acc;split <;> simp[Zyy,ZxW S n]
theorem ZnV (S:Nat→Bool):∀n,(acc ops st0 vs S n).tm.length=st0.tm.length
 | 0=>rfl
 | n+1=>by unfold acc;split <;> simp[ZwI,ZnV S n]
theorem Zs6 {st:St} {d:Option Nat} {v:AV} {t:Nat} (h:d≠some t):(st.put d v).tm.getD t .top=st.tm.getD t .top:=by
 cases d with
 | none=>rfl
 | some e=>
  have:e≠t:=fun x=>h (by rw[x])
  simp[St.put,List.getD_eq_getElem?_getD,List.getElem?_set_ne this]
theorem Zvu {st st2:St} {v:AV} {t:Nat} (h:st.tm.length=st2.tm.length):(st.put (some t) v).tm.getD t .top=(st2.put (some t) v).tm.getD t .top:=by
 simp only[St.put,List.getD_eq_getElem?_getD,List.getElem?_set]
 simp[h]
theorem Zvl {S T:Nat→Bool} {t:Nat} :∀n,(∀j,j < n→dstOf ops j=some t→S j=T j)→(acc ops st0 vs S n).tm.getD t .top=(acc ops st0 vs T n).tm.getD t .top
 | 0,_=>rfl
 | n+1,h=>by
  have ih:=Zvl n fun j hj=>h j (by omega)
  unfold acc
  by_cases hd:dstOf ops n=some t
  ·rw[h n (by omega) hd,hd]
   split
   ·exact Zvu (by rw[ZnV,ZnV])
   ·exact ih
  ·split <;> split <;> simp only[Zs6 hd,ih]
theorem ZiO {S T:Nat→Bool} :∀n,(∀j,j < n→S j=T j)→acc ops st0 vs S n=acc ops st0 vs T n
 | 0,_=>rfl
 | n+1,h=>by
  unfold acc
  rw[h n (by omega),ZiO n fun j hj=>h j (by omega)]
theorem St.put_comm {st:St} {d e:Option Nat} {u v:AV} (h:∀t,d=some t→e≠some t):(st.put d u).put e v=(st.put e v).put d u:=by
 cases d with
 | none=>cases e <;> rfl
 | some t=>
  cases e with
  | none=>rfl
  | some s=>
   have:t≠s:=fun x=>h t rfl (by rw[x])
   simp[St.put,List.set_comm _ _ this]
def addS (S:Nat→Bool) (i:Nat):Nat→Bool:=fun j=>j==i || S j
theorem ZwG {S:Nat→Bool} {i:Nat} (hi:S i=false):∀n,i < n→(∀j,i < j→j < n→S j=true→∀t,dstOf ops i=some t→dstOf ops j≠some t)→
  (acc ops st0 vs S n).put (dstOf ops i) (vs i)=acc ops st0 vs (addS S i) n
 | 0,h,_=>by omega
 | n+1,h,hj=>by
  by_cases hin:i=n
  ·subst hin
   unfold acc
   rw[hi,if_neg (by simp),if_pos (by simp[addS]),ZiO (T:=addS S i) i fun j hj=>by simp[addS];intro e;omega]
  ·have ih:=ZwG hi n (by omega) fun j h1 h2=>hj j h1 (by omega)
   have hne:addS S i n=S n:=by simp[addS];intro e;omega
   unfold acc
   rw[hne]
   split
   ·rename_i hS
    rw[←ih,St.put_comm fun t ht=>hj n (by omega) (by omega) hS t ht]
   ·exact ih
def wantA (ops:Array Oper) (o:Oper) (st:St):Option Bool:=
 match o.guard with
 | none=>some true
 | some (j,want)=>match dstOf ops j with
  | none=>none
  | some t=>match st.tm.getD t .top with
   |.d .bool b=>some (b==want)
   |.cst u=>bif notBool u then some false else none
   | _=>none
def Step1 (P:Program) (cl:Cl) (ops:Array Oper) (o:Oper) (st:St) (v:AV):Prop:=
 (wantA ops o st=some true∧∀k,opD P cl o st k=k (st.put o.dst v))∨(wantA ops o st=some false∧v=sk)
def Chain (P:Program) (cl:Cl) (ops:Array Oper):List Oper→St→List AV→St→Prop
 | [],st,[],st'=>st'=st
 | o :: r,st,v :: vs,st'=>Step1 P cl ops o st v∧Chain P cl ops r (st.put o.dst v) vs st'
 | _,_,_,_=>False
theorem Zwv (hcl:DetC cl) (o:Oper) (st:St):(∀k,opD P cl o st k=none)∨∃v,∀k,opD P cl o st k=k (st.put o.dst v):=by
 rcases Zt3 (P:=P) hcl (o:=o) (tm:=st.tm) (tm2:=st.tm) (ob:=st.ob) (fun _ _=>rfl) with h | ⟨v,h,_⟩
 ·exact .inl h
 ·exact .inr ⟨v,h⟩
theorem Zmo (hcl:DetC cl) {k:St→Option Ans} {y:Ans} :∀(l:List Oper) (st:St),opsD P cl ops l st k=some y→∃vs st',Chain P cl ops l st vs st'∧k st'=some y
 | [],st,h=>⟨[],st,rfl,h⟩
 | o :: r,st,h=>by
  have run:wantA ops o st=some true→(opD P cl o st) (fun st=>opsD P cl ops r st k)=some y→∃vs st',Chain P cl ops (o :: r) st vs st'∧k st'=some y:=fun hw h=>by
   rcases Zwv (P:=P) hcl o st with hd | ⟨v,hd⟩
   ·rw[hd] at h;cases h
   ·rw[hd] at h
    obtain ⟨vs,st',hc,hk⟩:=Zmo hcl r _ h
    exact ⟨v :: vs,st',⟨.inl ⟨hw,hd⟩,hc⟩,hk⟩
  have skip:wantA ops o st=some false→opsD P cl ops r (st.put o.dst sk) k=some y→∃vs st',Chain P cl ops (o :: r) st vs st'∧k st'=some y:=fun hw h=>by
   obtain ⟨vs,st',hc,hk⟩:=Zmo hcl r _ h
   exact ⟨sk :: vs,st',⟨.inr ⟨hw,rfl⟩,hc⟩,hk⟩
  cases hg:o.guard with
  | none=>
   simp only[opsD,hg] at h
   exact run (by simp[wantA,hg]) h
  | some jw=>
   obtain ⟨j,want⟩:=jw
   cases ht:(ops[j]?).bind (·.dst) with
   | none=>simp only[opsD,hg,ht] at h;cases h
   | some t=>
    cases hb:st.tm.getD t .top with
    | d T b=>
     cases T with
     | bool=>
      have hset:({ st with tm:=st.tm.set t (.d .bool b) } :St)=st:=by
       cases st with
       | mk tmm obb=>simp only[St.mk.injEq,and_true];exact Zj0 (st:=⟨tmm,obb⟩) hb (by simp)
      have hw:wantA ops o st=some (b==want):=by simp only[wantA,hg,dstOf,ht,hb]
      simp only[opsD,hg,ht,hb] at h
      cases b <;> cases want <;> simp only[M.bind,branch,cond_true,cond_false] at h <;> rw[hset] at h
      ·exact run hw h
      ·exact skip hw h
      ·exact skip hw h
      ·exact run hw h
     | _=>simp only[opsD,hg,ht,hb] at h;cases h
    | cst u=>
     simp only[opsD,hg,ht,hb] at h
     cases hn:notBool u with
     | false=>rw[hn] at h;cases h
     | true=>
      rw[hn] at h
      exact skip (by simp only[wantA,hg,dstOf,ht,hb,hn,cond_true]) h
    | _=>simp only[opsD,hg,ht,hb] at h;cases h
theorem ZoN {us0:List AV} :∀(l:List Oper) (i:Nat) (us:List AV) (st st':St),i≤ops.size→ops.toList.drop i=l→us0.drop i=us→Chain P cl ops l st us st'→st=acc ops st0 (fun j=>us0.getD j .top) (fun _=>true) i→
  st'=acc ops st0 (fun j=>us0.getD j .top) (fun _=>true) ops.size∧∀j o,i≤j→ops[j]? =some o→Step1 P cl ops o (acc ops st0 (fun j=>us0.getD j .top) (fun _=>true) j) (us0.getD j .top)
 | [],i,us,st,st',hi,hl,_,hc,hst=>by
  have hsz:ops.size=i:=by
   have:=congrArg List.length hl
   simp at this
   omega
  cases us with
  | nil=>
   simp only[Chain] at hc
   subst hc
   exact ⟨by rw[hsz];exact hst,fun j o hij ho=>by
    have:=(Array.getElem?_eq_some_iff.1 ho).1
    omega⟩
  | cons u us=>exact hc.elim
 | o :: r,i,[],st,st',_,hl,_,hc,hst=>hc.elim
 | o :: r,i,u :: us,st,st',hi,hl,hu,hc,hst=>by
  obtain ⟨h1,h2⟩:=hc
  have ho:ops[i]? =some o:=by
   have:(ops.toList.drop i)[0]? =some o:=by rw[hl];rfl
   simpa using this
  have hl':ops.toList.drop (i+1)=r:=by rw[←List.tail_drop,hl];rfl
  have hu':us0.drop (i+1)=us:=by rw[←List.tail_drop,hu];rfl
  have hui:us0.getD i .top=u:=by
   have:(us0.drop i)[0]? =some u:=by rw[hu];rfl
   rw[List.getElem?_drop] at this
   simp only[Nat.add_zero] at this
   rw[List.getD_eq_getElem?_getD,this];rfl
  have hst':st.put o.dst u=acc ops st0 (fun j=>us0.getD j .top) (fun _=>true) (i+1):=by
   unfold acc
   rw[if_pos rfl,←hst]
   simp only[hui,dstOf,ho,Option.bind_some]
  have hlt:=(Array.getElem?_eq_some_iff.1 ho).1
  obtain ⟨k1,k2⟩:=ZoN r (i+1) us _ st' (by omega) hl' hu' h2 hst'
  refine ⟨k1,fun j o' hij ho'=>?_⟩
  by_cases hji:i=j
  ·subst hji
   rw[ho] at ho'
   cases ho'
   rw[←hst,hui]
   exact h1
  ·exact k2 j o' (by omega) ho'
theorem Zmh:∀(l:List Oper) (a:List Nat) (j:Nat),j < a.length→(aheads l a).getD j 0=a.getD j 0
 | [],_,_,_=>rfl
 | o :: r,a,j,h=>by
  unfold aheads
  rw[Zmh r _ j (by simp;omega)]
  simp[List.getD_eq_getElem?_getD,List.getElem?_append_left h]
theorem Zvt {acc:List Nat} {i:Nat} :∀(es:List Edge) (s:Nat),Nat.testBit (es.foldl (fun s e=>bif Region.binds .any e then s ||| 2 ^ e.on ||| acc.getD e.on 0 else s) s) i=true→
  Nat.testBit s i=true∨∃e∈es,Region.binds .any e=true∧(e.on=i∨Nat.testBit (acc.getD e.on 0) i=true)
 | [],s,h=>.inl h
 | e :: es,s,h=>by
  rw[List.foldl_cons] at h
  rcases Zvt es _ h with h | ⟨e',he',h⟩
  ·cases hb:Region.binds .any e with
   | false=>rw[hb] at h;exact .inl h
   | true=>
    rw[hb] at h
    simp only[cond_true,Nat.testBit_or,Bool.or_eq_true] at h
    rcases h with (h | h) | h
    ·exact .inl h
    ·refine .inr ⟨e,by simp,hb,.inl ?_⟩
     rw[Nat.testBit_two_pow] at h
     simpa using h
    ·exact .inr ⟨e,by simp,hb,.inr h⟩
  ·exact .inr ⟨e',by simp[he'],h⟩
theorem ZdL:∀(l:List Oper) (a:List Nat) (j i:Nat),a.length≤j→Nat.testBit ((aheads l a).getD j 0) i=true→
  ∃o,l[j - a.length]? =some o∧∃e∈o.after.toList,Region.binds .any e=true∧(e.on=i∨(e.on < j∧Nat.testBit ((aheads l a).getD e.on 0) i=true))
 | [],a,j,i,hj,h=>by
  simp only[aheads] at h
  rw[List.getD_eq_getElem?_getD,List.getElem?_eq_none hj] at h
  simp at h
 | o :: r,a,j,i,hj,h=>by
  unfold aheads at h ⊢
  by_cases hja:j=a.length
  ·subst hja
   rw[Zmh r _ _ (by simp)] at h
   have hget:(a++[o.after.toList.foldl (fun s e=>bif Region.binds .any e then s ||| 2 ^ e.on ||| a.getD e.on 0 else s) 0]).getD a.length 0=o.after.toList.foldl (fun s e=>bif Region.binds .any e then s ||| 2 ^ e.on ||| a.getD e.on 0 else s) 0:=by
    simp[List.getD_eq_getElem?_getD]
   rw[hget] at h
   rcases Zvt _ _ h with h | ⟨e,he,hb,h⟩
   ·simp at h
   ·refine ⟨o,by simp,e,he,hb,h.imp id fun h=>?_⟩
    have hlt:e.on < a.length:=by
     rcases Nat.lt_or_ge e.on a.length with h' | h'
     ·exact h'
     ·rw[List.getD_eq_getElem?_getD,List.getElem?_eq_none h'] at h;simp at h
    refine ⟨hlt,?_⟩
    rw[Zmh r _ _ (by simp;omega)]
    simpa[List.getD_eq_getElem?_getD,List.getElem?_append_left hlt] using h
  ·obtain ⟨o',h1,h2⟩:=ZdL r _ j i (by simp;omega) h
   refine ⟨o',?_,h2⟩
   rw[show j - a.length=(j - (a.length+1))+1 by omega]
   simpa using h1
def Closed (ops:Array Oper) (S:Nat→Bool):Prop:=∀j o,ops[j]? =some o→S j=true→∀e∈o.after,Region.binds .any e=true→S e.on=true
theorem Z6 {S:Nat→Bool} (hS:Closed ops S):∀(j i:Nat),S j=true→Nat.testBit ((aheads ops.toList []).getD j 0) i=true→S i=true:=by
 intro j
 induction j using Nat.strongRecOn with
 | _ j ih=>
  intro i hj h
  obtain ⟨o,ho,e,he,hb,h⟩:=ZdL ops.toList [] j i (by simp) h
  have ho':ops[j]? =some o:=by simpa using ho
  have hon:=hS j o ho' hj e (by simpa using he) hb
  rcases h with h | ⟨hlt,h⟩
  ·rw[←h];exact hon
  ·exact ih e.on hlt i hon h
theorem Z9 (h:drawOK ops=true):∀j o,ops[j]? =some o→(∀e∈o.after,Region.binds .any e=true→e.on < j)∧
  ∀i p,i < j→ops[i]? =some p→Nat.testBit ((aheads ops.toList []).getD j 0) i=true∨p.apart ops o=true:=by
 intro j o ho
 have hlt:=(Array.getElem?_eq_some_iff.1 ho).1
 have h1:=List.all_eq_true.1 h j (by simp[hlt])
 rw[ho] at h1
 simp only[Bool.and_eq_true] at h1
 obtain ⟨h2,h3⟩:=h1
 refine ⟨fun e he hb=>?_,fun i p hij hp=>?_⟩
 ·have:=List.all_eq_true.1 h2 e (by simpa using he)
  rw[hb] at this
  simp only[Bool.not_true,Bool.false_or] at this
  exact Nat.le_of_ble_eq_true this
 ·have:=List.all_eq_true.1 h3 i (by simp[hij])
  rw[hp] at this
  simpa using this
end
end Go.Ev
end

section
namespace Go.Ev
variable [Tabs] [Orgs]
open Go
theorem ZjD {p p':Nat→Bool} {i:Nat} (hp:∀j,p' j=true→p j=true) (h1:p i=true) (h2:p' i=false):∀l:List Nat,i∈l→l.countP p' < l.countP p
 | [],h=>by cases h
 | x :: r,h=>by
  have hle:r.countP p'≤r.countP p:=List.countP_mono_left fun j _=>hp j
  by_cases hx:x=i
  ·subst hx
   rw[List.countP_cons_of_pos h1,List.countP_cons_of_neg (by simp[h2])]
   omega
  ·have ih:=ZjD hp h1 h2 r ((List.mem_cons.1 h).resolve_left fun e=>hx e.symm)
   rw[List.countP_cons,List.countP_cons]
   cases hpx:p' x with
   | true=>rw[hp x hpx];simpa using ih
   | false=>cases p x <;> simp <;> omega
section
variable {P:Program} {Mod F0:Nat→Prop} {w0:World} {cl:Cl} {ops:Array Oper} {st0:St} {vs:Nat→AV}
theorem Zg7 {st:St} {a:Act} {w:World} {o:Oper} {b:Bool} (hr:Rel Mod F0 w0 st a w) (h:wantA ops o st=some b):Region.wanted o (yielded ops a.tmps)=b:=by
 unfold wantA at h
 unfold Region.wanted
 cases hg:o.guard with
 | none=>rw[hg] at h;cases h;rfl
 | some jw=>
  obtain ⟨j,want⟩:=jw
  rw[hg] at h
  simp only at h ⊢
  cases ht:dstOf ops j with
  | none=>rw[ht] at h;cases h
  | some t=>
   rw[ht] at h
   simp only at h
   split at h
   ·rename_i c hc
    cases h
    obtain ⟨_,F,ρ,hR,_⟩:=hr
    have h1:=Zt hR (.tmp t)
    simp only[St.ev] at h1
    rw[hc] at h1
    have h2:=Zcq h1
    simp only[Act.eval] at h2
    have hy:yielded ops a.tmps j=some c:=by
     unfold yielded
     rw[show (ops[j]?).bind (·.dst)=some t from ht]
     simp only[Option.bind_some]
     rw[Array.getD_eq_getD_getElem?] at h2
     cases he:a.tmps[t]? with
     | none=>rw[he] at h2;simp[undef] at h2
     | some v=>rw[he] at h2;simp only[Option.getD_some] at h2;rw[h2]
    rw[hy]
    cases c <;> cases want <;> rfl
   ·rename_i u hc
    cases hn:notBool u with
    | false=>rw[hn] at h;cases h
    | true=>
     rw[hn] at h
     cases h
     obtain ⟨_,F,ρ,hR,_⟩:=hr
     have h1:=Zt hR (.tmp t)
     simp only[St.ev] at h1
     rw[hc] at h1
     have h2:=ZoT h1
     simp only[Act.eval] at h2
     have hy:yielded ops a.tmps j=none:=by
      unfold yielded
      rw[show (ops[j]?).bind (·.dst)=some t from ht]
      simp only[Option.bind_some]
      rw[Array.getD_eq_getD_getElem?] at h2
      cases he:a.tmps[t]? with
      | none=>rfl
      | some v=>
       rw[he] at h2
       simp only[Option.getD_some] at h2
       subst h2
       cases v <;> first | rfl | (simp[notBool] at hn)
     rw[hy]
     cases want <;> rfl
   ·cases h
theorem ZxY {i:Nat} :∀n,i≤n→acc ops st0 vs (fun j=>decide (j < i)) n=acc ops st0 vs (fun _=>true) i
 | 0,h=>by
  obtain rfl:i=0:=by omega
  rfl
 | n+1,h=>by
  by_cases hi:i=n+1
  ·subst hi
   exact ZiO _ fun j hj=>by simpa using hj
  ·rw[←ZxY n (by omega)]
   conv=>lhs;unfold acc
   rw[if_neg (by simp;omega)]
theorem ZxX {st st2:St} {d:Option Nat} {u v:AV} (h:st.put d u=st.put d v) (hl:st.tm.length=st2.tm.length):st2.put d u=st2.put d v:=by
 cases d with
 | none=>rfl
 | some t=>
  by_cases ht:t < st.tm.length
  ·have:u=v:=by
    have h1:(st.put (some t) u).tm[t]? =(st.put (some t) v).tm[t]?:=by rw[h]
    simpa[St.put,ht] using h1
   rw[this]
  ·have h2:¬t < st2.tm.length:=by omega
   simp[St.put,List.set_eq_of_length_le (Nat.le_of_not_lt h2)]
open Classical in
theorem Zyh (hcl:Spec P cl) (hdet:DetC cl) {y:Ans} {k:St→Option Ans} {Q:Exit→Act→World→Prop} (hQ:∀st a w,Rel Mod F0 w0 st a w→k st=some y→Q .normal a w)
  (hok:drawOK ops=true) (hsteps:∀j o,ops[j]? =some o→Step1 P cl ops o (acc ops st0 vs (fun _=>true) j) (vs j)) (hk:k (acc ops st0 vs (fun _=>true) ops.size)=some y):
  ∀(fuel:Nat) (listed:Array Bool) (a:Act) (w:World),listed.size=ops.size→Closed ops (fun j=>listed.getD j false)→(List.range ops.size).countP (fun j=>!listed.getD j true)≤fuel→
   Rel Mod F0 w0 (acc ops st0 vs (fun j=>listed.getD j false) ops.size) a w→wpAny P .any ops Q fuel listed a w:=by
 have hget:∀(listed:Array Bool) j,j < listed.size→listed.getD j true=listed.getD j false:=fun listed j hj=>by simp[hj]
 have allDone:∀(listed:Array Bool) a w,listed.size=ops.size→(∀j,j < ops.size→listed.getD j false=true)→Rel Mod F0 w0 (acc ops st0 vs (fun j=>listed.getD j false) ops.size) a w→Q .normal a w:=by
  intro listed a w hs hall hr
  rw[ZiO (T:=fun _=>true) ops.size hall] at hr
  exact hQ _ a w hr hk
 have ofReady:∀(listed:Array Bool),listed.size=ops.size→Region.ready .any ops listed=[]→∀j,j < ops.size→listed.getD j false=true:=by
  intro listed hs hr j
  induction j using Nat.strongRecOn with
  | _ j ih=>
   intro hj
   cases hl:listed.getD j false with
   | true=>rfl
   | false=>
    have:j∈Region.ready .any ops listed:=by
     rw[mem_ready]
     refine ⟨by rw[hget listed j (by omega)];exact hl,ops[j],by simp[hj],fun e he hb=>?_⟩
     have:=((Z9 hok) j ops[j] (by simp[hj])).1 e he hb
     exact ih e.on this (by omega)
    rw[hr] at this
    cases this
 have step:∀(K:Array Bool→Act→World→Prop) (listed:Array Bool) (a:Act) (w:World) (i:Nat),listed.size=ops.size→Closed ops (fun j=>listed.getD j false)→
   Rel Mod F0 w0 (acc ops st0 vs (fun j=>listed.getD j false) ops.size) a w→i∈Region.ready .any ops listed→
   (∀a' w',Closed ops (fun j=>(listed.setIfInBounds i true).getD j false)→Rel Mod F0 w0 (acc ops st0 vs (fun j=>(listed.setIfInBounds i true).getD j false) ops.size) a' w'→K (listed.setIfInBounds i true) a' w')→
   wpOp P ops Q i (K (listed.setIfInBounds i true)) a w:=by
  intro K listed a w i hs hcld hr hi hK
  obtain ⟨hun,o,ho,hpre⟩:=mem_ready.1 hi
  have hlt:=(Array.getElem?_eq_some_iff.1 ho).1
  have hSi:listed.getD i false=false:=by rw[←hget listed i (by omega)];exact hun
  have hdi:dstOf ops i=o.dst:=by simp[dstOf,ho]
  have hslot:∀t∈o.looksAt ops,(acc ops st0 vs (fun j=>listed.getD j false) ops.size).tm.getD t .top=(acc ops st0 vs (fun _=>true) i).tm.getD t .top:=by
   intro t ht
   rw[←ZxY (i:=i) ops.size (by omega)]
   refine Zvl ops.size fun j hj hdj=>?_
   obtain ⟨p,hp⟩:∃p,ops[j]? =some p:=⟨ops[j],by simp[hj]⟩
   have hpd:p.dst=some t:=by simpa[dstOf,hp] using hdj
   rcases Nat.lt_trichotomy j i with hji | hji | hji
   ·rw[decide_eq_true hji]
    rcases (Z9 hok i o ho).2 j p hji hp with hb | hap
    ·obtain ⟨o2,ho2,e,he,hbnd,h⟩:=ZdL ops.toList [] i j (by simp) hb
     have:o2=o:=by
      simp only[List.length_nil,Nat.sub_zero,Array.getElem?_toList] at ho2
      rw[ho] at ho2
      cases ho2;rfl
     subst this
     have hon:=hpre e (by simpa using he) hbnd
     rcases h with h | ⟨_,h⟩
     ·rw[←h];exact hon
     ·exact Z6 hcld e.on j hon h
    ·exact absurd ht ((Oper.apart_spec hap).1 t hpd)
   ·subst hji
    rw[hSi]
    simp
   ·rw[decide_eq_false (by omega)]
    cases hSj:listed.getD j false with
    | false=>rfl
    | true=>
     rcases (Z9 hok j p hp).2 i o hji ho with hb | hap
     ·have:listed.getD i false=true:=Z6 hcld j i hSj hb
      rw[hSi] at this
      cases this
     ·exact absurd ht ((Oper.apart_spec hap).2.2 t hpd)
  have hev:∀x∈o.op.operands,(acc ops st0 vs (fun j=>listed.getD j false) ops.size).ev x=(acc ops st0 vs (fun _=>true) i).ev x:=by
   intro x hx
   cases x with
   | tmp t=>exact hslot t (List.mem_append_left _ (List.mem_filterMap.2 ⟨.tmp t,by simpa using hx,rfl⟩))
   | _=>rfl
  have hwant:wantA ops o (acc ops st0 vs (fun j=>listed.getD j false) ops.size)=wantA ops o (acc ops st0 vs (fun _=>true) i):=by
   unfold wantA
   cases hg:o.guard with
   | none=>rfl
   | some jw=>
    obtain ⟨g,want⟩:=jw
    simp only
    cases ht:dstOf ops g with
    | none=>rfl
    | some t=>
     simp only
     rw[hslot t (by
      unfold Oper.looksAt
      rw[hg]
      refine List.mem_append_right _ ?_
      simp only
      rw[show (ops[g]?).bind (·.dst)=some t from ht]
      simp)]
  have hadd:(acc ops st0 vs (fun j=>listed.getD j false) ops.size).put o.dst (vs i)=acc ops st0 vs (fun j=>(listed.setIfInBounds i true).getD j false) ops.size:=by
   rw[←hdi,ZwG hSi ops.size hlt fun j hij hj hSj t ht hdj=>?_]
   ·refine ZiO _ fun j hj=>?_
    simp only[addS]
    by_cases hji:j=i
    ·subst hji;simp[hs,hlt]
    ·rw[getD_set_ne false (Ne.symm hji)];simp[hji]
   ·obtain ⟨p,hp⟩:∃p,ops[j]? =some p:=⟨ops[j],by simp[hj]⟩
    rcases (Z9 hok j p hp).2 i o hij ho with hb | hap
    ·have:listed.getD i false=true:=Z6 hcld j i hSj hb
     rw[hSi] at this
     cases this
    ·exact (Oper.apart_spec hap).2.1 t (by rw[←hdi];exact ht) (by simpa[dstOf,hp] using hdj)
  have hcld':Closed ops (fun j=>(listed.setIfInBounds i true).getD j false):=by
   intro j p hp hj e he hb
   by_cases hji:j=i
   ·subst hji
    rw[ho] at hp
    cases hp
    exact getD_set_true (hpre e he hb)
   ·simp only at hj
    rw[getD_set_ne false (Ne.symm hji)] at hj
    exact getD_set_true (hcld j p hp hj e he hb)
  unfold wpOp
  simp only[ho]
  rcases hsteps i o ho with ⟨hw,hop⟩ | ⟨hw,hv⟩
  ·rw[if_pos (Zg7 hr (by rw[hwant];exact hw))]
   refine .inl ?_
   have hob:∀S n,(acc ops st0 vs S n)=⟨(acc ops st0 vs S n).tm,st0.ob⟩:=fun S n=>by
    have:=ZxW (ops:=ops) (st0:=st0) (vs:=vs) S n
    cases h:acc ops st0 vs S n with
    | mk tm ob=>rw[h] at this;simp only at this;rw[this]
   have hfr:=Zt3 (P:=P) hdet (o:=o) (tm:=(acc ops st0 vs (fun _=>true) i).tm) (tm2:=(acc ops st0 vs (fun j=>listed.getD j false) ops.size).tm) (ob:=st0.ob) (by rw[←hob,←hob];exact hev)
   rw[←hob,←hob] at hfr
   rcases hfr with hn | ⟨v,h1,h2⟩
   ·have:=hop fun _=>some y
    rw[hn] at this
    cases this
   ·have e1:(acc ops st0 vs (fun _=>true) i).put o.dst v=(acc ops st0 vs (fun _=>true) i).put o.dst (vs i):=by
     have:=h1 fun s=>if s=(acc ops st0 vs (fun _=>true) i).put o.dst (vs i) then some y else none
     rw[hop,if_pos rfl] at this
     exact Classical.byContradiction fun hne=>by rw[if_neg hne] at this;cases this
    have e2:=ZxX (st2:=acc ops st0 vs (fun j=>listed.getD j false) ops.size) e1 (by rw[ZnV,ZnV])
    have h3:=h2 fun s=>if s=(acc ops st0 vs (fun j=>listed.getD j false) ops.size).put o.dst (vs i) then some y else none
    rw[e2,if_pos rfl] at h3
    refine Oper.wp_mono (fun a' w' h'=>?_) (Zv0 hcl (Zx4 hdet h3) hr Q)
    obtain ⟨st',hr',hst'⟩:=h'
    have:st'=(acc ops st0 vs (fun j=>listed.getD j false) ops.size).put o.dst (vs i):=Classical.byContradiction fun hne=>by rw[if_neg hne] at hst';cases hst'
    subst this
    rw[hadd] at hr'
    exact hK a' w' hcld' hr'
  ·have hwn:=Zg7 hr (by rw[hwant];exact hw)
   rw[if_neg (by rw[hwn];decide)]
   have hr':=Ziz hr o.dst
   rw[←hv,hadd] at hr'
   exact hK _ w hcld' hr'
 intro fuel
 induction fuel with
 | zero=>
  intro listed a w hs hcld hcnt hr
  have hall:∀j,j < ops.size→listed.getD j false=true:=fun j hj=>by
   have:=List.countP_eq_zero.1 (Nat.le_zero.1 hcnt) j (by simp[hj])
   rw[hget listed j (by omega)] at this
   simpa using this
  refine ⟨List.eq_nil_iff_forall_not_mem.2 fun j hj=>?_,allDone listed a w hs hall hr⟩
  obtain ⟨h1,o,ho,_⟩:=mem_ready.1 hj
  have hlt:=(Array.getElem?_eq_some_iff.1 ho).1
  rw[hget listed j (by omega),hall j hlt] at h1
  cases h1
 | succ fuel ih=>
  intro listed a w hs hcld hcnt hr
  refine ⟨fun h=>allDone listed a w hs (ofReady listed hs h) hr,fun i hi=>step (fun listed=>wpAny P .any ops Q fuel listed) listed a w i hs hcld hr hi fun a' w' hc' hr'=>?_⟩
  refine ih _ a' w' (by simpa using hs) hc' ?_ hr'
  obtain ⟨hun,o,ho,_⟩:=mem_ready.1 hi
  have hlt:=(Array.getElem?_eq_some_iff.1 ho).1
  have:=ZjD (p:=fun j=>!listed.getD j true) (p':=fun j=>!(listed.setIfInBounds i true).getD j true) (i:=i) (fun j hj=>by
   by_cases hji:i=j
   ·subst hji;simp[hs,hlt] at hj
   ·rw[getD_set_ne true hji] at hj;exact hj) (by simpa using hun) (by simp[hs,hlt]) (List.range ops.size) (by simp[hlt])
  omega
theorem Zxs (hcl:Spec P cl) (hdet:DetC cl) {id:Nat} {y:Ans} {k:St→Option Ans} {Q:Exit→Act→World→Prop} (hQ:∀st a w,Rel Mod F0 w0 st a w→k st=some y→Q .normal a w)
  (hm:P.follows .mixedOrders=true) (hok:drawOK ops=true) {st:St} {a:Act} {w:World} (h:opsD P cl ops ops.toList st k=some y) (hr:Rel Mod F0 w0 st a w):(Code.region id ops true).wp P Q a w:=by
 obtain ⟨us,st',hc,hk⟩:=Zmo hdet ops.toList st h
 obtain ⟨h1,h2⟩:=ZoN (st0:=st) (us0:=us) ops.toList 0 us st st' (Nat.zero_le _) rfl rfl hc rfl
 subst h1
 refine wp_region_any hm (Zyh hcl hdet hQ hok (fun j o ho=>h2 j o (Nat.zero_le _) ho) hk ops.size (Array.replicate ops.size false) a _ (by simp) ?_ (Nat.le_trans List.countP_le_length (by simp)) ?_)
 ·intro j o ho hj
  by_cases hlt:j < ops.size <;> simp[hlt] at hj
 ·have:acc ops st (fun j=>us.getD j .top) (fun j=>(Array.replicate ops.size false).getD j false) ops.size=st:=by
   have:∀n,acc ops st (fun j=>us.getD j .top) (fun j=>(Array.replicate ops.size false).getD j false) n=st:=by
    intro n
    induction n with
    | zero=>rfl
    | succ n ih=>
     unfold acc
     rw[if_neg,ih]
     by_cases hlt:n < ops.size <;> simp[hlt]
   exact this _
  rw[this]
  obtain ⟨hd,F,ρ,hR,hE⟩:=hr
  have hE':Evo (fun _=>False) F w F { w with drawn:=w.drawn+1 } :=⟨rfl,rfl,rfl,Nat.le_refl _,fun _ h=>h,fun _ h=>.inl h,fun _ _ _=>rfl⟩
  obtain ⟨hR',hE2⟩:=hR.world hE' (fun _ h=>h.elim) (fun _ _ h=>h) hR.low
  exact ⟨hd,F,ρ,hR',hE.trans hE2⟩
end
end Go.Ev
end

section
namespace Go.Ev
variable [Tabs] [Orgs]
open Go
theorem Zf9 (id:Nat) (p:Nat×Obj) (x:Nat) (u:Nat×Obj) (r:List (Nat×Nat×Obj)):ins id p ((x,u) :: r)=if x=id then (id,p) :: r else if id≤x then (id,p) :: (x,u) :: r else (x,u) :: ins id p r:=by
 simp only[ins]
 by_cases h1:x=id
 ·subst h1;simp
 ·rw[Zg4 h1,if_neg h1]
  by_cases h2:id≤x
  ·rw[Nat.ble_eq_true_of_le h2,if_pos h2];rfl
  ·rw[if_neg h2]
   have:Nat.ble id x=false:=by rw[Bool.eq_false_iff];intro e;exact h2 (Nat.le_of_ble_eq_true e)
   rw[this];rfl
theorem Zv9 {i j:Nat} (h:i < j) (p q:Nat×Obj):∀l:List (Nat×Nat×Obj),ins i p (ins j q l)=ins j q (ins i p l)
 | []=>by
  have a1:¬j=i:=by omega
  have a2:i≤j:=by omega
  have a3:¬i=j:=by omega
  have a4:¬j≤i:=by omega
  show ins i p [(j,q)]=ins j q [(i,p)]
  simp only[Zf9,a1,a2,a3,a4,if_true,if_false]
  rfl
 | (x,u) :: r=>by
  have ih:=Zv9 h p q r
  have b1:¬j=i:=by omega
  have b2:i≤j:=by omega
  have b3:¬i=j:=by omega
  have b4:¬j≤i:=by omega
  rcases Nat.lt_trichotomy x i with hx | hx | hx
  ·have a1:¬x=i:=by omega
   have a2:¬x=j:=by omega
   have a3:¬i≤x:=by omega
   have a4:¬j≤x:=by omega
   simp only[Zf9,a1,a2,a3,a4,if_false,ih]
  ·subst hx
   simp only[Zf9,b1,b2,b3,b4,if_false,if_true]
  ·have a1:¬x=i:=by omega
   have a3:i≤x:=by omega
   rcases Nat.lt_trichotomy x j with hy | hy | hy
   ·have a2:¬x=j:=by omega
    have a4:¬j≤x:=by omega
    simp only[Zf9,a1,a2,a3,a4,b1,b2,b3,b4,if_false,if_true]
   ·subst hy
    simp only[Zf9,a1,a3,b1,b2,b3,b4,if_false,if_true]
   ·have a2:¬x=j:=by omega
    have a4:j≤x:=by omega
    simp only[Zf9,a1,a2,a3,a4,b1,b2,b3,b4,if_false,if_true]
theorem ZxO {i j:Nat} (h:i≠j) (p q:Nat×Obj) (l:List (Id×Nat×Obj)):ins i p (ins j q l)=ins j q (ins i p l):=by
 rcases Nat.lt_or_gt_of_ne h with h | h
 ·exact Zv9 h p q l
 ·exact (Zv9 h q p l).symm
abbrev Obs:=List (Id×Nat×Obj)
def insAll:Obs→Obs→Obs
 | [],l=>l
 | p :: r,l=>insAll r (ins p.1 p.2 l)
theorem Zqm {i:Id} {q:Nat×Obj} :∀ {o:Obs} {l:Obs},(∀p∈o,p.1≠i)→insAll o (ins i q l)=ins i q (insAll o l)
 | [],l,_=>rfl
 | p :: r,l,h=>by
  unfold insAll
  rw[ZxO (h p (by simp)),Zqm fun x hx=>h x (by simp[hx])]
theorem Zou:∀ {o o':Obs} {l:Obs},(∀p∈o,∀p'∈o',p.1≠p'.1)→insAll o (insAll o' l)=insAll o' (insAll o l)
 | [],o',l,_=>rfl
 | p :: r,o',l,h=>by
  show insAll r (ins p.1 p.2 (insAll o' l))=insAll o' (insAll r (ins p.1 p.2 l))
  rw[←Zqm (o:=o') fun x hx=>(h p (by simp) x hx).symm,Zou fun x hx=>h x (by simp[hx])]
theorem ZaM:∀ {o o' l:Obs},insAll (o++o') l=insAll o' (insAll o l)
 | [],_,_=>rfl
 | p :: r,o',l=>by
  show insAll (r++o') _=insAll o' (insAll r _)
  exact ZaM
theorem ZcW {id:Id} :∀ {o l:Obs},(∀p∈o,p.1≠id)→find id (insAll o l)=find id l
 | [],_,_=>rfl
 | p :: r,l,h=>by
  unfold insAll
  rw[ZcW fun x hx=>h x (by simp[hx]),ZfM,if_neg (h p (by simp)).symm]
theorem Zba {id:Id} :∀ {o l l':Obs},find id l=find id l'→find id (insAll o l)=find id (insAll o l')
 | [],_,_,h=>h
 | p :: r,l,l',h=>by
  unfold insAll
  refine Zba ?_
  rw[ZfM,ZfM,h]
def app (o:Obs) (d:Option Nat) (v:AV) (st:St):St:=(⟨st.tm,insAll o st.ob⟩:St).put d v
theorem ZpY {o:Obs} {d:Option Nat} {v:AV} {st:St} :(app o d v st).tm=(st.put d v).tm:=by cases d <;> rfl
theorem Zka {o:Obs} {d:Option Nat} {v:AV} {st:St} :(app o d v st).ob=insAll o st.ob:=by cases d <;> rfl
theorem ZwB {d:Option Nat} {v:AV} {st:St} :app [] d v st=st.put d v:=rfl
theorem ZxC {o o':Obs} {d e:Option Nat} {u v:AV} {st:St} (h:∀p∈o,∀p'∈o',p.1≠p'.1) (hd:∀t,d=some t→e≠some t):app o d u (app o' e v st)=app o' e v (app o d u st):=by
 have e1:(app o d u (app o' e v st)).ob=(app o' e v (app o d u st)).ob:=by rw[Zka,Zka,Zka,Zka,Zou h]
 have e2:(app o d u (app o' e v st)).tm=(app o' e v (app o d u st)).tm:=by
  cases d with
  | none=>cases e <;> rfl
  | some t=>
   cases e with
   | none=>rfl
   | some s=>
    have hts:t≠s:=fun x=>hd t rfl (by rw[x])
    show (st.tm.set s v).set t u=(st.tm.set t u).set s v
    exact (List.set_comm _ _ hts).symm
 cases h1:app o d u (app o' e v st) with
 | mk a b=>
  cases h2:app o' e v (app o d u st) with
  | mk a' b'=>rw[h1,h2] at e1 e2;simp only at e1 e2;rw[e1,e2]
def agr (X:List Id) (st st2:St):Prop:=∀id∈X,find id st2.ob=find id st.ob
theorem agr.obj {X:List Id} {st st2:St} (h:agr X st st2) {id:Id} (hi:id∈X) (ver:Nat):st2.obj id ver=st.obj id ver:=by unfold St.obj;rw[h id hi]
theorem agr.nextVer {X:List Id} {st st2:St} (h:agr X st st2) {id:Id} (hi:id∈X):st2.nextVer id=st.nextVer id:=by unfold St.nextVer;rw[h id hi]
theorem agr.sub {X Y:List Id} {st st2:St} (h:agr X st st2) (hs:∀id∈Y,id∈X):agr Y st st2:=fun id hi=>h id (hs id hi)
def Fr3 (m m2:M St) (W:List Id) (st st2:St) (d:Option Nat):Prop:=
 (∀k,m k=none)∨∃v o,(∀p∈o,p.1∈W)∧(∀k,m k=k (app o d v st))∧∀k,m2 k=k (app o d v st2)
section
variable {W:List Id} {st st2:St} {d:Option Nat}
theorem Fr3.of2 {m m2:M St} (h:Fr2 m m2 st st2 d):Fr3 m m2 W st st2 d:=h.imp id fun ⟨v,h1,h2⟩=>⟨v,[],fun p hp=>by simp at hp,h1,h2⟩
theorem Fr3.fail {m2:M St} :Fr3 fail m2 W st st2 d:=.inl fun _=>rfl
theorem Fr3.upd {o:Obs} {v:AV} (h:∀p∈o,p.1∈W):Fr3 (M.pure (app o d v st)) (M.pure (app o d v st2)) W st st2 d:=.inr ⟨v,o,h,fun _=>rfl,fun _=>rfl⟩
theorem Fr3.guard {b:Bool} {m m2:M St} (h:Fr3 m m2 W st st2 d):Fr3 (fun k=>bif b then m k else none) (fun k=>bif b then m2 k else none) W st st2 d:=by
 cases b
 ·exact .inl fun _=>rfl
 ·exact h
theorem Fr3.cond {b:Bool} {m n m2 n2:M St} (h:Fr3 m m2 W st st2 d) (h':Fr3 n n2 W st st2 d):Fr3 (bif b then m else n) (bif b then m2 else n2) W st st2 d:=by cases b <;> assumption
theorem Fr3.bind {α:Type} {m:M α} (h:Det m) {f g:α→M St} (hf:∀a,Fr3 (f a) (g a) W st st2 d):Fr3 (M.bind m f) (M.bind m g) W st st2 d:=by
 rcases h with h | ⟨a,h⟩
 ·exact .inl fun k=>h _
 ·rcases hf a with h' | ⟨v,o,h0,h1,h2⟩
  ·exact .inl fun k=>(h _).trans (h' k)
  ·exact .inr ⟨v,o,h0,fun k=>(h _).trans (h1 k),fun k=>(h _).trans (h2 k)⟩
end
theorem Zlh {x:AV} {id:Id} (h:id∈men1 x):id∈men x:=by cases x <;> first | exact h | (simp[men1] at h)
theorem Zgm {x:AV} {id:Id} :∀ {l:List AV},x∈l→id∈men1 x→id∈menL l
 | y :: r,h,hi=>by
  unfold menL
  rcases List.mem_cons.1 h with rfl | h
  ·exact List.mem_append_left _ hi
  ·exact List.mem_append_right _ (Zgm h hi)
theorem Zj4 {st:St} {x:Operand} {id:Id} :∀ {l:List Operand},x∈l→id∈men (st.ev x)→id∈menOps st l
 | y :: r,h,hi=>by
  unfold menOps
  rcases List.mem_cons.1 h with rfl | h
  ·exact List.mem_append_left _ hi
  ·exact List.mem_append_right _ (Zj4 h hi)
section
variable {P:Program} {cl:Cl} {o:Oper} {st st2:St} {X:List Id}
theorem ZvC (h:agr X st st2) {x:AV} (hx:∀id∈men1 x,id∈X):behind st2 x=behind st x:=by
 cases x <;> first | rfl | (simp only[behind,h.obj (hx _ (List.mem_singleton.2 rfl))])
theorem Zxh (h:agr X st st2) {x:AV} (hx:∀id∈men1 x,id∈X):live st2 x=live st x:=by
 cases x <;> first | rfl | (simp only[live,h.obj (hx _ (List.mem_singleton.2 rfl))])
theorem ZxB (h:agr X st st2) {x:AV} (hx:∀id∈men1 x,id∈X):lenA st2 x=lenA st x:=by
 cases x with
 | d t v=>cases t <;> rfl
 | own i v pre=>simp only[lenA,h.obj (hx _ (List.mem_singleton.2 rfl))]
 | mp i v=>simp only[lenA,h.obj (hx _ (List.mem_singleton.2 rfl))]
 | dn i v p=>simp only[lenA,h.obj (hx _ (List.mem_singleton.2 rfl))]
 | _=>rfl
theorem Zv3 (h:agr X st st2) {T:TypeId} {x y:AV} (hx:∀id∈men1 x,id∈X):isNil P T st2 x y=isNil P T st x y:=by
 cases x with
 | pt i v off=>
  have hl:isNil.liveBox st2 i v=isNil.liveBox st i v:=by simp only[isNil.liveBox,h.obj (hx _ (List.mem_singleton.2 rfl))]
  unfold isNil
  cases P.underlying T with
  | none=>rfl
  | some D=>cases D <;> first | rfl | (cases y <;> first | rfl | (rename_i u;cases u <;> first | rfl | (rename_i a;cases a <;> first | rfl | (simp only[hl]))))
 | mp i v=>
  have hl:=h.obj (hx i (List.mem_singleton.2 rfl)) v
  unfold isNil
  cases P.underlying T with
  | none=>rfl
  | some D=>cases D <;> first | rfl | (cases y <;> first | rfl | (rename_i u;cases u <;> first | rfl | (rename_i a;cases a <;> first | rfl | (simp only[hl]))))
 | cst v=>unfold isNil;split <;> simp_all
 | _=>unfold isNil;split <;> simp_all
theorem ZxL (h:agr X st st2) {op:BinOp} {T:TypeId} {x y:AV} (hx:∀id∈men1 x,id∈X):binA P st2 op T x y=binA P st op T x y:=by
 unfold binA
 split <;> first | rfl | (rw[Zv3 h hx])
theorem ZvN (h:agr X st st2) {x:AV} (hx:∀id∈men1 x,id∈X):toData st2 x=toData st x:=by
 cases x <;> first | rfl | (simp only[toData,h.obj (hx _ (List.mem_singleton.2 rfl))])
theorem Zfp (h:agr X st st2):∀ {l:List AV},(∀id∈menL l,id∈X)→toDatas st2 l=toDatas st l
 | [],_=>rfl
 | x :: r,hx=>by
  unfold toDatas
  rw[ZvN h (fun id hi=>hx id (by unfold menL;simp[hi])),Zfp h fun id hi=>hx id (by unfold menL;simp[hi])]
theorem Zft:∀ {l:List AV} {cs:List AV} {is:List Id},toDatas st l=some (cs,is)→∀id∈is,id∈menL l
 | [],cs,is,h,id,hi=>by cases h;simp at hi
 | x :: r,cs,is,h,id,hi=>by
  unfold toDatas at h
  obtain ⟨⟨y,i⟩,h1,h⟩:=Option.bind_eq_some_iff.1 h
  obtain ⟨⟨ys,is'⟩,h2,h⟩:=Option.map_eq_some_iff.1 h
  simp only[Prod.mk.injEq] at h
  obtain ⟨_,rfl⟩:=h
  unfold menL
  rcases List.mem_append.1 hi with hi | hi
  ·refine List.mem_append_left _ ?_
   cases x with
   | own id' ver pre=>
    simp only[toData] at h1
    split at h1
    ·cases h1;simpa[men1] using hi
    ·cases h1
   | dn id' ver p=>
    simp only[toData] at h1
    split at h1
    ·split at h1
     ·cases h1;simpa[men1] using hi
     ·cases h1
    ·cases h1
   | _=>simp only[toData] at h1;cases h1;simp at hi
  ·exact List.mem_append_right _ (Zft h2 id hi)
def lockU (st:St):List Id→Obs
 | []=>[]
 | id :: r=>match find id st.ob with
  | some (v,.row E t l _)=>(id,v,.row E t l true) :: lockU st r
  | some (v,.deep _ _ _)=>(id,v,.gone none) :: lockU st r
  | some (v,.gone tg)=>(id,v,.gone tg) :: lockU st r
  | _=>lockU st r
theorem Zen {st:St} :∀ {is:List Id},∀p∈lockU st is,p.1∈is
 | [],p,h=>by simp[lockU] at h
 | id :: r,p,h=>by
  unfold lockU at h
  split at h
  ·rcases List.mem_cons.1 h with rfl | h
   ·simp
   ·exact List.mem_cons_of_mem _ (Zen p h)
  ·rcases List.mem_cons.1 h with rfl | h
   ·simp
   ·exact List.mem_cons_of_mem _ (Zen p h)
  ·rcases List.mem_cons.1 h with rfl | h
   ·simp
   ·exact List.mem_cons_of_mem _ (Zen p h)
  ·exact List.mem_cons_of_mem _ (Zen p h)
theorem Zg2 (h:agr X st st2):∀ {is:List Id},(∀id∈is,id∈X)→lockU st2 is=lockU st is
 | [],_=>rfl
 | id :: r,hs=>by
  unfold lockU
  rw[h id (hs id (by simp)),Zg2 h fun x hx=>hs x (by simp[hx])]
theorem ZnI:∀ {is:List Id} {st st0:St},(∀id,(find id st.ob=find id st0.ob)∨(∃v E t l lk,find id st0.ob=some (v,.row E t l lk)∧find id st.ob=some (v,.row E t l true))∨∃v E d l,find id st0.ob=some (v,.deep E d l)∧find id st.ob=some (v,.gone none))→
  st.lock is=⟨st.tm,insAll (lockU st0 is) st.ob⟩
 | [],st,st0,_=>rfl
 | id :: r,st,st0,h=>by
  unfold St.lock lockU
  have ins_row:∀(v:Nat) (E:TypeId) (t:Ty) (l:List (El t)) (lk:Bool),find id st0.ob=some (v,.row E t l lk)→
    (st.setOb id v (.row E t l true)).lock r=⟨st.tm,insAll ((id,v,.row E t l true) :: lockU st0 r) st.ob⟩:=by
   intro v E t l lk h0
   rw[ZnI (st0:=st0) fun i=>?_]
   ·rfl
   ·rw[Zp]
    by_cases hi:i=id
    ·subst hi
     exact .inr (.inl ⟨v,E,t,l,lk,h0,by rw[if_pos rfl]⟩)
    ·rw[if_neg hi];exact h i
  have ins_gone:∀(v:Nat) (tg:Option Nat),(find id st0.ob=some (v,.gone tg)∨tg=none∧∃E d l,find id st0.ob=some (v,.deep E d l))→
    (st.setOb id v (.gone tg)).lock r=⟨st.tm,insAll ((id,v,.gone tg) :: lockU st0 r) st.ob⟩:=by
   intro v tg h0
   rw[ZnI (st0:=st0) fun i=>?_]
   ·rfl
   ·rw[Zp]
    by_cases hi:i=id
    ·subst hi
     rcases h0 with h0 | ⟨rfl,E,d,l,h0⟩
     ·exact .inl (by rw[if_pos rfl,h0])
     ·exact .inr (.inr ⟨v,E,d,l,h0,by rw[if_pos rfl]⟩)
    ·rw[if_neg hi];exact h i
  rcases h id with he | ⟨v,E,t,l,lk,h0,h1⟩ | ⟨v,E,d,l,h0,h1⟩
  ·rw[he]
   cases hf:find id st0.ob with
   | none=>simp only;exact ZnI h
   | some p=>
    obtain ⟨v,ob⟩:=p
    cases ob with
    | row E t l lk=>simp only;exact ins_row v E t l lk hf
    | deep E d l=>simp only;exact ins_gone v none (.inr ⟨rfl,E,d,l,hf⟩)
    | gone tg=>simp only;exact ins_gone v tg (.inl hf)
    | _=>simp only;exact ZnI h
  ·rw[h0,h1]
   simp only
   exact ins_row v E t l lk h0
  ·rw[h0,h1]
   simp only
   exact ins_gone v none (.inr ⟨rfl,E,d,l,h0⟩)
theorem Zil {is:List Id} {st:St} :st.lock is=⟨st.tm,insAll (lockU st is) st.ob⟩:=ZnI fun _=>.inl rfl
theorem Znu {is:List Id} {st:St} {id:Id} :(st.lock is).nextVer id=st.nextVer id:=by
 induction is generalizing st with
 | nil=>rfl
 | cons i r ih=>
  unfold St.lock
  have one:∀(v:Nat) (o o':Obj),find i st.ob=some (v,o)→(st.setOb i v o').nextVer id=st.nextVer id:=fun v o o' hf=>by
   unfold St.nextVer
   rw[Zp]
   by_cases hi:id=i
   ·subst hi;rw[if_pos rfl,hf]
   ·rw[if_neg hi]
  split
  ·rename_i hf;rw[ih];exact one _ _ _ hf
  ·rename_i hf;rw[ih];exact one _ _ _ hf
  ·rename_i hf;rw[ih];exact one _ _ _ hf
  ·exact ih
theorem Zs3 (h:agr X st st2) {t:Ty} {x:AV} (hx:∀id∈men1 x,id∈X):extra st2 t x=extra st t x:=by
 cases x with
 | own i v pre=>simp only[extra,h.obj (hx _ (List.mem_singleton.2 rfl))]
 | d t' l=>cases t' <;> rfl
 | _=>rfl
theorem ZvJ {tm:List AV} (hv:isV o.op=true) (hagr:agr (touE o st) st st2) (hev:∀x∈o.op.operands,st2.ev x=st.ev x):
  Fr2 (opA P cl o st) (opA P cl o st2) st st2 o.dst:=by
 have hm:∀x∈o.op.operands,∀id∈men1 (st.ev x),id∈touE o st:=fun x hx id hi=>Zj4 (by simpa using hx) (Zlh hi)
 have hbeh:∀x∈o.op.operands,behind st2 (st.ev x)=behind st (st.ev x):=fun x hx=>ZvC hagr (hm x hx)
 have hlive:∀x∈o.op.operands,live st2 (st.ev x)=live st (st.ev x):=fun x hx=>Zxh hagr (hm x hx)
 have hbin:∀x∈o.op.operands,∀op T y,binA P st2 op T (st.ev x) y=binA P st op T (st.ev x) y:=fun x hx op T y=>ZxL hagr (hm x hx)
 have hobj:∀x∈o.op.operands,∀id∈men1 (st.ev x),∀ver,st2.obj id ver=st.obj id ver:=fun x hx id hi ver=>hagr.obj (hm x hx id hi) ver
 have hext:∀x∈o.op.operands,∀t,extra st2 t (st.ev x)=extra st t (st.ev x):=fun x hx t=>Zs3 hagr (hm x hx)
 cases h:o.op <;> rw[h] at hv hev hbeh hlive hbin hobj hext <;> simp only[isV] at hv <;> first | (cases hv;done) | skip
 case move x=>
  simp only[opA,h,hev x (by simp[Op.operands])]
  exact Fr2.pure _
 case assign x=>
  simp only[opA,h,hev x (by simp[Op.operands])]
  exact Fr2.pure _
 case pick c x y=>
  simp only[opA,h,hev c (by simp[Op.operands]),hev x (by simp[Op.operands]),hev y (by simp[Op.operands])]
  refine Fr2.bind Det.toB fun b=>Fr2.bind Det.branch fun b'=>?_
  cases b' <;> exact Fr2.pure _
 case load T x=>
  simp only[opA,h,hev x (by simp[Op.operands]),hbeh x (by simp[Op.operands])]
  split
  ·exact Fr2.cond (Fr2.pure _) Fr2.fail
  ·exact Fr2.opt
  ·exact Fr2.fail
 case nilCheck x=>
  simp only[opA,h,hev x (by simp[Op.operands]),hlive x (by simp[Op.operands])]
  exact Fr2.cond (Fr2.pure _) Fr2.fail
 case binOp op T x y T'=>
  simp only[opA,h,hev x (by simp[Op.operands]),hev y (by simp[Op.operands]),hbin x (by simp[Op.operands])]
  exact Fr2.bind Det.binA fun v=>Fr2.pure _
 case unOp op T x=>
  simp only[opA,h,hev x (by simp[Op.operands])]
  exact Fr2.bind Det.unA fun v=>Fr2.pure _
 case convert a b x=>
  have hx:=hext x (by simp[Op.operands])
  simp only[opA,h,hev x (by simp[Op.operands])]
  split <;> first | exact Fr2.pure _ | exact Fr2.fail | (split <;> first | exact Fr2.fail | (simp only[hx];split <;> first | exact Fr2.pure _ | exact Fr2.fail))
 case makeInterface T x=>
  simp only[opA,h,hev x (by simp[Op.operands])]
  split <;> first | exact Fr2.pure _ | exact Fr2.fail
 case fieldAddr S x j=>
  simp only[opA,h,hev x (by simp[Op.operands]),hlive x (by simp[Op.operands])]
  split
  ·exact Fr2.fail
  ·exact Fr2.cond (Fr2.pure _) Fr2.fail
 case field T x j=>
  simp only[opA,h,hev x (by simp[Op.operands])]
  split
  ·split
   ·exact Fr2.opt
   ·exact Fr2.fail
  ·exact Fr2.fail
 case indexAddr T x i=>
  have hl:=hlive x (by simp[Op.operands])
  have ho:=hobj x (by simp[Op.operands])
  simp only[opA,h,hev x (by simp[Op.operands]),hev i (by simp[Op.operands])]
  refine Fr2.bind Det.toI fun p=>?_
  generalize st.ev x=a at hl ho ⊢
  split
  ·split
   ·exact Fr2.cond (Fr2.bind Det.boundI fun n=>Fr2.pure _) Fr2.fail
   ·exact Fr2.fail
  ·rw[ho _ (by simp[men1])]
   split
   ·exact Fr2.cond (Fr2.bind Det.boundI fun n=>Fr2.pure _) Fr2.fail
   ·exact Fr2.fail
  ·rw[ho _ (by simp[men1])]
   split
   ·split
    ·exact Fr2.cond (Fr2.bind Det.boundI fun n=>Fr2.pure _) Fr2.fail
    ·exact Fr2.fail
   ·exact Fr2.fail
  ·rw[hl]
   refine Fr2.cond ?_ Fr2.fail
   split
   ·exact Fr2.bind Det.caseNat fun n=>Fr2.pure _
   ·exact Fr2.fail
  ·exact Fr2.fail
 case index T x i=>
  simp only[opA,h,hev x (by simp[Op.operands]),hev i (by simp[Op.operands])]
  refine Fr2.bind Det.toI fun p=>?_
  split
  ·exact Fr2.bind Det.boundI fun n=>Fr2.pure _
  ·split
   ·exact Fr2.bind Det.caseNat fun n=>Fr2.opt
   ·exact Fr2.fail
  ·exact Fr2.fail
 case extract x j=>
  simp only[opA,h,hev x (by simp[Op.operands])]
  split
  ·exact Fr2.opt
  ·exact Fr2.fail
 case lookup T x k ok=>
  have ho:=hobj x (by simp[Op.operands])
  simp only[opA,h,hev x (by simp[Op.operands]),hev k (by simp[Op.operands])]
  generalize st.ev x=a at ho ⊢
  split
  ·rw[ho _ (by simp[men1])]
   split
   ·split
    ·refine Fr2.cond (Fr2.cond ?_ (Fr2.pure _)) Fr2.fail
     rename_i kt vt l _ _ _ key z _ _
     cases mget key l
     ·exact Fr2.pure _
     ·exact Fr2.pure _
    ·exact Fr2.fail
   ·exact Fr2.fail
  ·exact Fr2.fail
 case typeAssert x T0 T ok=>
  simp only[opA,h,hev x (by simp[Op.operands])]
  split
  ·exact Fr2.fail
  ·exact Fr2.fail
  ·refine Fr2.cond (Fr2.pure _) (Fr2.cond ?_ Fr2.fail)
   split
   ·exact Fr2.pure _
   ·exact Fr2.fail
  ·exact Fr2.fail
end
end Go.Ev
end

section
namespace Go.Ev
variable [Tabs] [Orgs]
open Go
section
variable {P:Program} {cl:Cl} {o:Oper} {st st2:St} {X W:List Id}
theorem Zco {is:List Id} {d:Option Nat} {ob:Obj} {ref:Id→Nat→AV} (hr:∀e,d=some e→rootId e∈W∧rootId e∈X) (his:∀id∈is,id∈W∧id∈X) (hagr:agr X st st2):
  Fr3 (makeObj (st.lock is) d ob ref) (makeObj (st2.lock is) d ob ref) W st st2 d:=by
 cases d with
 | none=>exact Fr3.fail
 | some e=>
  have key:∀s:St,makeObj (s.lock is) (some e) ob ref=M.pure (app (lockU s is++[(rootId e,s.nextVer (rootId e),ob)]) (some e) (ref (rootId e) (s.nextVer (rootId e))) s):=fun s=>by
   unfold makeObj
   simp only[Znu]
   rw[Zil]
   unfold app
   rw[ZaM]
   rfl
  rw[key st,key st2,Zg2 hagr fun id hi=>(his id hi).2,hagr.nextVer (hr e rfl).2]
  refine Fr3.upd fun p hp=>?_
  rcases List.mem_append.1 hp with hp | hp
  ·exact (his _ (Zen p hp)).1
  ·simp only[List.mem_singleton] at hp
   subst hp
   exact (hr e rfl).1
theorem ZpZ (v:Value):men1 (ofVal v)=[]:=by
 unfold ofVal
 split <;> rfl
theorem Zsk:∀ {l:List AV},(∀x∈l,men1 x=[])→menL l=[]
 | [],_=>rfl
 | x :: r,h=>by
  unfold menL
  rw[h x (by simp),Zsk fun y hy=>h y (by simp[hy])]
  rfl
theorem Zsg {l:List AV} {id:Id} (h:id∈menL l):∃x∈l,id∈men1 x:=by
 induction l with
 | nil=>simp[menL] at h
 | cons y r ih=>
  unfold menL at h
  rcases List.mem_append.1 h with h | h
  ·exact ⟨y,by simp,h⟩
  ·obtain ⟨x,hx,hi⟩:=ih h
   exact ⟨x,by simp[hx],hi⟩
theorem ZoD {v:AV} {vs:List AV} (h:v.cells=some vs) {x:AV} (hx:x∈vs) {id:Id} (hi:id∈men1 x):id∈men v:=by
 unfold AV.cells at h
 split at h
 ·cases h;exact Zgm hx hi
 ·split at h
  ·cases h
   simp only[List.mem_singleton] at hx
   subst hx
   exact Zlh hi
  ·cases h
theorem ZnN {place:Nat→Option (Nat×Nat)} {id:Id} :∀ {ps:List (Nat×AV)} {cs cs':List AV},fillA place cs ps=some cs'→id∈menL cs'→id∈menL cs∨∃p∈ps,id∈men p.2
 | [],cs,cs',h,hi=>by cases h;exact .inl hi
 | (i,v) :: r,cs,cs',h,hi=>by
  unfold fillA at h
  obtain ⟨⟨off,size⟩,_,h⟩:=Option.bind_eq_some_iff.1 h
  obtain ⟨vs,hvs,h⟩:=Option.bind_eq_some_iff.1 h
  split at h
  ·cases h
  ·rcases ZnN h hi with h1 | ⟨p,hp,h1⟩
   ·obtain ⟨x,hx,hix⟩:=Zsg h1
    unfold setRange at hx
    rcases List.mem_append.1 hx with hx | hx
    ·exact .inl (Zgm (List.mem_of_mem_take hx) hix)
    ·rcases List.mem_append.1 hx with hx | hx
     ·exact .inr ⟨(i,v),by simp,ZoD hvs hx hix⟩
     ·exact .inl (Zgm (List.mem_of_mem_drop hx) hix)
   ·exact .inr ⟨p,by simp[hp],h1⟩
theorem Zvp (hagr:agr X st st2) {is:List Id} (his:∀id∈is,id∈X) {id:Id} (hi:id∈X) (ver:Nat):(st2.lock is).obj id ver=(st.lock is).obj id ver:=by
 rw[Zil,Zil,Zg2 hagr his]
 unfold St.obj
 rw[Zba (hagr id hi)]
theorem ZlT {d:Nat} {E:TypeId} {t:Ty} {bytes:Nat} {s:AV} {ys:List (El t)} (hr:rootId d∈W∧rootId d∈X) (hs:∀id∈men1 s,id∈W∧id∈X) (hagr:agr X st st2):
  Fr3 (appendB st d E t bytes s ys) (appendB st2 d E t bytes s ys) W st st2 (some d):=by
 unfold appendB
 split
 ·refine Fr3.guard ?_
  rw[hagr.nextVer hr.2]
  exact Fr3.upd (o:=[(rootId d,st.nextVer (rootId d),.row E t ys false)]) (v:=.own (rootId d) (st.nextVer (rootId d)) none) fun p hp=>by
   simp only[List.mem_singleton] at hp
   subst hp
   exact hr.1
 ·rename_i id ver pre
  have hid:=hs id (List.mem_singleton.2 rfl)
  rw[hagr.obj hid.2]
  split
  ·rename_i E' t' l _
   split
   ·split
    ·rename_i h1 h2
     subst h1
     refine Fr3.guard ?_
     exact Fr3.upd (o:=[(id,ver+1,.row E t' (preL pre l++ys) false)]) (v:=.own id (ver+1) none) fun p hp=>by
      simp only[List.mem_singleton] at hp
      subst hp
      exact hid.1
    ·exact Fr3.fail
   ·exact Fr3.fail
  ·exact Fr3.fail
 ·exact Fr3.fail
theorem Ztx {d:Nat} {T:TypeId} {s x:AV} (hr:rootId d∈W∧rootId d∈X) (hs:∀id∈men1 s,id∈W∧id∈X) (hx:∀id∈men1 x,id∈X) (hagr:agr X st st2):
  Fr3 (appendA P st d T s x) (appendA P st2 d T s x) W st st2 (some d):=by
 unfold appendA
 split
 ·exact Fr3.fail
 ·rw[Zs3 hagr hx]
  split
  ·exact Fr3.fail
  ·exact ZlT hr hs hagr
theorem ZrL {d:Nat} {T:TypeId} {s:AV} {n:Int} (hr:rootId d∈W∧rootId d∈X) (hs:∀id∈men1 s,id∈W∧id∈X) (hagr:agr X st st2):
  Fr3 (appendZ P st d T s n) (appendZ P st2 d T s n) W st st2 (some d):=by
 unfold appendZ
 split
 ·exact Fr3.fail
 ·split
  ·exact Fr3.fail
  ·exact Fr3.guard (ZlT hr hs hagr)
theorem Zfo (h:agr X st st2) {n:Nat} {rows:Bool} {x:AV} (ha:argE1 x=true) (hx:∀id∈men1 x,id∈X):give st2 rows (n+1) x=give st rows (n+1) x:=by
 cases x with
 | own i v pre=>simp only[give,h.obj (hx _ (List.mem_singleton.2 rfl))]
 | dn i v p=>simp only[give,h.obj (hx _ (List.mem_singleton.2 rfl))]
 | d t v=>rfl
 | nil=>rfl
 | cst v=>rfl
 | ifc t y=>rfl
 | _=>simp[argE1,flatB] at ha
theorem Zmg {g g2:AV→Option Given} :∀ {l:List AV},(∀x∈l,g2 x=g x)→allG g2 l=allG g l
 | [],_=>rfl
 | x :: r,h=>by
  unfold allG
  rw[h x (by simp),Zmg fun y hy=>h y (by simp[hy])]
theorem Zxr (h:agr X st st2) {n:Nat} {rows:Bool} {x:AV} (ha:argE x=true) (hx:∀id∈men x,id∈X):give st2 rows (n+2) x=give st rows (n+2) x:=by
 cases x with
 | ag cs=>
  simp only[argE,List.all_eq_true] at ha
  exact congrArg (Option.map fun (vs,is,os)=>(AV.ag vs,is,os)) (Zmg (g:=give st rows (n+1)) (g2:=give st2 rows (n+1)) fun y hy=>Zfo h (ha y hy) fun id hi=>hx id (Zgm hy hi))
 | tu cs=>simp[argE,argE1,flatB] at ha
 | own i v pre=>exact Zfo h ha hx
 | dn i v p=>exact Zfo h ha hx
 | d t v=>exact Zfo h ha hx
 | nil=>exact Zfo h ha hx
 | cst v=>exact Zfo h ha hx
 | ifc t y=>exact Zfo h ha hx
 | _=>simp[argE,argE1,flatB] at ha
theorem Zfw {n:Nat} {rows:Bool} {x y:AV} {is os:List Id} (ha:argE1 x=true) (h:give st rows (n+1) x=some (y,is,os)):∀id∈is,id∈men1 x:=by
 intro id hi
 cases x with
 | own i v pre=>
  simp only[give] at h
  split at h
  ·rename_i E t l lock _
   cases hb:(rows&& !lock) with
   | true=>rw[hb] at h;cases h;simp at hi
   | false=>rw[hb] at h;cases h;simpa[men1] using hi
  ·cases h
 | dn i v p=>
  simp only[give] at h
  split at h
  ·cases p with
   | nil=>cases rows <;> cases h <;> first | (simp at hi;done) | simpa[men1] using hi
   | cons e r=>
    cases rows with
    | true=>cases h
    | false=>
     simp only[cond_false] at h
     split at h
     ·cases h;simpa[men1] using hi
     ·cases h
  ·cases h
 | d t v=>simp only[give,flatB,cond_true] at h;cases h;simp at hi
 | nil=>simp only[give,flatB,cond_true] at h;cases h;simp at hi
 | cst v=>simp only[give,flatB,cond_true] at h;cases h;simp at hi
 | ifc t z=>
  have hf:flatB (.ifc t z)=true:=by simpa[argE1] using ha
  simp only[give,hf,cond_true] at h
  cases h
  simp at hi
 | _=>simp[argE1,flatB] at ha
theorem Zrz {g:AV→Option Given} {Y:AV→List Id} :∀ {l:List AV} {ys:List AV} {is os:List Id},(∀x∈l,∀y i o,g x=some (y,i,o)→∀id∈i,id∈Y x)→allG g l=some (ys,is,os)→∀id∈is,∃x∈l,id∈Y x
 | [],ys,is,os,_,h,id,hi=>by cases h;simp at hi
 | x :: r,ys,is,os,hg,h,id,hi=>by
  unfold allG at h
  obtain ⟨⟨y,i,o⟩,h1,h⟩:=Option.bind_eq_some_iff.1 h
  obtain ⟨⟨ys',is',os'⟩,h2,h⟩:=Option.map_eq_some_iff.1 h
  simp only[Prod.mk.injEq] at h
  obtain ⟨_,rfl,_⟩:=h
  rcases List.mem_append.1 hi with hi | hi
  ·exact ⟨x,by simp,hg x (by simp) y i o h1 id hi⟩
  ·obtain ⟨z,hz,hm⟩:=Zrz (fun z hz=>hg z (by simp[hz])) h2 id hi
   exact ⟨z,by simp[hz],hm⟩
theorem Zxu {n:Nat} {rows:Bool} {x y:AV} {is os:List Id} (ha:argE x=true) (h:give st rows (n+2) x=some (y,is,os)):∀id∈is,id∈men x:=by
 cases x with
 | ag cs=>
  simp only[argE,List.all_eq_true] at ha
  unfold give at h
  obtain ⟨⟨ys,i,o⟩,h1,h⟩:=Option.map_eq_some_iff.1 h
  simp only[Prod.mk.injEq] at h
  obtain ⟨_,rfl,_⟩:=h
  intro id hi
  obtain ⟨z,hz,hm⟩:=Zrz (Y:=men1) (fun z hz y i o hg=>Zfw (ha z hz) hg) h1 id hi
  exact Zgm hz hm
 | tu cs=>simp[argE,argE1,flatB] at ha
 | own i v pre=>exact Zfw (x:=.own i v pre) (n:=n+1) ha h
 | dn i v p=>exact Zfw (x:=.dn i v p) (n:=n+1) ha h
 | d t v=>exact Zfw (x:=.d t v) (n:=n+1) ha h
 | nil=>exact Zfw (x:=.nil) (n:=n+1) ha h
 | cst v=>exact Zfw (x:=.cst v) (n:=n+1) ha h
 | ifc t y=>exact Zfw (x:=.ifc t y) (n:=n+1) ha h
 | _=>simp[argE,argE1,flatB] at ha
def impU1 (nv:Id→Nat) (id:Id) (x:AV):AV×Obs:=match x with
 |.rw E t l=>(.own id (nv id) none,[(id,nv id,.row E t l false)])
 |.mv kt vt l=>(.mp id (nv id),[(id,nv id,.map kt vt l)])
 |.dw E d l=>(.dn id (nv id) [],[(id,nv id,.deep E d l)])
 | x=>(x,[])
def impUL (nv:Id→Nat) (id:Id):Nat→List AV→List AV×Obs
 | _,[]=>([],[])
 | j,x :: r=>((impU1 nv (childId id j) x).1 :: (impUL nv id (j+1) r).1,(impU1 nv (childId id j) x).2++(impUL nv id (j+1) r).2)
def impU (nv:Id→Nat) (id:Id) (x:AV):AV×Obs:=match x with
 |.ag cs=>(.ag (impUL nv id 0 cs).1,(impUL nv id 0 cs).2)
 | x=>impU1 nv id x
def impUM (nv:Id→Nat) (id:Id):Nat→List AV→List AV×Obs
 | _,[]=>([],[])
 | j,x :: r=>((impU nv (childId id j) x).1 :: (impUM nv id (j+1) r).1,(impU nv (childId id j) x).2++(impUM nv id (j+1) r).2)
def impUT (nv:Id→Nat) (id:Id) (x:AV):AV×Obs:=match x with
 |.tu cs=>(.tu (impUM nv id 0 cs).1,(impUM nv id 0 cs).2)
 |.bx T cs=>(.pt id (nv id) 0,(impUL nv id 0 cs).2++[(id,nv id,.box T (impUL nv id 0 cs).1 none)])
 | x=>impU nv id x
theorem Zah {n:Nat} {s:St} {id:Id} {x:AV} {nv:Id→Nat} (hx:ansE1 x=true) (hn:s.nextVer id=nv id):imp (n+1) s id x=some ((impU1 nv id x).1,⟨s.tm,insAll (impU1 nv id x).2 s.ob⟩):=by
 cases x with
 | rw E t l=>
  unfold imp impU1
  simp only[hn]
  rfl
 | mv kt vt l=>
  unfold imp impU1
  simp only[hn]
  rfl
 | dw E d l=>
  unfold imp impU1
  simp only[hn]
  rfl
 | d t v=>rfl
 | nil=>rfl
 | cst v=>rfl
 | ifc t y=>
  have hf:flatB (.ifc t y)=true:=by simpa[ansE1] using hx
  unfold imp impU1
  simp only[hf,cond_true]
  rfl
 | _=>simp[ansE1,flatB] at hx
theorem ZnW {nv:Id→Nat} {id:Id} {x:AV} :∀p∈(impU1 nv id x).2,p.1=id:=by
 intro p hp
 cases x <;> simp only[impU1] at hp <;> first | (simp at hp;done) | (simp only[List.mem_singleton] at hp;subst hp;rfl)
theorem ZnR {id j k:Nat} (h:childId id j=childId id k):j=k:=by
 have h':(id*1024+(j+1):Nat)=id*1024+(k+1):=h
 omega
theorem Zmr {n:Nat} {id:Id} {nv:Id→Nat} :∀ {cs:List AV} {j:Nat} {s:St},cs.all ansE1=true→(∀k,j≤k→k < j+cs.length→s.nextVer (childId id k)=nv (childId id k))→
  impA (imp (n+1)) s id j cs=some ((impUL nv id j cs).1,⟨s.tm,insAll (impUL nv id j cs).2 s.ob⟩)
 | [],j,s,_,_=>rfl
 | x :: r,j,s,hc,hn=>by
  simp only[List.all_cons,Bool.and_eq_true] at hc
  unfold impA impUL
  rw[Zah hc.1 (hn j (Nat.le_refl _) (by simp))]
  simp only[Option.bind_some]
  rw[Zmr (nv:=nv) hc.2 fun k hk hk2=>?_]
  ·simp only[Option.map_some,ZaM]
  ·have:(⟨s.tm,insAll (impU1 nv (childId id j) x).2 s.ob⟩:St).nextVer (childId id k)=s.nextVer (childId id k):=by
    unfold St.nextVer
    rw[ZcW fun p hp e=>?_]
    rw[ZnW p hp] at e
    have:=ZnR e
    omega
   rw[this]
   exact hn k (by omega) (by simp;omega)
theorem Zs8 {n:Nat} {s:St} {id:Id} {x:AV} {nv:Id→Nat} (hx:ansE2 x=true) (hn:s.nextVer id=nv id) (hk:∀k,k < 16→s.nextVer (childId id k)=nv (childId id k)):imp (n+2) s id x=some ((impU nv id x).1,⟨s.tm,insAll (impU nv id x).2 s.ob⟩):=by
 cases x with
 | ag cs=>
  simp only[ansE2,Bool.and_eq_true] at hx
  have hl:=Nat.le_of_ble_eq_true hx.2
  show Option.map _ (impA (imp (n+1)) s id 0 cs)=_
  rw[Zmr (nv:=nv) hx.1 fun k _ h2=>hk k (by omega)]
  rfl
 | rw E t l=>exact Zah hx hn
 | mv kt vt l=>exact Zah hx hn
 | dw E d l=>exact Zah hx hn
 | d t v=>exact Zah hx hn
 | nil=>exact Zah hx hn
 | cst v=>exact Zah hx hn
 | ifc t y=>exact Zah hx hn
 | _=>simp[ansE2,ansE1,flatB] at hx
theorem ZlV {nv:Id→Nat} {id:Id} :∀ {cs:List AV} {j:Nat},∀p∈(impUL nv id j cs).2,∃k,k < j+cs.length∧p.1=childId id k
 | [],j,p,h=>by simp[impUL] at h
 | x :: r,j,p,h=>by
  unfold impUL at h
  rcases List.mem_append.1 h with h | h
  ·exact ⟨j,by simp,ZnW p h⟩
  ·obtain ⟨k,hk,e⟩:=ZlV p h
   exact ⟨k,by simp at hk ⊢;omega,e⟩
theorem ZkL {nv nv2:Id→Nat} {id:Id} :∀ {cs:List AV} {j:Nat},(∀k,k < j+cs.length→nv2 (childId id k)=nv (childId id k))→impUL nv2 id j cs=impUL nv id j cs
 | [],j,_=>rfl
 | x :: r,j,h=>by
  have h0:impU1 nv2 (childId id j) x=impU1 nv (childId id j) x:=by
   cases x <;> simp only[impU1,h j (by simp)]
  unfold impUL
  rw[h0,ZkL fun k hk=>h k (by simp;omega)]
theorem Zmd {nv nv2:Id→Nat} {id:Id} {x:AV} (hx:ansE2 x=true) (hn:nv2 id=nv id) (hk:∀k,k < 16→nv2 (childId id k)=nv (childId id k)):
  impU nv2 id x=impU nv id x∧∀p∈(impU nv id x).2,p.1=id∨∃k,k < 16∧p.1=childId id k:=by
 have one:∀y,impU1 nv2 id y=impU1 nv id y:=fun y=>by cases y <;> simp only[impU1,hn]
 have other:∀y,(∀n,impU n id y=impU1 n id y)→(impU nv2 id y=impU nv id y∧∀p∈(impU nv id y).2,p.1=id∨∃k,k < 16∧p.1=childId id k):=fun y h=>by
  rw[h,h]
  exact ⟨one y,fun p hp=>.inl (ZnW p hp)⟩
 cases x with
 | ag cs=>
  simp only[ansE2,Bool.and_eq_true] at hx
  have hl:=Nat.le_of_ble_eq_true hx.2
  refine ⟨by unfold impU;simp only[ZkL (nv:=nv) (nv2:=nv2) (id:=id) (cs:=cs) (j:=0) fun k h=>hk k (by omega)],fun p hp=>.inr ?_⟩
  obtain ⟨k,h,e⟩:=ZlV p hp
  exact ⟨k,by omega,e⟩
 | _=>exact other _ fun _=>rfl
theorem ZxF {id j k:Nat} (h:j≠k):childId id j≠childId id k:=fun e=>h (ZnR e)
theorem Ztz {id i j k:Nat} (hk:k < 16):childId id k≠childId (childId id i) j:=by
 have h:(id*1024+(k+1):Nat)≠(id*1024+(i+1))*1024+(j+1):=by omega
 exact h
theorem Zwp {id i j k m:Nat} (hi:i≠k) (hj:j < 16) (hm:m < 16):childId (childId id i) j≠childId (childId id k) m:=by
 have h:((id*1024+(i+1))*1024+(j+1):Nat)≠(id*1024+(k+1))*1024+(m+1):=by omega
 exact h
theorem Zqc {n:Nat} {id:Id} {nv:Id→Nat} :∀ {cs:List AV} {j:Nat} {s:St},cs.all ansE2=true→j+cs.length≤4→(∀k,j≤k→k < 4→s.nextVer (childId id k)=nv (childId id k)∧∀m,m < 16→s.nextVer (childId (childId id k) m)=nv (childId (childId id k) m))→
  impA (imp (n+2)) s id j cs=some ((impUM nv id j cs).1,⟨s.tm,insAll (impUM nv id j cs).2 s.ob⟩)
 | [],j,s,_,_,_=>rfl
 | x :: r,j,s,hc,hl,hn=>by
  simp only[List.all_cons,Bool.and_eq_true] at hc
  rw[List.length_cons] at hl
  have h0:=hn j (Nat.le_refl _) (by omega)
  unfold impA impUM
  rw[Zs8 (nv:=nv) hc.1 h0.1 h0.2]
  simp only[Option.bind_some]
  have hids:=(Zmd (nv:=nv) (nv2:=nv) (id:=childId id j) hc.1 rfl fun _ _=>rfl).2
  have same:∀i:Id,i≠childId id j→(∀k,k < 16→i≠childId (childId id j) k)→(⟨s.tm,insAll (impU nv (childId id j) x).2 s.ob⟩:St).nextVer i=s.nextVer i:=fun i h1 h2=>by
   unfold St.nextVer
   rw[ZcW fun p hp e=>?_]
   rcases hids p hp with h | ⟨k,hk,h⟩
   ·exact h1 (e.symm.trans h)
   ·exact h2 k hk (e.symm.trans h)
  rw[Zqc (nv:=nv) hc.2 (by omega) fun k hk hk4=>?_]
  ·simp only[Option.map_some,ZaM]
  ·have hk':=hn k (by omega) hk4
   refine ⟨?_,fun m hm=>?_⟩
   ·rw[same _ (ZxF (by omega)) fun q hq=>Ztz (by omega)]
    exact hk'.1
   ·rw[same _ (fun e=>Ztz (id:=id) (i:=k) (j:=m) (k:=j) (by omega) e.symm) fun q hq=>Zwp (by omega) hm hq]
    exact hk'.2 m hm
theorem ZvE (i k:Nat):i*1024+(k+1)≠i:=by omega
theorem ZvX {n:Nat} {s:St} {id:Id} {x:AV} {nv:Id→Nat} (hx:ansE x=true) (hn:s.nextVer id=nv id) (hk:∀k,s.nextVer (childId id k)=nv (childId id k)) (hk2:∀k m,s.nextVer (childId (childId id k) m)=nv (childId (childId id k) m)):
  imp (n+3) s id x=some ((impUT nv id x).1,⟨s.tm,insAll (impUT nv id x).2 s.ob⟩):=by
 cases x with
 | tu cs=>
  simp only[ansE,Bool.and_eq_true] at hx
  have hl:=Nat.le_of_ble_eq_true hx.2
  show Option.map _ (impA (imp (n+2)) s id 0 cs)=_
  rw[Zqc (nv:=nv) hx.1 (by omega) fun k _ _=>⟨hk k,fun m _=>hk2 k m⟩]
  rfl
 | bx T cs=>
  simp only[ansE,Bool.and_eq_true] at hx
  have hl:=Nat.le_of_ble_eq_true hx.2
  show Option.map _ (impA (imp (n+2)) s id 0 cs)=_
  rw[Zmr (n:=n+1) (nv:=nv) hx.1 fun k _ _=>hk k]
  have hv:(⟨s.tm,insAll (impUL nv id 0 cs).2 s.ob⟩:St).nextVer id=nv id:=by
   rw[←hn]
   unfold St.nextVer
   rw[ZcW fun p hp e=>?_]
   obtain ⟨k,_,e2⟩:=ZlV p hp
   rw[e] at e2
   exact ZvE id k e2.symm
  simp only[Option.map_some,hv]
  unfold impUT
  rw[ZaM]
  rfl
 | ag cs=>exact Zs8 (n:=n+1) (x:=.ag cs) hx hn fun k _=>hk k
 | mv kt vt l=>exact Zah (n:=n+2) hx hn
 | dw E d l=>exact Zah (n:=n+2) hx hn
 | rw E t l=>exact Zah (n:=n+2) hx hn
 | d t v=>exact Zah (n:=n+2) hx hn
 | nil=>exact Zah (n:=n+2) hx hn
 | cst v=>exact Zah (n:=n+2) hx hn
 | ifc t y=>exact Zah (n:=n+2) hx hn
 | _=>simp[ansE,ansE1,flatB] at hx
theorem ZnL {nv nv2:Id→Nat} {id:Id} :∀ {cs:List AV} {j:Nat},cs.all ansE2=true→j+cs.length≤4→(∀k,k < 4→nv2 (childId id k)=nv (childId id k)∧∀m,m < 16→nv2 (childId (childId id k) m)=nv (childId (childId id k) m))→
  impUM nv2 id j cs=impUM nv id j cs∧∀p∈(impUM nv id j cs).2,∃k,k < 4∧(p.1=childId id k∨∃m,m < 16∧p.1=childId (childId id k) m)
 | [],j,_,_,_=>⟨rfl,fun p h=>by simp[impUM] at h⟩
 | x :: r,j,hc,hl,hn=>by
  simp only[List.all_cons,Bool.and_eq_true] at hc
  rw[List.length_cons] at hl
  have h0:=hn j (by omega)
  obtain ⟨f1,f2⟩:=Zmd (nv:=nv) (nv2:=nv2) (id:=childId id j) hc.1 h0.1 h0.2
  obtain ⟨i1,i2⟩:=ZnL (nv:=nv) (nv2:=nv2) (id:=id) (j:=j+1) hc.2 (by omega) hn
  refine ⟨by unfold impUM;rw[f1,i1],fun p hp=>?_⟩
  unfold impUM at hp
  rcases List.mem_append.1 hp with hp | hp
  ·exact ⟨j,by omega,f2 p hp⟩
  ·exact i2 p hp
theorem ZuE {nv nv2:Id→Nat} {d:Nat} {x:AV} (hx:ansE x=true) (hn:nv2 (rootId d)=nv (rootId d)) (hk:∀k,k < 16→nv2 (childId (rootId d) k)=nv (childId (rootId d) k))
  (hk2:∀k,k < 4→∀m,m < 16→nv2 (childId (childId (rootId d) k) m)=nv (childId (childId (rootId d) k) m)):
  impUT nv2 (rootId d) x=impUT nv (rootId d) x∧∀p∈(impUT nv (rootId d) x).2,p.1=rootId d∨(∃k,k < 16∧p.1=childId (rootId d) k)∨∃k,k < 4∧∃m,m < 16∧p.1=childId (childId (rootId d) k) m:=by
 have other:ansE2 x=true→(∀n,impUT n (rootId d) x=impU n (rootId d) x)→(impUT nv2 (rootId d) x=impUT nv (rootId d) x∧∀p∈(impUT nv (rootId d) x).2,p.1=rootId d∨(∃k,k < 16∧p.1=childId (rootId d) k)∨∃k,k < 4∧∃m,m < 16∧p.1=childId (childId (rootId d) k) m):=fun h2 h=>by
  rw[h,h]
  obtain ⟨f1,f2⟩:=Zmd (nv:=nv) (nv2:=nv2) h2 hn hk
  exact ⟨f1,fun p hp=>(f2 p hp).imp id .inl⟩
 cases x with
 | tu cs=>
  simp only[ansE,Bool.and_eq_true] at hx
  have hl:=Nat.le_of_ble_eq_true hx.2
  obtain ⟨f1,f2⟩:=ZnL (nv:=nv) (nv2:=nv2) (id:=rootId d) (j:=0) hx.1 (by omega) fun k h4=>⟨hk k (by omega),hk2 k h4⟩
  refine ⟨by unfold impUT;simp only[f1],fun p hp=>?_⟩
  obtain ⟨k,h4,h | ⟨m,hm,h⟩⟩:=f2 p hp
  ·exact .inr (.inl ⟨k,by omega,h⟩)
  ·exact .inr (.inr ⟨k,h4,m,hm,h⟩)
 | bx T cs=>
  simp only[ansE,Bool.and_eq_true] at hx
  have hl:=Nat.le_of_ble_eq_true hx.2
  refine ⟨by unfold impUT;simp only[ZkL (nv:=nv) (nv2:=nv2) (id:=rootId d) (cs:=cs) (j:=0) fun k h=>hk k (by omega),hn],fun p hp=>?_⟩
  unfold impUT at hp
  rcases List.mem_append.1 hp with hp | hp
  ·obtain ⟨k,h,e⟩:=ZlV p hp
   exact .inr (.inl ⟨k,by omega,e⟩)
  ·simp only[List.mem_singleton] at hp
   subst hp
   exact .inl rfl
 | ag cs=>exact other hx fun _=>rfl
 | mv kt vt l=>exact other hx fun _=>rfl
 | dw E d l=>exact other hx fun _=>rfl
 | rw E t l=>exact other hx fun _=>rfl
 | d t v=>exact other hx fun _=>rfl
 | nil=>exact other hx fun _=>rfl
 | cst v=>exact other hx fun _=>rfl
 | ifc t y=>exact other hx fun _=>rfl
 | _=>simp[ansE,ansE1,flatB] at hx
theorem ZuK (hcl:DetC cl) {f:FuncId} {args:List AV} {d:Option Nat} (hr:∀e,d=some e→(rootId e∈W∧rootId e∈X)∧(∀k,k < 16→childId (rootId e) k∈W∧childId (rootId e) k∈X)∧∀k,k < 4→∀m,m < 16→childId (childId (rootId e) k) m∈W∧childId (childId (rootId e) k) m∈X)
  (hx:∀x∈args,∀id∈men x,id∈W∧id∈X) (hagr:agr X st st2):Fr3 (callE cl f args d st) (callE cl f args d st2) W st st2 d:=by
 cases ha:args.all argE with
 | false=>
  refine .inl fun k=>?_
  unfold callE
  rw[ha]
  cases allG (give st (takes cl f) 6) args with
  | none=>rfl
  | some p=>
   obtain ⟨a,b,c⟩:=p
   cases c <;> rfl
 | true=>
  have ha':=List.all_eq_true.1 ha
  unfold callE
  rw[ha,Zmg (g:=give st (takes cl f) 6) (g2:=give st2 (takes cl f) 6) fun x h=>Zxr hagr (ha' x h) fun id hi=>(hx x h id hi).2]
  cases hg:allG (give st (takes cl f) 6) args with
  | none=>exact Fr3.fail
  | some p=>
   obtain ⟨forms,is,os⟩:=p
   cases os with
   | cons a b=>exact Fr3.fail
   | nil=>
    simp only[cond_true]
    have his:∀id∈is,id∈W∧id∈X:=fun id hi=>by
     obtain ⟨x,hxm,hm⟩:=Zrz (Y:=men) (fun x h y i o hgx=>Zxu (ha' x h) hgx) hg id hi
     exact hx x hxm id hm
    refine Fr3.bind (hcl _ _) fun ans=>?_
    cases hb:(ansE ans.1&&ans.2.all isTop) with
    | false=>exact Fr3.fail
    | true=>
     simp only[cond_true]
     rw[Bool.and_eq_true] at hb
     have hlk:∀s:St,(bif hasSl 6 ans.1 then s.lock is else s)=s.lock (bif hasSl 6 ans.1 then is else []):=fun s=>by cases hasSl 6 ans.1 <;> rfl
     have hL:∀id∈(bif hasSl 6 ans.1 then is else []),id∈W∧id∈X:=fun id hi=>by
      cases h:hasSl 6 ans.1 with
      | true=>rw[h] at hi;exact his id hi
      | false=>rw[h] at hi;simp at hi
     rw[hlk st,hlk st2]
     generalize (bif hasSl 6 ans.1 then is else [])=L at hL
     have hlu:lockU st2 L=lockU st L:=Zg2 hagr fun id hi=>(hL id hi).2
     have hlw:∀p∈lockU st L,p.1∈W:=fun p hp=>(hL _ (Zen p hp)).1
     cases d with
     | none=>
      have key:∀s:St,s.lock L=app (lockU s L) none .top s:=fun s=>Zil
      simp only
      rw[key st,key st2,hlu]
      exact Fr3.upd hlw
     | some e=>
      obtain ⟨hroot,hkids,hkids2⟩:=hr e rfl
      obtain ⟨hc,hids⟩:=ZuE (nv:=st.nextVer) (nv2:=st2.nextVer) (d:=e) hb.1 (hagr.nextVer hroot.2) (fun k hk=>hagr.nextVer (hkids k hk).2) fun k hk m hm=>hagr.nextVer (hkids2 k hk m hm).2
      have key:∀s:St,imp 6 (s.lock L) (rootId e) ans.1=some ((impUT s.nextVer (rootId e) ans.1).1,⟨s.tm,insAll (lockU s L++(impUT s.nextVer (rootId e) ans.1).2) s.ob⟩):=fun s=>by
       rw[ZvX (n:=3) (nv:=s.nextVer) hb.1 Znu (fun k=>Znu) fun k m=>Znu,Zil,ZaM]
      simp only
      rw[key st,key st2,hc,hlu]
      simp only
      refine Fr3.upd (o:=lockU st L++(impUT st.nextVer (rootId e) ans.1).2) (v:=(impUT st.nextVer (rootId e) ans.1).1) fun p hp=>?_
      rcases List.mem_append.1 hp with hp | hp
      ·exact hlw p hp
      ·rcases hids p hp with h | ⟨k,hk,h⟩ | ⟨k,hk,m,hm,h⟩
       ·rw[h];exact hroot.1
       ·rw[h];exact (hkids k hk).1
       ·rw[h];exact (hkids2 k hk m hm).1
end
end Go.Ev
end

section
namespace Go.Ev
variable [Tabs] [Orgs]
open Go
section
variable {P:Program} {cl:Cl} {o:Oper} {st st2:St}
theorem Zlk {st:St} {x:AV} :∀ {l:List Operand},x∈asArg st l→∃y∈l,x=st.ev y
 | y :: r,h=>by
  unfold asArg at h
  rcases List.mem_cons.1 h with rfl | h
  ·exact ⟨y,by simp,rfl⟩
  ·obtain ⟨z,hz,e⟩:=Zlk h
   exact ⟨z,by simp[hz],e⟩
theorem Zl1 (hcl:DetC cl) (hagr:agr (touE o st++wrE o st) st st2) (hev:∀x∈o.op.operands,st2.ev x=st.ev x):
  Fr3 (opE P cl o st) (opE P cl o st2) (wrE o st) st st2 o.dst:=by
 have hagrT:agr (touE o st) st st2:=hagr.sub fun id hi=>List.mem_append_left _ hi
 unfold opE
 cases hv:isV o.op with
 | true=>exact Fr3.of2 (ZvJ (tm:=st.tm) hv hagrT hev)
 | false=>
  simp only[cond_false]
  have hm:∀x∈o.op.operands,∀id∈men (st.ev x),id∈touE o st:=fun x hx id hi=>Zj4 (by simpa using hx) hi
  have hW:isE o.op=true→∀id,id∈rootE o∨id∈touE o st→id∈wrE o st∧id∈touE o st++wrE o st:=fun he id hi=>by
   have:id∈wrE o st:=by
    unfold wrE
    rw[he]
    simpa using hi
   exact ⟨this,List.mem_append_right _ this⟩
  have hroot:isE o.op=true→∀e,o.dst=some e→rootId e∈wrE o st∧rootId e∈touE o st++wrE o st:=fun he e hd=>hW he _ (.inl (by unfold rootE;rw[hd];simp))
  split
  ·-- a call
   rename_i c h
   rw[h] at hev hm
   split
   ·rename_i f hc
    have he:isE o.op=true:=by rw[h];simp only[isE,hc]
    rw[hev f (by simp[Op.operands,Call.operands,hc])]
    split
    ·refine Fr3.cond ?_ Fr3.fail
     rw[Za2 (st:=st) (st2:=st2) c.args.toList (fun x hx=>hev x (by
      simp only[Op.operands,Call.operands,hc]
      simp at hx ⊢
      exact .inr hx))]
     refine ZuK hcl (fun e hd=>⟨hroot he e hd,fun k hk=>hW he _ (.inl ?_),fun k hk m hm=>hW he _ (.inl ?_)⟩) (fun x hx id hi=>?_) hagr
     ·unfold rootE kids
      rw[hd,h]
      simp only[hc]
      exact List.mem_cons_of_mem _ (List.mem_append_left _ (List.mem_map.2 ⟨k,by simpa using hk,rfl⟩))
     ·unfold rootE kids
      rw[hd,h]
      simp only[hc]
      exact List.mem_cons_of_mem _ (List.mem_append_right _ (List.mem_flatMap.2 ⟨k,by simpa using hk,List.mem_map.2 ⟨m,by simpa using hm,rfl⟩⟩))
     ·obtain ⟨y,hy,rfl⟩:=Zlk hx
      exact hW he id (.inr (hm y (by
       simp only[Op.operands,Call.operands,hc]
       simp at hy ⊢
       exact .inr hy) id hi))
    ·exact Fr3.fail
   ·rename_i hc
    simp only[opA,h,hc]
    rw[Za2 (st:=st) (st2:=st2) c.args.toList (fun x hx=>hev x (by
      simp only[Op.operands,Call.operands,hc]
      simpa using hx))]
    split
    ·rename_i x T hargs _
     refine Fr3.of2 (Fr2.cond ?_ Fr2.fail)
     have hx:∀id∈men1 x,id∈touE o st:=fun id hi=>by
      obtain ⟨y,hy,e⟩:=Zlk (st:=st) (x:=x) (l:=c.args.toList) (by rw[hargs];simp)
      exact hm y (by simp only[Op.operands,Call.operands,hc];simpa using hy) id (by rw[←e];exact Zlh hi)
     rw[ZxB hagrT hx]
     exact Fr2.bind Det.lenA fun v=>Fr2.pure _
    ·exact Fr3.fail
   ·rename_i hc
    have he:isE o.op=true:=by rw[h];simp only[isE,hc]
    simp only[opA,h,hc]
    rw[Za2 (st:=st) (st2:=st2) c.args.toList (fun x hx=>hev x (by
      simp only[Op.operands,Call.operands,hc]
      simpa using hx))]
    split
    ·rename_i s x T T' d hargs _ hd
     have hmem:∀z,z∈[s,x]→∀id∈men1 z,id∈touE o st:=fun z hz id hi=>by
      obtain ⟨y,hy,e⟩:=Zlk (st:=st) (x:=z) (l:=c.args.toList) (by rw[hargs];exact hz)
      exact hm y (by simp only[Op.operands,Call.operands,hc];simpa using hy) id (by rw[←e];exact Zlh hi)
     rw[hd]
     refine Fr3.cond (Ztx (hroot he d hd) (fun id hi=>hW he id (.inr (hmem s (by simp) id hi))) (fun id hi=>(hW he id (.inr (hmem x (by simp) id hi))).2) hagr) ?_
     split
     ·exact ZrL (hroot he d hd) (fun id hi=>hW he id (.inr (hmem s (by simp) id hi))) hagr
     ·exact Fr3.fail
    ·exact Fr3.fail
   ·rename_i hc
    simp only[opA,h,hc]
    rw[Za2 (st:=st) (st2:=st2) c.args.toList (fun x hx=>hev x (by
      simp only[Op.operands,Call.operands,hc]
      simpa using hx))]
    refine Fr3.of2 ?_
    split
    ·exact Fr2.bind Det.toI fun p=>Fr2.bind Det.toI fun q=>Fr2.pure _
    ·exact Fr2.fail
   ·rename_i hc
    simp only[opA,h,hc]
    rw[Za2 (st:=st) (st2:=st2) c.args.toList (fun x hx=>hev x (by
      simp only[Op.operands,Call.operands,hc]
      simpa using hx))]
    refine Fr3.of2 ?_
    split
    ·exact Fr2.bind Det.toI fun p=>Fr2.bind Det.toI fun q=>Fr2.pure _
    ·exact Fr2.fail
   ·exact Fr3.fail
  ·-- slice
   rename_i T x lo hi h
   have hx:x∈o.op.operands:=by rw[h];simp[Op.operands]
   rw[hev x hx]
   cases hs:slX (st.ev x) lo with
   | false=>exact Fr3.fail
   | true=>exact Fr3.of2 (ZoH h hs hev fun id hi ver=>hagrT.obj (hm x hx id (Zlh hi)) ver)
  ·-- alloc
   rename_i T h
   have he:isE o.op=true:=by rw[h];rfl
   simp only[opA,h]
   split
   ·exact Zco (is:=[]) (fun e hd=>hroot he e hd) (fun id hi=>by simp at hi) hagr
   ·exact Fr3.fail
  ·-- box
   rename_i T x h
   have he:isE o.op=true:=by rw[h];rfl
   rw[h] at hev
   simp only[opA,h,hev x (by simp[Op.operands])]
   split
   ·exact Zco (is:=[]) (fun e hd=>hroot he e hd) (fun id hi=>by simp at hi) hagr
   ·exact Fr3.fail
  ·-- build
   rename_i T parts h
   rw[h] at hev
   have hp:parts.toList.map (fun p=>(p.1,st2.ev p.2))=parts.toList.map (fun p=>(p.1,st.ev p.2)):=List.map_congr_left fun p hp=>by
    rw[hev p.2 (by simp only[Op.operands];simp;exact ⟨p.1,by simpa using hp⟩)]
   simp only[opA,h,hp]
   refine Fr3.of2 ?_
   split
   ·exact Fr2.cond Fr2.fail Fr2.opt
   ·split
    ·exact Fr2.opt
    ·exact Fr2.fail
   ·exact Fr2.fail
  ·-- buildSlice
   rename_i T len parts h
   have he:isE o.op=true:=by rw[h];rfl
   rw[h] at hev hm
   have hmem:∀p∈parts.toList,p.2∈(Op.buildSlice T len parts).operands:=fun p hp=>by simp only[Op.operands];simp;exact ⟨p.1,by simpa using hp⟩
   have hp:parts.toList.map (fun p=>(p.1,st2.ev p.2))=parts.toList.map (fun p=>(p.1,st.ev p.2)):=List.map_congr_left fun p hp=>by rw[hev p.2 (hmem p hp)]
   simp only[opA,h,hp]
   split
   ·exact Fr3.fail
   ·split
    ·rename_i sz z hs hz
     refine Fr3.cond ?_ Fr3.fail
     split
     ·exact Fr3.fail
     ·rename_i cs hcs
      have hids:∀id∈menL cs,id∈touE o st:=fun id hi=>by
       rcases ZnN hcs hi with h0 | ⟨p,hp,hi⟩
       ·exfalso
        rw[Zsk fun x hx=>?_] at h0
        ·simp at h0
        ·obtain ⟨i,_,rfl⟩:=List.mem_map.1 hx
         rw[List.getD_eq_getElem?_getD]
         cases hg:z[i % z.length]? with
         | none=>rfl
         | some y=>
          have hy:y∈z:=List.mem_of_getElem? hg
          unfold zeroAV at hz
          obtain ⟨u,_,rfl⟩:=Option.map_eq_some_iff.1 hz
          obtain ⟨v,_,rfl⟩:=List.mem_map.1 hy
          exact ZpZ v
       ·obtain ⟨q,hq,rfl⟩:=List.mem_map.1 hp
        exact hm q.2 (hmem q hq) id hi
      rw[Zfp hagrT hids]
      split
      ·exact Fr3.fail
      ·rename_i cs2 is hd
       split
       ·exact Fr3.fail
       ·exact Zco (fun e hd=>hroot he e hd) (fun id hi=>hW he id (.inr (hids id (Zft hd id hi)))) hagr
    ·exact Fr3.fail
  ·-- store
   rename_i T x v h
   have he:isE o.op=true:=by rw[h];rfl
   rw[h] at hev hm
   have hmx:=hm x (by simp[Op.operands])
   have hmv:=hm v (by simp[Op.operands])
   simp only[opA,h,hev x (by simp[Op.operands]),hev v (by simp[Op.operands])]
   split
   ·rename_i vs z hvs hz
    refine Fr3.cond ?_ Fr3.fail
    generalize st.ev x=a at hmx ⊢
    split
    ·rename_i id ver off
     have hid:=hW he id (.inr (hmx id (List.mem_singleton.2 rfl)))
     rw[hagr.obj hid.2]
     split
     ·rename_i T' cs tg _
      refine Fr3.cond ?_ Fr3.fail
      exact Fr3.upd (o:=[(id,ver,.box T' (setRange cs off vs) tg)]) (v:=.top) fun p hp=>by
       simp only[List.mem_singleton] at hp
       subst hp
       exact hid.1
     ·exact Fr3.fail
    ·rename_i id ver i j
     have hid:=hW he id (.inr (hmx id (List.mem_singleton.2 rfl)))
     have hids:∀id∈menL vs,id∈touE o st:=fun id hi=>by
      obtain ⟨y,hy,hi⟩:=Zsg hi
      exact hmv id (ZoD hvs hy hi)
     rw[Zfp hagrT hids]
     split
     ·exact Fr3.fail
     ·rename_i vs2 is hd
      have his:∀i∈is,i∈wrE o st∧i∈touE o st++wrE o st:=fun i hi=>hW he i (.inr (hids i (Zft hd i hi)))
      rw[Zvp hagr (fun i hi=>(his i hi).2) hid.2]
      split
      ·rename_i E t l _
       refine Fr3.cond ?_ Fr3.fail
       split
       ·rename_i e _
        have key:∀s:St,((s.lock is).setOb id ver (.row E t (l.set i e) false)).put o.dst .top=app (lockU s is++[(id,ver,.row E t (l.set i e) false)]) o.dst .top s:=fun s=>by
         rw[Zil]
         unfold app
         rw[ZaM]
         rfl
        rw[key st,key st2,Zg2 hagr fun i hi=>(his i hi).2]
        refine Fr3.upd fun p hp=>?_
        rcases List.mem_append.1 hp with hp | hp
        ·exact (his _ (Zen p hp)).1
        ·simp only[List.mem_singleton] at hp
         subst hp
         exact hid.1
       ·exact Fr3.fail
      ·exact Fr3.fail
    ·rename_i id ver p i j
     have hid:=hW he id (.inr (hmx id (List.mem_singleton.2 rfl)))
     have hids:∀id∈menL vs,id∈touE o st:=fun id hi=>by
      obtain ⟨y,hy,hi⟩:=Zsg hi
      exact hmv id (ZoD hvs hy hi)
     rw[Zfp hagrT hids]
     split
     ·exact Fr3.fail
     ·rename_i vs2 is hd
      have his:∀i∈is,i∈wrE o st∧i∈touE o st++wrE o st:=fun i hi=>hW he i (.inr (hids i (Zft hd i hi)))
      rw[Zvp hagr (fun i hi=>(his i hi).2) hid.2]
      split
      ·rename_i E d l _
       split
       ·refine Fr3.cond ?_ Fr3.fail
        split
        ·rename_i l2 _
         have key:∀s:St,((s.lock is).setOb id ver (.deep E d l2)).put o.dst .top=app (lockU s is++[(id,ver,.deep E d l2)]) o.dst .top s:=fun s=>by
          rw[Zil]
          unfold app
          rw[ZaM]
          rfl
         rw[key st,key st2,Zg2 hagr fun i hi=>(his i hi).2]
         refine Fr3.upd fun p hp=>?_
         rcases List.mem_append.1 hp with hp | hp
         ·exact (his _ (Zen p hp)).1
         ·simp only[List.mem_singleton] at hp
          subst hp
          exact hid.1
        ·exact Fr3.fail
       ·exact Fr3.fail
      ·exact Fr3.fail
    ·exact Fr3.fail
   ·exact Fr3.fail
  ·-- makeSlice
   rename_i T n c h
   have he:isE o.op=true:=by rw[h];rfl
   simp only[opA,h,hev n (by rw[h];simp[Op.operands]),hev c (by rw[h];simp[Op.operands])]
   refine Fr3.bind Det.toI fun p=>Fr3.bind Det.toI fun q=>?_
   split
   ·exact Fr3.fail
   ·split
    ·exact Fr3.fail
    ·exact Fr3.guard (Zco (is:=[]) (fun e hd=>hroot he e hd) (fun id hi=>by simp at hi) hagr)
  ·-- makeMap
   rename_i T n h
   have he:isE o.op=true:=by rw[h];rfl
   cases n with
   | some n=>simp only[opA,h];exact Fr3.fail
   | none=>
    simp only[opA,h]
    split
    ·split
     ·exact Fr3.cond (Zco (is:=[]) (fun e hd=>hroot he e hd) (fun id hi=>by simp at hi) hagr) Fr3.fail
     ·exact Fr3.fail
    ·exact Fr3.fail
  ·exact Fr3.fail
end
end Go.Ev
namespace Go.Ev
variable [Tabs] [Orgs]
open Go
theorem Zu5 {cl:Cl} (hcl:DetC cl) {f:FuncId} {args:List AV} {dst:Option Nat} {st:St} {k:St→Option Ans} {y:Ans} (h:callE cl f args dst st k=some y):callA cl f args dst st k=some y:=by
 unfold callE at h
 unfold callA
 cases hg:allG (give st (takes cl f) 6) args with
 | none=>rw[hg] at h;cases h
 | some p=>
  obtain ⟨forms,is,os⟩:=p
  rw[hg] at h
  cases os with
  | cons x r=>cases h
  | nil=>
   simp only at h
   cases ha:args.all argE with
   | false=>rw[ha] at h;cases h
   | true=>
    rw[ha] at h
    simp only[nodupB,apartB,List.all_nil,Bool.and_true,cond_true] at h ⊢
    rcases hcl f forms with hd | ⟨⟨r,outs⟩,hd⟩
    ·simp only[M.bind,hd] at h;cases h
    ·simp only[M.bind,hd] at h ⊢
     cases hc:(ansE r&&outs.all isTop) with
     | false=>rw[hc] at h;cases h
     | true=>
      rw[hc] at h
      simp only[Bool.and_eq_true] at hc
      simp only[ZoR _ hc.2,Bool.or_false,dropIds,Zmp _ _ _ hc.2]
      exact h
theorem ZuQ {cl:Cl} (hcl:DetC cl) {f:FuncId} {args:List AV} {dst:Option Nat} {st:St} {k:St→Option Ans} {y:Ans} (h:callE cl f args dst st k=some y):callX cl f args dst st k=some y:=by
 unfold callX
 cases hs:same2 args with
 | none=>exact Zu5 hcl h
 | some x=>
  exfalso
  unfold callE at h
  cases hg:allG (give st (takes cl f) 6) args with
  | none=>rw[hg] at h;cases h
  | some p=>
   obtain ⟨forms,is,os⟩:=p
   rw[hg] at h
   cases os with
   | cons a b=>cases h
   | nil=>exact Zp5 hs hg rfl
theorem Zwz {P:Program} {cl:Cl} (hcl:DetC cl) {o:Oper} {st:St} {k:St→Option Ans} {y:Ans} (h:opE P cl o st k=some y):opA P cl o st k=some y:=by
 unfold opE at h
 cases hv:isV o.op with
 | true=>rw[hv] at h;exact h
 | false=>
  rw[hv] at h
  simp only[cond_false] at h
  cases hop:o.op <;> rw[hop] at h <;> first | exact h | (cases h;done) | skip
  case slice T x lo hi mx=>
   cases mx with
   | some m=>cases h
   | none=>
    simp only at h
    cases hs:slX (st.ev x) lo with
    | false=>rw[hs] at h;cases h
    | true=>rw[hs] at h;exact h
  rename_i c
  simp only at h
  cases hc:c.callee with
  | invoke r m=>rw[hc] at h;cases h
  | builtin b=>rw[hc] at h;cases b <;> first | exact h | (cases h;done)
  | value f=>
   rw[hc] at h
   simp only at h
   simp only[opA,hop,hc]
   cases hf:st.ev f with
   | cst u=>
    rw[hf] at h
    cases u with
    | func g first caps=>
     cases g with
     | func g=>
      simp only at h ⊢
      cases he:(first.isEmpty&&caps.isEmpty) with
      | false=>rw[he] at h;cases h
      | true=>rw[he] at h;exact ZuQ hcl h
     | _=>cases h
    | _=>cases h
   | _=>rw[hf] at h;cases h
section
variable {P:Program} {Mod F0:Nat→Prop} {w0:World} {cl:Cl} {ops:Array Oper} {st0:St}
structure Up where
 v:AV
 o:Obs
def accE (ops:Array Oper) (st0:St) (us:Nat→Up) (S:Nat→Bool):Nat→St
 | 0=>st0
 | n+1=>if S n then app (us n).o (dstOf ops n) (us n).v (accE ops st0 us S n) else accE ops st0 us S n
variable {us:Nat→Up}
theorem ZhR (S:Nat→Bool):∀n,(accE ops st0 us S n).tm.length=st0.tm.length
 | 0=>rfl
 | n+1=>by unfold accE;split <;> simp[ZpY,ZwI,ZhR S n]
theorem Zwe {o:Obs} {st:St} {d:Option Nat} {v:AV} {t:Nat} (h:d≠some t):(app o d v st).tm.getD t .top=st.tm.getD t .top:=by rw[ZpY];exact Zs6 h
theorem ZxE {o:Obs} {st st2:St} {v:AV} {t:Nat} (h:st.tm.length=st2.tm.length):(app o (some t) v st).tm.getD t .top=(app o (some t) v st2).tm.getD t .top:=by rw[ZpY,ZpY];exact Zvu h
theorem Zoj {S T:Nat→Bool} {t:Nat} :∀n,(∀j,j < n→dstOf ops j=some t→S j=T j)→(accE ops st0 us S n).tm.getD t .top=(accE ops st0 us T n).tm.getD t .top
 | 0,_=>rfl
 | n+1,h=>by
  have ih:=Zoj n fun j hj=>h j (by omega)
  unfold accE
  by_cases hd:dstOf ops n=some t
  ·rw[h n (by omega) hd,hd]
   split
   ·exact ZxE (by rw[ZhR,ZhR])
   ·exact ih
  ·split <;> split <;> simp only[Zwe hd,ih]
theorem ZnE {S T:Nat→Bool} {id:Id} :∀n,(∀j,j < n→(∃p∈(us j).o,p.1=id)→S j=T j)→find id (accE ops st0 us S n).ob=find id (accE ops st0 us T n).ob
 | 0,_=>rfl
 | n+1,h=>by
  have ih:=ZnE n fun j hj=>h j (by omega)
  unfold accE
  by_cases hd:∃p∈(us n).o,p.1=id
  ·rw[h n (by omega) hd]
   split
   ·rw[Zka,Zka];exact Zba ih
   ·exact ih
  ·have hne:∀p∈(us n).o,p.1≠id:=fun p hp e=>hd ⟨p,hp,e⟩
   split <;> split <;> simp only[Zka,ZcW hne,ih]
theorem Zc6 {S T:Nat→Bool} :∀n,(∀j,j < n→S j=T j)→accE ops st0 us S n=accE ops st0 us T n
 | 0,_=>rfl
 | n+1,h=>by
  unfold accE
  rw[h n (by omega),Zc6 n fun j hj=>h j (by omega)]
theorem Zsc {S:Nat→Bool} {i:Nat} (hi:S i=false):∀n,i < n→(∀j,i < j→j < n→S j=true→(∀t,dstOf ops i=some t→dstOf ops j≠some t)∧∀p∈(us i).o,∀p'∈(us j).o,p.1≠p'.1)→
  app (us i).o (dstOf ops i) (us i).v (accE ops st0 us S n)=accE ops st0 us (addS S i) n
 | 0,h,_=>by omega
 | n+1,h,hj=>by
  by_cases hin:i=n
  ·subst hin
   unfold accE
   rw[hi,if_neg (by simp),if_pos (by simp[addS]),Zc6 (T:=addS S i) i fun j hj=>by simp[addS];intro e;omega]
  ·have ih:=Zsc hi n (by omega) fun j h1 h2=>hj j h1 (by omega)
   have hne:addS S i n=S n:=by simp[addS];intro e;omega
   unfold accE
   rw[hne]
   split
   ·rename_i hS
    obtain ⟨h1,h2⟩:=hj n (by omega) (by omega) hS
    rw[←ih,ZxC h2 fun t ht=>h1 t ht]
   ·exact ih
def StepE (P:Program) (cl:Cl) (ops:Array Oper) (o:Oper) (st:St) (u:Up) (lg:List Id×List Id):Prop:=
 (wantA ops o st=some true∧lg=(wrE o st,touE o st)∧(∀p∈u.o,p.1∈wrE o st)∧∀k,opE P cl o st k=k (app u.o o.dst u.v st))∨(wantA ops o st=some false∧u=⟨sk,[]⟩∧lg=([],[]))
def ChainE (P:Program) (cl:Cl) (ops:Array Oper):List Oper→St→List Up→LogE→St→Prop
 | [],st,[],[],st'=>st'=st
 | o :: r,st,u :: us,g :: gs,st'=>StepE P cl ops o st u g∧ChainE P cl ops r (app u.o o.dst u.v st) us gs st'
 | _,_,_,_,_=>False
theorem Zvj (X:List Id) (st:St):agr X st st:=fun _ _=>rfl
theorem Zwl (hcl:DetC cl) (o:Oper) (st:St):(∀k,opE P cl o st k=none)∨∃u:Up,(∀p∈u.o,p.1∈wrE o st)∧∀k,opE P cl o st k=k (app u.o o.dst u.v st):=by
 rcases Zl1 (P:=P) hcl (Zvj _ st) (fun _ _=>rfl) with h | ⟨v,ob,h0,h1,_⟩
 ·exact .inl h
 ·exact .inr ⟨⟨v,ob⟩,h0,h1⟩
theorem Zma (hcl:DetC cl) {k:St×LogE→Option Ans} {y:Ans} :∀(l:List Oper) (st:St) (log:LogE),opsE P cl ops l st log k=some y→
  ∃us gs st',ChainE P cl ops l st us gs st'∧us.length=l.length∧gs.length=l.length∧k (st',log++gs)=some y
 | [],st,log,h=>⟨[],[],st,rfl,rfl,rfl,by simpa[opsE,M.pure] using h⟩
 | o :: r,st,log,h=>by
  have run:wantA ops o st=some true→(opE P cl o st) (fun st'=>opsE P cl ops r st' (log++[(wrE o st,touE o st)]) k)=some y→∃us gs st',ChainE P cl ops (o :: r) st us gs st'∧us.length=(o :: r).length∧gs.length=(o :: r).length∧k (st',log++gs)=some y:=fun hw h=>by
   rcases Zwl (P:=P) hcl o st with hd | ⟨u,h0,hd⟩
   ·rw[hd] at h;cases h
   ·rw[hd] at h
    obtain ⟨us,gs,st',hc,l1,l2,hk⟩:=Zma hcl r _ _ h
    exact ⟨u :: us,(wrE o st,touE o st) :: gs,st',⟨.inl ⟨hw,rfl,h0,hd⟩,hc⟩,by simp[l1],by simp[l2],by simpa using hk⟩
  have skip:wantA ops o st=some false→opsE P cl ops r (st.put o.dst sk) (log++[([],[])]) k=some y→∃us gs st',ChainE P cl ops (o :: r) st us gs st'∧us.length=(o :: r).length∧gs.length=(o :: r).length∧k (st',log++gs)=some y:=fun hw h=>by
   obtain ⟨us,gs,st',hc,l1,l2,hk⟩:=Zma hcl r _ _ h
   exact ⟨⟨sk,[]⟩ :: us,([],[]) :: gs,st',⟨.inr ⟨hw,rfl,rfl⟩,hc⟩,by simp[l1],by simp[l2],by simpa using hk⟩
  cases hg:o.guard with
  | none=>
   simp only[opsE,hg] at h
   exact run (by simp[wantA,hg]) h
  | some jw=>
   obtain ⟨j,want⟩:=jw
   cases ht:(ops[j]?).bind (·.dst) with
   | none=>simp only[opsE,hg,ht] at h;cases h
   | some t=>
    cases hb:st.tm.getD t .top with
    | d T b=>
     cases T with
     | bool=>
      have hset:({ st with tm:=st.tm.set t (.d .bool b) } :St)=st:=by
       cases st with
       | mk tmm obb=>simp only[St.mk.injEq,and_true];exact Zj0 (st:=⟨tmm,obb⟩) hb (by simp)
      have hw:wantA ops o st=some (b==want):=by simp only[wantA,hg,dstOf,ht,hb]
      simp only[opsE,hg,ht,hb] at h
      cases b <;> cases want <;> simp only[M.bind,branch,cond_true,cond_false] at h <;> rw[hset] at h
      ·exact run hw h
      ·exact skip hw h
      ·exact skip hw h
      ·exact run hw h
     | _=>simp only[opsE,hg,ht,hb] at h;cases h
    | cst u=>
     simp only[opsE,hg,ht,hb] at h
     cases hn:notBool u with
     | false=>rw[hn] at h;cases h
     | true=>
      rw[hn] at h
      exact skip (by simp only[wantA,hg,dstOf,ht,hb,hn,cond_true]) h
    | _=>simp only[opsE,hg,ht,hb] at h;cases h
theorem Zmx {us0:List Up} {gs0:LogE} :∀(l:List Oper) (i:Nat) (us:List Up) (gs:LogE) (st st':St),i≤ops.size→ops.toList.drop i=l→us0.drop i=us→gs0.drop i=gs→ChainE P cl ops l st us gs st'→
  st=accE ops st0 (fun j=>us0.getD j ⟨.top,[]⟩) (fun _=>true) i→
  st'=accE ops st0 (fun j=>us0.getD j ⟨.top,[]⟩) (fun _=>true) ops.size∧∀j o,i≤j→ops[j]? =some o→StepE P cl ops o (accE ops st0 (fun j=>us0.getD j ⟨.top,[]⟩) (fun _=>true) j) (us0.getD j ⟨.top,[]⟩) (gs0.getD j ([],[]))
 | [],i,us,gs,st,st',hi,hl,_,_,hc,hst=>by
  have hsz:ops.size=i:=by
   have:=congrArg List.length hl
   simp at this
   omega
  cases us with
  | nil=>
   cases gs with
   | nil=>
    simp only[ChainE] at hc
    subst hc
    exact ⟨by rw[hsz];exact hst,fun j o hij ho=>by
     have:=(Array.getElem?_eq_some_iff.1 ho).1
     omega⟩
   | cons g gs=>exact hc.elim
  | cons u us=>cases gs <;> exact hc.elim
 | o :: r,i,[],gs,st,st',_,hl,_,_,hc,hst=>hc.elim
 | o :: r,i,u :: us,[],st,st',_,hl,_,_,hc,hst=>hc.elim
 | o :: r,i,u :: us,g :: gs,st,st',hi,hl,hu,hgs,hc,hst=>by
  obtain ⟨h1,h2⟩:=hc
  have ho:ops[i]? =some o:=by
   have:(ops.toList.drop i)[0]? =some o:=by rw[hl];rfl
   simpa using this
  have hl':ops.toList.drop (i+1)=r:=by rw[←List.tail_drop,hl];rfl
  have hu':us0.drop (i+1)=us:=by rw[←List.tail_drop,hu];rfl
  have hg':gs0.drop (i+1)=gs:=by rw[←List.tail_drop,hgs];rfl
  have hui:us0.getD i ⟨.top,[]⟩=u:=by
   have:(us0.drop i)[0]? =some u:=by rw[hu];rfl
   rw[List.getElem?_drop] at this
   simp only[Nat.add_zero] at this
   rw[List.getD_eq_getElem?_getD,this];rfl
  have hgi:gs0.getD i ([],[])=g:=by
   have:(gs0.drop i)[0]? =some g:=by rw[hgs];rfl
   rw[List.getElem?_drop] at this
   simp only[Nat.add_zero] at this
   rw[List.getD_eq_getElem?_getD,this];rfl
  have hst':app u.o o.dst u.v st=accE ops st0 (fun j=>us0.getD j ⟨.top,[]⟩) (fun _=>true) (i+1):=by
   unfold accE
   rw[if_pos rfl,←hst]
   simp only[hui,dstOf,ho,Option.bind_some]
  have hlt:=(Array.getElem?_eq_some_iff.1 ho).1
  obtain ⟨k1,k2⟩:=Zmx r (i+1) us gs _ st' (by omega) hl' hu' hg' h2 hst'
  refine ⟨k1,fun j o' hij ho'=>?_⟩
  by_cases hji:i=j
  ·subst hji
   rw[ho] at ho'
   cases ho'
   rw[←hst,hui,hgi]
   exact h1
  ·exact k2 j o' (by omega) ho'
theorem ZjK {a b:List Id} (h:disjB a b=true):∀x∈a,x∉b:=by
 intro x hx hb
 have:=List.all_eq_true.1 h x hx
 simp only[Bool.not_eq_true',List.any_eq_false] at this
 exact this x hb (Nat.beq_refl x)
theorem ZvB {log:LogE} (h:okLog ops log=true) {i j:Nat} (hij:i < j) (hj:j < ops.size):
  Nat.testBit ((aheads ops.toList []).getD j 0) i=true∨(∀x∈(log.getD i ([],[])).1,x∉(log.getD j ([],[])).1∧x∉(log.getD j ([],[])).2)∧∀x∈(log.getD j ([],[])).1,x∉(log.getD i ([],[])).2:=by
 have h1:=List.all_eq_true.1 h j (by simp[hj])
 have h2:=List.all_eq_true.1 h1 i (by simp[hij])
 rw[Bool.or_eq_true] at h2
 refine h2.imp id fun h2=>?_
 cases hi:log[i]? with
 | none=>rw[hi] at h2;cases h2
 | some p=>
  cases hj:log[j]? with
  | none=>rw[hi,hj] at h2;cases h2
  | some q=>
   rw[hi,hj] at h2
   obtain ⟨wi,ti⟩:=p
   obtain ⟨wj,tj⟩:=q
   simp only[Bool.and_eq_true] at h2
   rw[List.getD_eq_getElem?_getD,List.getD_eq_getElem?_getD,hi,hj]
   simp only[Option.getD_some]
   refine ⟨fun x hx=>?_,fun x hx=>ZjK h2.2 x hx⟩
   have:=ZjK h2.1 x hx
   simpa using this
end
end Go.Ev
end

section
namespace Go.Ev
variable [Tabs] [Orgs]
open Go
def lb (x:Nat) (l:Obs):Prop:=∀p∈l,x < p.1
theorem ZdJ {x:Nat} {p:Nat×Obj} {r:Obs} :sortedB ((x,p) :: r)=true↔lb x r∧sortedB r=true:=by
 induction r generalizing x p with
 | nil=>exact ⟨fun _=>⟨fun q hq=>by simp at hq,rfl⟩,fun _=>rfl⟩
 | cons q r ih=>
  obtain ⟨y,q⟩:=q
  have e:sortedB ((x,p) :: (y,q) :: r)=(Nat.blt x y&&sortedB ((y,q) :: r)):=rfl
  rw[e,Bool.and_eq_true]
  constructor
  ·rintro ⟨h1,h2⟩
   have h1':x < y:=Nat.le_of_ble_eq_true h1
   refine ⟨fun z hz=>?_,h2⟩
   rcases List.mem_cons.1 hz with rfl | hz
   ·exact h1'
   ·exact Nat.lt_trans h1' ((ih.1 h2).1 z hz)
  ·rintro ⟨h1,h2⟩
   exact ⟨Nat.ble_eq_true_of_le (h1 (y,q) (by simp)),h2⟩
theorem ZwH {id:Nat} {p:Nat×Obj} :∀ {l:List (Nat×Nat×Obj)} {q:Nat×Nat×Obj},q∈ins id p l→q.1=id∨q∈l
 | [],q,h=>by simp[ins] at h;subst h;exact .inl rfl
 | (x,u) :: r,q,h=>by
  rw[Zf9] at h
  split at h
  ·rcases List.mem_cons.1 h with rfl | h
   ·exact .inl rfl
   ·exact .inr (by simp[h])
  ·split at h
   ·rcases List.mem_cons.1 h with rfl | h
    ·exact .inl rfl
    ·exact .inr h
   ·rcases List.mem_cons.1 h with rfl | h
    ·exact .inr (by simp)
    ·exact (ZwH h).imp (fun e=>e) fun h=>by simp[h]
theorem Zqx {id:Nat} {p:Nat×Obj} :∀ {l:List (Nat×Nat×Obj)},sortedB l=true→sortedB (ins id p l)=true
 | [],_=>rfl
 | (x,u) :: r,h=>by
  obtain ⟨h1,h2⟩:=ZdJ.1 h
  rw[Zf9]
  split
  ·rename_i e
   exact ZdJ.2 ⟨fun q hq=>by rw[←e];exact h1 q hq,h2⟩
  ·split
   ·rename_i h3 h4
    refine ZdJ.2 ⟨fun q hq=>?_,h⟩
    have hlt:id < x:=by omega
    rcases List.mem_cons.1 hq with rfl | hq
    ·exact hlt
    ·exact Nat.lt_trans hlt (h1 q hq)
   ·rename_i h3 h4
    refine ZdJ.2 ⟨fun q hq=>?_,Zqx h2⟩
    rcases ZwH hq with e | hq
    ·rw[e];omega
    ·exact h1 q hq
theorem Ze9:∀ {o l:Obs},sortedB l=true→sortedB (insAll o l)=true
 | [],_,h=>h
 | p :: r,l,h=>by unfold insAll;exact Ze9 (Zqx h)
theorem ZbT (x:Nat) (p:Nat×Obj) (r:Obs) (id:Nat):find id ((x,p) :: r)=if x=id then some p else find id r:=by
 simp only[find]
 by_cases h:x=id
 ·subst h;simp
 ·rw[Zg4 h,if_neg h];rfl
theorem Zof {x:Nat} :∀ {l:Obs},lb x l→find x l=none
 | [],_=>rfl
 | (y,p) :: r,h=>by
  have:=h (y,p) (by simp)
  simp only at this
  rw[ZbT,if_neg (by omega)]
  exact Zof fun q hq=>h q (by simp[hq])
theorem ZpP:∀ {l l':Obs},sortedB l=true→sortedB l'=true→(∀id,find id l=find id l')→l=l'
 | [],[],_,_,_=>rfl
 | [],(y,q) :: r',_,_,h=>by
  have:=h y
  rw[ZbT,if_pos rfl] at this
  cases this
 | (x,p) :: r,[],_,_,h=>by
  have:=h x
  rw[ZbT,if_pos rfl] at this
  cases this
 | (x,p) :: r,(y,q) :: r',h1,h2,h=>by
  obtain ⟨l1,s1⟩:=ZdJ.1 h1
  obtain ⟨l2,s2⟩:=ZdJ.1 h2
  have hxy:x=y:=by
   rcases Nat.lt_trichotomy x y with hlt | e | hlt
   ·have:=h x
    rw[ZbT,if_pos rfl,ZbT,if_neg (by omega),Zof fun z hz=>Nat.lt_trans hlt (l2 z hz)] at this
    cases this
   ·exact e
   ·have:=h y
    rw[ZbT,if_neg (by omega),ZbT,if_pos rfl,Zof fun z hz=>Nat.lt_trans hlt (l1 z hz)] at this
    cases this
  subst hxy
  have hp:p=q:=by
   have:=h x
   rw[ZbT,if_pos rfl,ZbT,if_pos rfl] at this
   exact Option.some.inj this
  subst hp
  have hr:r=r':=ZpP s1 s2 fun id=>by
   by_cases hid:x=id
   ·subst hid;rw[Zof l1,Zof l2]
   ·have:=h id
    rwa[ZbT,if_neg hid,ZbT,if_neg hid] at this
  rw[hr]
section
variable {P:Program} {Mod F0:Nat→Prop} {w0:World} {cl:Cl} {ops:Array Oper} {st0:St} {us:Nat→Up}
theorem ZhO (h:sortedB st0.ob=true) {S:Nat→Bool} :∀n,sortedB (accE ops st0 us S n).ob=true
 | 0=>h
 | n+1=>by
  unfold accE
  split
  ·rw[Zka];exact Ze9 (ZhO h n)
  ·exact ZhO h n
theorem Zqs {X:List Id} {st st2:St} {o o':Obs} {d:Option Nat} {v v':AV} (hagr:agr X st st2) (ho:∀p∈o,p.1∈X) (ho':∀p∈o',p.1∈X) (hl:st.tm.length=st2.tm.length) (hs:sortedB st2.ob=true)
  (h:app o d v st=app o' d v' st):app o d v st2=app o' d v' st2:=by
 have h1:insAll o st.ob=insAll o' st.ob:=by rw[←Zka (d:=d) (v:=v),←Zka (d:=d) (v:=v'),h]
 have h2:st.put d v=st.put d v':=by
  have:=congrArg St.tm h
  rw[ZpY,ZpY] at this
  have e:∀u,st.put d u=⟨(st.put d u).tm,st.ob⟩:=fun u=>by cases d <;> rfl
  rw[e v,e v',this]
 have h3:insAll o st2.ob=insAll o' st2.ob:=ZpP (Ze9 hs) (Ze9 hs) fun id=>by
  by_cases hid:id∈X
  ·rw[Zba (hagr id hid),Zba (o:=o') (hagr id hid),h1]
  ·rw[ZcW fun p hp e=>hid (by rw[←e];exact ho p hp),ZcW fun p hp e=>hid (by rw[←e];exact ho' p hp)]
 have h4:=ZxX h2 hl
 unfold app
 rw[h3]
 have e:∀u,(⟨st2.tm,insAll o' st2.ob⟩:St).put d u=⟨(st2.put d u).tm,insAll o' st2.ob⟩:=fun u=>by cases d <;> rfl
 rw[e v,e v',h4]
theorem ZnU {i:Nat} :∀n,i≤n→accE ops st0 us (fun j=>decide (j < i)) n=accE ops st0 us (fun _=>true) i
 | 0,h=>by
  obtain rfl:i=0:=by omega
  rfl
 | n+1,h=>by
  by_cases hi:i=n+1
  ·subst hi
   exact Zc6 _ fun j hj=>by simpa using hj
  ·rw[←ZnU n (by omega)]
   conv=>lhs;unfold accE
   rw[if_neg (by simp;omega)]
open Classical in
theorem Zxl (hcl:Spec P cl) (hdet:DetC cl) {y:Ans} {k:St→Option Ans} {Q:Exit→Act→World→Prop} (hQ:∀st a w,Rel Mod F0 w0 st a w→k st=some y→Q .normal a w)
  (hok:drawOK ops=true) (hsort:sortedB st0.ob=true) {gs:Nat→List Id×List Id}
  (hlog:∀i j,i < j→j < ops.size→Nat.testBit ((aheads ops.toList []).getD j 0) i=true∨(∀x∈(gs i).1,x∉(gs j).1∧x∉(gs j).2)∧∀x∈(gs j).1,x∉(gs i).2)
  (hsteps:∀j o,ops[j]? =some o→StepE P cl ops o (accE ops st0 us (fun _=>true) j) (us j) (gs j)) (hk:k (accE ops st0 us (fun _=>true) ops.size)=some y):
  ∀(fuel:Nat) (listed:Array Bool) (a:Act) (w:World),listed.size=ops.size→Closed ops (fun j=>listed.getD j false)→(List.range ops.size).countP (fun j=>!listed.getD j true)≤fuel→
   Rel Mod F0 w0 (accE ops st0 us (fun j=>listed.getD j false) ops.size) a w→wpAny P .any ops Q fuel listed a w:=by
 have hwr:∀j o,ops[j]? =some o→∀p∈(us j).o,p.1∈(gs j).1:=fun j o ho p hp=>by
  rcases hsteps j o ho with ⟨_,hg,hid,_⟩ | ⟨_,hu,_⟩
  ·rw[hg];exact hid p hp
  ·rw[hu] at hp;simp at hp
 have hget:∀(listed:Array Bool) j,j < listed.size→listed.getD j true=listed.getD j false:=fun listed j hj=>by simp[hj]
 have allDone:∀(listed:Array Bool) a w,listed.size=ops.size→(∀j,j < ops.size→listed.getD j false=true)→Rel Mod F0 w0 (accE ops st0 us (fun j=>listed.getD j false) ops.size) a w→Q .normal a w:=by
  intro listed a w hs hall hr
  rw[Zc6 (T:=fun _=>true) ops.size hall] at hr
  exact hQ _ a w hr hk
 have ofReady:∀(listed:Array Bool),listed.size=ops.size→Region.ready .any ops listed=[]→∀j,j < ops.size→listed.getD j false=true:=by
  intro listed hs hr j
  induction j using Nat.strongRecOn with
  | _ j ih=>
   intro hj
   cases hl:listed.getD j false with
   | true=>rfl
   | false=>
    have:j∈Region.ready .any ops listed:=by
     rw[mem_ready]
     refine ⟨by rw[hget listed j (by omega)];exact hl,ops[j],by simp[hj],fun e he hb=>?_⟩
     have:=((Z9 hok) j ops[j] (by simp[hj])).1 e he hb
     exact ih e.on this (by omega)
    rw[hr] at this
    cases this
 have step:∀(K:Array Bool→Act→World→Prop) (listed:Array Bool) (a:Act) (w:World) (i:Nat),listed.size=ops.size→Closed ops (fun j=>listed.getD j false)→
   Rel Mod F0 w0 (accE ops st0 us (fun j=>listed.getD j false) ops.size) a w→i∈Region.ready .any ops listed→
   (∀a' w',Closed ops (fun j=>(listed.setIfInBounds i true).getD j false)→Rel Mod F0 w0 (accE ops st0 us (fun j=>(listed.setIfInBounds i true).getD j false) ops.size) a' w'→K (listed.setIfInBounds i true) a' w')→
   wpOp P ops Q i (K (listed.setIfInBounds i true)) a w:=by
  intro K listed a w i hs hcld hr hi hK
  obtain ⟨hun,o,ho,hpre⟩:=mem_ready.1 hi
  have hlt:=(Array.getElem?_eq_some_iff.1 ho).1
  have hSi:listed.getD i false=false:=by rw[←hget listed i (by omega)];exact hun
  have hdi:dstOf ops i=o.dst:=by simp[dstOf,ho]
  have hbefore:∀j,Nat.testBit ((aheads ops.toList []).getD i 0) j=true→listed.getD j false=true:=by
   intro j hb
   obtain ⟨o2,ho2,e,he,hbnd,h⟩:=ZdL ops.toList [] i j (by simp) hb
   have:o2=o:=by
    simp only[List.length_nil,Nat.sub_zero,Array.getElem?_toList] at ho2
    rw[ho] at ho2
    cases ho2;rfl
   subst this
   have hon:=hpre e (by simpa using he) hbnd
   rcases h with h | ⟨_,h⟩
   ·rw[←h];exact hon
   ·exact Z6 hcld e.on j hon h
  have hslot:∀t∈o.looksAt ops,(accE ops st0 us (fun j=>listed.getD j false) ops.size).tm.getD t .top=(accE ops st0 us (fun _=>true) i).tm.getD t .top:=by
   intro t ht
   rw[←ZnU (i:=i) ops.size (by omega)]
   refine Zoj ops.size fun j hj hdj=>?_
   obtain ⟨p,hp⟩:∃p,ops[j]? =some p:=⟨ops[j],by simp[hj]⟩
   have hpd:p.dst=some t:=by simpa[dstOf,hp] using hdj
   rcases Nat.lt_trichotomy j i with hji | hji | hji
   ·rw[decide_eq_true hji]
    rcases (Z9 hok i o ho).2 j p hji hp with hb | hap
    ·exact hbefore j hb
    ·exact absurd ht ((Oper.apart_spec hap).1 t hpd)
   ·subst hji
    rw[hSi]
    simp
   ·rw[decide_eq_false (by omega)]
    cases hSj:listed.getD j false with
    | false=>rfl
    | true=>
     rcases (Z9 hok j p hp).2 i o hji ho with hb | hap
     ·have:listed.getD i false=true:=Z6 hcld j i hSj hb
      rw[hSi] at this
      cases this
     ·exact absurd ht ((Oper.apart_spec hap).2.2 t hpd)
  have hfind:∀id,id∈(gs i).1∨id∈(gs i).2→find id (accE ops st0 us (fun j=>listed.getD j false) ops.size).ob=find id (accE ops st0 us (fun _=>true) i).ob:=by
   intro id hid
   rw[←ZnU (i:=i) ops.size (by omega)]
   refine ZnE ops.size fun j hj ⟨p,hp,hpe⟩=>?_
   obtain ⟨q,hq⟩:∃q,ops[j]? =some q:=⟨ops[j],by simp[hj]⟩
   have hw:id∈(gs j).1:=by rw[←hpe];exact hwr j q hq p hp
   rcases Nat.lt_trichotomy j i with hji | hji | hji
   ·rw[decide_eq_true hji]
    rcases hlog j i hji hlt with hb | ⟨h1,_⟩
    ·exact hbefore j hb
    ·rcases hid with hid | hid
     ·exact absurd hid (h1 id hw).1
     ·exact absurd hid (h1 id hw).2
   ·subst hji
    rw[hSi]
    simp
   ·rw[decide_eq_false (by omega)]
    cases hSj:listed.getD j false with
    | false=>rfl
    | true=>
     rcases hlog i j hji hj with hb | ⟨h1,h2⟩
     ·have:listed.getD i false=true:=Z6 hcld j i hSj hb
      rw[hSi] at this
      cases this
     ·rcases hid with hid | hid
      ·exact absurd hw (h1 id hid).1
      ·exact absurd hid (h2 id hw)
  have hev:∀x∈o.op.operands,(accE ops st0 us (fun j=>listed.getD j false) ops.size).ev x=(accE ops st0 us (fun _=>true) i).ev x:=by
   intro x hx
   cases x with
   | tmp t=>exact hslot t (List.mem_append_left _ (List.mem_filterMap.2 ⟨.tmp t,by simpa using hx,rfl⟩))
   | _=>rfl
  have hwant:wantA ops o (accE ops st0 us (fun j=>listed.getD j false) ops.size)=wantA ops o (accE ops st0 us (fun _=>true) i):=by
   unfold wantA
   cases hg:o.guard with
   | none=>rfl
   | some jw=>
    obtain ⟨g,want⟩:=jw
    simp only
    cases ht:dstOf ops g with
    | none=>rfl
    | some t=>
     simp only
     rw[hslot t (by
      unfold Oper.looksAt
      rw[hg]
      refine List.mem_append_right _ ?_
      simp only
      rw[show (ops[g]?).bind (·.dst)=some t from ht]
      simp)]
  have hadd:app (us i).o o.dst (us i).v (accE ops st0 us (fun j=>listed.getD j false) ops.size)=accE ops st0 us (fun j=>(listed.setIfInBounds i true).getD j false) ops.size:=by
   rw[←hdi,Zsc hSi ops.size hlt fun j hij hj hSj=>?_]
   ·refine Zc6 _ fun j hj=>?_
    simp only[addS]
    by_cases hji:j=i
    ·subst hji;simp[hs,hlt]
    ·rw[getD_set_ne false (Ne.symm hji)];simp[hji]
   ·obtain ⟨p,hp⟩:∃p,ops[j]? =some p:=⟨ops[j],by simp[hj]⟩
    have hnb:¬Nat.testBit ((aheads ops.toList []).getD j 0) i=true:=fun hb=>by
     have:listed.getD i false=true:=Z6 hcld j i hSj hb
     rw[hSi] at this
     cases this
    refine ⟨fun t ht hdj=>?_,fun q hq q' hq' e=>?_⟩
    ·rcases (Z9 hok j p hp).2 i o hij ho with hb | hap
     ·exact hnb hb
     ·exact (Oper.apart_spec hap).2.1 t (by rw[←hdi];exact ht) (by simpa[dstOf,hp] using hdj)
    ·rcases hlog i j hij hj with hb | ⟨h1,_⟩
     ·exact hnb hb
     ·exact (h1 _ (hwr i o ho q hq)).1 (by rw[e];exact hwr j p hp q' hq')
  have hcld':Closed ops (fun j=>(listed.setIfInBounds i true).getD j false):=by
   intro j p hp hj e he hb
   by_cases hji:j=i
   ·subst hji
    rw[ho] at hp
    cases hp
    exact getD_set_true (hpre e he hb)
   ·simp only at hj
    rw[getD_set_ne false (Ne.symm hji)] at hj
    exact getD_set_true (hcld j p hp hj e he hb)
  unfold wpOp
  simp only[ho]
  rcases hsteps i o ho with ⟨hw,hg,hids,hop⟩ | ⟨hw,hu,hg⟩
  ·rw[if_pos (Zg7 hr (by rw[hwant];exact hw))]
   refine .inl ?_
   have hagr:agr (touE o (accE ops st0 us (fun _=>true) i)++wrE o (accE ops st0 us (fun _=>true) i)) (accE ops st0 us (fun _=>true) i) (accE ops st0 us (fun j=>listed.getD j false) ops.size):=fun id hid=>by
    refine hfind id ?_
    rw[hg]
    rcases List.mem_append.1 hid with h | h
    ·exact .inr h
    ·exact .inl h
   rcases Zl1 (P:=P) hdet hagr hev with hn | ⟨v,o',h0,h1,h2⟩
   ·have:=hop fun _=>some y
    rw[hn] at this
    cases this
   ·have e1:app o' o.dst v (accE ops st0 us (fun _=>true) i)=app (us i).o o.dst (us i).v (accE ops st0 us (fun _=>true) i):=by
     have:=h1 fun s=>if s=app (us i).o o.dst (us i).v (accE ops st0 us (fun _=>true) i) then some y else none
     rw[hop,if_pos rfl] at this
     exact Classical.byContradiction fun hne=>by rw[if_neg hne] at this;cases this
    have e2:=Zqs hagr (fun p hp=>List.mem_append_right _ (h0 p hp)) (fun p hp=>List.mem_append_right _ (hids p hp)) (by rw[ZhR,ZhR]) (ZhO hsort _) e1
    have h3:=h2 fun s=>if s=app (us i).o o.dst (us i).v (accE ops st0 us (fun j=>listed.getD j false) ops.size) then some y else none
    rw[e2,if_pos rfl] at h3
    refine Oper.wp_mono (fun a' w' h'=>?_) (Zv0 hcl (Zwz hdet h3) hr Q)
    obtain ⟨st',hr',hst'⟩:=h'
    have:st'=app (us i).o o.dst (us i).v (accE ops st0 us (fun j=>listed.getD j false) ops.size):=Classical.byContradiction fun hne=>by rw[if_neg hne] at hst';cases hst'
    subst this
    rw[hadd] at hr'
    exact hK a' w' hcld' hr'
  ·have hwn:=Zg7 hr (by rw[hwant];exact hw)
   rw[if_neg (by rw[hwn];decide)]
   have hr':=Ziz hr o.dst
   rw[hu] at hadd
   rw[←ZwB,hadd] at hr'
   exact hK _ w hcld' hr'
 intro fuel
 induction fuel with
 | zero=>
  intro listed a w hs hcld hcnt hr
  have hall:∀j,j < ops.size→listed.getD j false=true:=fun j hj=>by
   have:=List.countP_eq_zero.1 (Nat.le_zero.1 hcnt) j (by simp[hj])
   rw[hget listed j (by omega)] at this
   simpa using this
  refine ⟨List.eq_nil_iff_forall_not_mem.2 fun j hj=>?_,allDone listed a w hs hall hr⟩
  obtain ⟨h1,o,ho,_⟩:=mem_ready.1 hj
  have hlt:=(Array.getElem?_eq_some_iff.1 ho).1
  rw[hget listed j (by omega),hall j hlt] at h1
  cases h1
 | succ fuel ih=>
  intro listed a w hs hcld hcnt hr
  refine ⟨fun h=>allDone listed a w hs (ofReady listed hs h) hr,fun i hi=>step (fun listed=>wpAny P .any ops Q fuel listed) listed a w i hs hcld hr hi fun a' w' hc' hr'=>?_⟩
  refine ih _ a' w' (by simpa using hs) hc' ?_ hr'
  obtain ⟨hun,o,ho,_⟩:=mem_ready.1 hi
  have hlt:=(Array.getElem?_eq_some_iff.1 ho).1
  have:=ZjD (p:=fun j=>!listed.getD j true) (p':=fun j=>!(listed.setIfInBounds i true).getD j true) (i:=i) (fun j hj=>by
   by_cases hji:i=j
   ·subst hji;simp[hs,hlt] at hj
   ·rw[getD_set_ne true hji] at hj;exact hj) (by simpa using hun) (by simp[hs,hlt]) (List.range ops.size) (by simp[hlt])
  omega
theorem Zwu (hcl:Spec P cl) (hdet:DetC cl) {id:Nat} {y:Ans} {k:St→Option Ans} {Q:Exit→Act→World→Prop} (hQ:∀st a w,Rel Mod F0 w0 st a w→k st=some y→Q .normal a w)
  (hm:P.follows .mixedOrders=true) (hok:drawOK ops=true) {st:St} {a:Act} {w:World} (h:runE P cl ops st k=some y) (hr:Rel Mod F0 w0 st a w):(Code.region id ops true).wp P Q a w:=by
 unfold runE at h
 obtain ⟨us,gs,st',hc,l1,l2,hk⟩:=Zma hdet ops.toList st [] h
 rw[List.nil_append] at hk
 simp only at hk
 cases hb:(sortedB st.ob&&okLog ops gs) with
 | false=>rw[hb] at hk;cases hk
 | true=>
  rw[hb] at hk
  rw[Bool.and_eq_true] at hb
  have hk':k st'=some y:=hk
  obtain ⟨h1,h2⟩:=Zmx (st0:=st) (us0:=us) (gs0:=gs) ops.toList 0 us gs st st' (Nat.zero_le _) rfl rfl rfl hc rfl
  subst h1
  refine wp_region_any hm (Zxl (gs:=fun j=>gs.getD j ([],[])) hcl hdet hQ hok hb.1 (fun i j hij hj=>ZvB hb.2 hij hj) (fun j o ho=>h2 j o (Nat.zero_le _) ho) hk' ops.size (Array.replicate ops.size false) a _ (by simp) ?_ (Nat.le_trans List.countP_le_length (by simp)) ?_)
  ·intro j o ho hj
   by_cases hlt:j < ops.size <;> simp[hlt] at hj
  ·have:accE ops st (fun j=>us.getD j ⟨.top,[]⟩) (fun j=>(Array.replicate ops.size false).getD j false) ops.size=st:=by
    have:∀n,accE ops st (fun j=>us.getD j ⟨.top,[]⟩) (fun j=>(Array.replicate ops.size false).getD j false) n=st:=by
     intro n
     induction n with
     | zero=>rfl
     | succ n ih=>
      unfold accE
      rw[if_neg,ih]
      by_cases hlt:n < ops.size <;> simp[hlt]
    exact this _
   rw[this]
   obtain ⟨hd,F,ρ,hR,hE⟩:=hr
   have hE':Evo (fun _=>False) F w F { w with drawn:=w.drawn+1 } :=⟨rfl,rfl,rfl,Nat.le_refl _,fun _ h=>h,fun _ h=>.inl h,fun _ _ _=>rfl⟩
   obtain ⟨hR',hE2⟩:=hR.world hE' (fun _ h=>h.elim) (fun _ _ h=>h) hR.low
   exact ⟨hd,F,ρ,hR',hE.trans hE2⟩
end
end Go.Ev
end

section
namespace Go.Ev
variable [Tabs] [Orgs]
open Go
section
variable {P:Program} {Mod:Nat→Prop} {o:Oper} {st:St} {F F':Nat→Prop} {ρ:Rho} {w w':World}
theorem ERep.gcongr:∀ {d:DTy} {g g':Value} {k k':Nat} {x:El d.ty} {vs:List Value} {B:List Nat},(∀m,m < d.ty.cells→gk g' (k'+m)=gk g (k+m))→ERep F w d g k x vs B→ERep F w d g' k' x vs B
 |.leaf t,_,_,_,_,_,_,_,_,h=>h
 |.ro d,g,g',k,k',x,vs,B,hg,h=>by
  have e:=hg 0 (by simp[Ty.cells])
  rw[Nat.add_zero,Nat.add_zero] at e
  obtain ⟨h1,E,h2⟩:=h
  exact ⟨by rw[e];exact h1,E,by rw[e];exact h2⟩
 |.pr a b,g,g',k,k',x,vs,B,hg,h=>by
  obtain ⟨v1,v2,B1,B2,e1,e2,h1,h2⟩:=h
  simp only[Ty.cells] at hg
  exact ⟨v1,v2,B1,B2,e1,e2,h1.gcongr fun m hm=>hg m (by omega),h2.gcongr fun m hm=>by rw[Nat.add_assoc,hg (a.ty.cells+m) (by omega),Nat.add_assoc]⟩
def turnE (g:Value) (k:Nat) (g1:Value) (n:Nat):Value:=mkT (gv g) ((List.range n).map fun m=>if m=k then g1 else gk g m)
theorem ZhN {g g1:Value} {k n m:Nat} (hm:m < n):gk (turnE g k g1 n) m=if m=k then g1 else gk g m:=by
 unfold turnE
 rw[Zqw,List.getD_eq_getElem?_getD,List.getElem?_map,List.getElem?_range hm]
 rfl
theorem ZgN {g g1:Value} {k n:Nat} :gv (turnE g k g1 n)=gv g:=Zvw _ _
theorem ZkG:∀ {d:DTy} {x:El d.ty} {k:Nat} {q:DRw},roAt d x k=some q→k < d.ty.cells
 |.leaf t,_,_,_,h=>by cases h
 |.ro d,_,k,_,h=>by
  simp only[roAt] at h
  cases hb:Nat.beq k 0 with
  | false=>rw[hb] at h;cases h
  | true=>have:=Nat.eq_of_beq_eq_true hb;simp[Ty.cells,this]
 |.pr a b,x,k,q,h=>by
  simp only[roAt] at h
  simp only[Ty.cells]
  cases hb:Nat.blt k a.ty.cells with
  | true=>rw[Nat.blt_eq] at hb;omega
  | false=>
   rw[hb] at h
   have:=ZkG h
   omega
theorem ZqR {f:(d:DTy)→List (El d.ty)→Option (List (El d.ty))} :∀ {d:DTy} {x x':El d.ty} {k:Nat} {q:DRw} {l':List (El q.1.ty)},roSet d x k f=some x'→roAt d x k=some q→f q.1 q.2=some l'→
  roAt d x' k=some ⟨q.1,l'⟩∧∀m,m≠k→roAt d x' m=roAt d x m
 |.leaf t,_,_,_,_,_,h,_,_=>by cases h
 |.ro d,x,x',k,q,l',h,hq,hf=>by
  simp only[roAt] at hq ⊢
  simp only[roSet] at h
  cases hb:Nat.beq k 0 with
  | false=>rw[hb] at hq;cases hq
  | true=>
   rw[hb] at hq h
   cases hq
   simp only[cond_true] at h
   rw[hf] at h
   cases h
   refine ⟨rfl,fun m hm=>?_⟩
   obtain rfl:=Nat.eq_of_beq_eq_true hb
   have:Nat.beq m 0=false:=Zg4 hm
   rw[this]
   rfl
 |.pr a b,x,x',k,q,l',h,hq,hf=>by
  simp only[roAt] at hq ⊢
  simp only[roSet] at h
  cases hb:Nat.blt k a.ty.cells with
  | true=>
   rw[hb] at hq h
   obtain ⟨y,h1,rfl⟩:=Option.map_eq_some_iff.1 h
   obtain ⟨e1,e2⟩:=ZqR h1 hq hf
   refine ⟨e1,fun m hm=>?_⟩
   cases hc:Nat.blt m a.ty.cells with
   | true=>exact e2 m hm
   | false=>rfl
  | false=>
   rw[hb] at hq h
   obtain ⟨y,h1,rfl⟩:=Option.map_eq_some_iff.1 h
   obtain ⟨e1,e2⟩:=ZqR h1 hq hf
   refine ⟨e1,fun m hm=>?_⟩
   cases hc:Nat.blt m a.ty.cells with
   | true=>rfl
   | false=>
    have h5:¬m < a.ty.cells:=fun h=>by rw[←Nat.blt_eq] at h;rw[h] at hc;cases hc
    have h6:¬k < a.ty.cells:=fun h=>by rw[←Nat.blt_eq] at h;rw[h] at hb;cases hb
    exact e2 _ (by omega)
def Deep (d:DTy) (n:Nat) (g:Value) (l:List (El d.ty)) (g':Value) (l':List (El d.ty)):Prop:=
 ∀q:Path,q.length≤n→okPath d l q→okPath d l' q∧gv (gAt g' q)=gv (gAt g q)∧∀r,rowAt d l q=some r→∃l2,rowAt d l' q=some ⟨r.1,l2⟩∧l2.length=r.2.length
theorem Deep.here {d:DTy} {g g':Value} {l l':List (El d.ty)} (hg:gv g'=gv g) (hl:l'.length=l.length):Deep d 0 g l g' l':=fun q hq _=>by
 have:q=[]:=List.eq_nil_of_length_eq_zero (by omega)
 subst this
 exact ⟨trivial,hg,fun r hr=>by cases hr;exact ⟨l',rfl,hl⟩⟩
def Turns (F F':Nat→Prop) (w w':World) (D M:Nat→Prop) (q:DRw) (g:Value) (n:Nat) (f:(d:DTy)→List (El d.ty)→Option (List (El d.ty))):Prop:=
 ∀E B,DRow F w E q.1 g q.2 B→B.Nodup→(∀b∈B,¬M b)→(∀b∈B,¬D b→w'.heap[b]? =w.heap[b]?)→∃l' g' B',f q.1 q.2=some l'∧DRow F' w' E q.1 g' l' B'∧gv g'=gv g∧B'.Nodup∧(∀b∈B',b∈B∨M b)∧(∀b,D b→b∈B)∧Deep q.1 n g q.2 g' l'
theorem roTurn (hk:Keeps F w F' w') {D M:Nat→Prop} {f:(d:DTy)→List (El d.ty)→Option (List (El d.ty))} {n:Nat} :∀ {d:DTy} {g:Value} {k0:Nat} {x:El d.ty} {vs:List Value} {B:List Nat},ERep F w d g k0 x vs B→B.Nodup→(∀b∈B,¬M b)→(∀b∈B,¬D b→w'.heap[b]? =w.heap[b]?)→
  ∀ {k:Nat} {q:DRw},roAt d x k=some q→Turns F F' w w' D M q (gk g (k0+k)) n f→
  ∃x' g1 l' B',roSet d x k f=some x'∧f q.1 q.2=some l'∧gv g1=gv (gk g (k0+k))∧Deep q.1 n (gk g (k0+k)) q.2 g1 l'∧(∀g',(∀m,m < d.ty.cells→gk g' (k0+m)=if m=k then g1 else gk g (k0+m))→ERep F' w' d g' k0 x' vs B')∧B'.Nodup∧(∀b∈B',b∈B∨M b)∧(∀b,D b→b∈B)
 |.leaf _,_,_,_,_,_,_,_,_,_,_,_,h,_=>by cases h
 |.ro d,g,k0,l,vs,B,h,hn,hM,hs,k,q,hq,hf=>by
  simp only[roAt] at hq
  cases hb:Nat.beq k 0 with
  | false=>rw[hb] at hq;cases hq
  | true=>
   rw[hb] at hq
   cases hq
   obtain rfl:=Nat.eq_of_beq_eq_true hb
   obtain ⟨rfl,E,hr⟩:=h
   obtain ⟨l',g1,B',h1,h2,h3,h4,h5,h6,h7⟩:=hf E B hr hn hM hs
   refine ⟨l',g1,l',B',h1,h1,h3,h7,fun g' hg'=>?_,h4,h5,h6⟩
   have e:=hg' 0 (by simp[Ty.cells])
   rw[Nat.add_zero,if_pos rfl] at e
   exact ⟨by rw[e,h3,Nat.add_zero],E,by rw[e];exact h2⟩
 |.pr a b,g,k0,x,vs,B,h,hn,hM,hs,k,q,hq,hf=>by
  obtain ⟨v1,v2,B1,B2,rfl,rfl,h1,h2⟩:=h
  obtain ⟨n1,n2,n3⟩:=List.nodup_append.1 hn
  simp only[roAt] at hq
  simp only[roSet]
  cases hb:Nat.blt k a.ty.cells with
  | true=>
   rw[hb] at hq
   have hlt:=ZkG hq
   obtain ⟨x',g1,l',B',e1,e2,e3,e4,e5,e6,e7,e8⟩:=roTurn hk h1 n1 (fun b hb=>hM b (by simp[hb])) (fun b hb=>hs b (by simp[hb])) hq hf
   refine ⟨(x',x.2),g1,l',B'++B2,by simp only[cond_true,e1,Option.map_some],e2,e3,e4,fun g' hg'=>?_,?_,?_,fun b hb=>by simp[e8 b hb]⟩
   ·simp only[Ty.cells] at hg'
    refine ⟨v1,v2,B',B2,rfl,rfl,e5 g' fun m hm=>hg' m (by omega),?_⟩
    have h2':ERep F' w' b g (k0+a.ty.cells) x.2 v2 B2:=h2.keep hk fun b hb=>hs b (by simp[hb]) fun hD=>n3 b (e8 b hD) b hb rfl
    exact h2'.gcongr fun m hm=>by
     rw[Nat.add_assoc,hg' (a.ty.cells+m) (by omega),if_neg (by omega)]
   ·exact List.nodup_append.2 ⟨e6,n2,fun p hp q hq e=>by
     subst e
     rcases e7 p hp with h | h
     ·exact n3 p h p hq rfl
     ·exact hM p (by simp[hq]) h⟩
   ·intro b hb
    rcases List.mem_append.1 hb with hb | hb
    ·exact (e7 b hb).imp (fun h=>by simp[h]) id
    ·exact .inl (by simp[hb])
  | false=>
   rw[hb] at hq
   have hge:¬k < a.ty.cells:=fun h=>by rw[←Nat.blt_eq] at h;rw[h] at hb;cases hb
   obtain ⟨x',g1,l',B',e1,e2,e3,e4,e5,e6,e7,e8⟩:=roTurn hk h2 n2 (fun b hb=>hM b (by simp[hb])) (fun b hb=>hs b (by simp[hb])) hq (by rw[show k0+a.ty.cells+(k - a.ty.cells)=k0+k by omega];exact hf)
   rw[show k0+a.ty.cells+(k - a.ty.cells)=k0+k by omega] at e3 e4
   refine ⟨(x.1,x'),g1,l',B1++B',by simp only[cond_false,e1,Option.map_some],e2,e3,e4,fun g' hg'=>?_,?_,?_,fun b hb=>by simp[e8 b hb]⟩
   ·simp only[Ty.cells] at hg'
    refine ⟨v1,v2,B1,B',rfl,rfl,?_,e5 g' fun m hm=>?_⟩
    ·have h1':ERep F' w' a g k0 x.1 v1 B1:=h1.keep hk fun b hb=>hs b (by simp[hb]) fun hD=>n3 b hb b (e8 b hD) rfl
     exact h1'.gcongr fun m hm=>by rw[hg' m (by omega),if_neg (by omega)]
    ·rw[Nat.add_assoc,hg' (a.ty.cells+m) (by omega)]
     by_cases h:m=k - a.ty.cells
     ·rw[if_pos (by omega),if_pos h]
     ·rw[if_neg (by omega),if_neg h]
   ·exact List.nodup_append.2 ⟨n1,e6,fun p hp q hq e=>by
     subst e
     rcases e7 p hq with h | h
     ·exact n3 p hp p h rfl
     ·exact hM p (by simp[hp]) h⟩
   ·intro b hb
    rcases List.mem_append.1 hb with hb | hb
    ·exact .inl (by simp[hb])
    ·exact (e7 b hb).imp (fun h=>by simp[h]) id
theorem Zk4 {Bs:List (List Nat)} {i:Nat} {Bi B':List Nat} {M:Nat→Prop} (hn:Bs.flatten.Nodup) (hi:Bs[i]? =some Bi) (hn':B'.Nodup) (hM:∀b∈Bs.flatten,¬M b) (hs:∀b∈B',b∈Bi∨M b):
  (Bs.set i B').flatten.Nodup∧∀b∈(Bs.set i B').flatten,b∈Bs.flatten∨M b:=by
 induction Bs generalizing i with
 | nil=>simp at hi
 | cons X r ih=>
  rw[List.flatten_cons,List.nodup_append] at hn
  obtain ⟨n1,n2,n3⟩:=hn
  cases i with
  | zero=>
   simp at hi
   subst hi
   rw[List.set_cons_zero,List.flatten_cons]
   refine ⟨List.nodup_append.2 ⟨hn',n2,fun p hp q hq e=>?_⟩,fun b hb=>?_⟩
   ·subst e
    rcases hs p hp with h | h
    ·exact n3 p h p hq rfl
    ·exact hM p (by rw[List.flatten_cons];simp[hq]) h
   ·rw[List.flatten_cons]
    rcases List.mem_append.1 hb with hb | hb
    ·exact (hs b hb).imp (fun h=>by simp[h]) id
    ·exact .inl (by simp[hb])
  | succ i=>
   simp at hi
   obtain ⟨e1,e2⟩:=ih n2 hi (fun b hb=>hM b (by rw[List.flatten_cons];simp[hb]))
   rw[List.set_cons_succ,List.flatten_cons]
   refine ⟨List.nodup_append.2 ⟨n1,e1,fun p hp q hq e=>?_⟩,fun b hb=>?_⟩
   ·subst e
    rcases e2 p hq with h | h
    ·exact n3 p hp p h rfl
    ·exact hM p (by rw[List.flatten_cons];simp[hp]) h
   ·rw[List.flatten_cons]
    rcases List.mem_append.1 hb with hb | hb
    ·exact .inl (by simp[hb])
    ·exact (e2 b hb).imp (fun h=>by simp[h]) id
theorem rowTurn (hk:Keeps F w F' w') {D M:Nat→Prop} {f:(d:DTy)→List (El d.ty)→Option (List (El d.ty))} :∀ {p:Path} {d:DTy} {g:Value} {l:List (El d.ty)} {q:DRw},
  okPath d l p→rowAt d l p=some q→Turns F F' w w' D M q (gAt g p) 0 f→Turns F F' w w' D M ⟨d,l⟩ g p.length (fun d l=>rowSet d l p f)
 | [],d,g,l,q,_,hq,hf=>by
  cases hq
  exact hf
 | (i,k) :: r,d,g,l,q,hp,hq,hf=>by
  intro E B h hn hM hs
  obtain ⟨hi,q0,hq0,hp'⟩:=hp
  simp only[rowAt,hq0] at hq
  obtain ⟨cells,Bs,hown,hbl,hB,hel⟩:=h
  obtain ⟨cs,Bi,k1,k2,k3⟩:=hel i _ (ZbP (z:=dflt d.ty) hi)
  subst hB
  obtain ⟨n1,n2,n3⟩:=List.nodup_append.1 hn
  have hsub:∀b∈Bi,b∈Bs.flatten:=fun b hb=>List.mem_flatten.2 ⟨Bi,List.mem_of_getElem? k1,hb⟩
  have hni:Bi.Nodup:=(List.pairwise_flatten.1 n2).1 Bi (List.mem_of_getElem? k1)
  have ih:=rowTurn hk (g:=gk (gk g i) k) hp' hq hf
  obtain ⟨x',g1,l',B',e1,e2,e3,e4,e5,e6,e7,e8⟩:=roTurn hk (f:=fun d' l'=>rowSet d' l' r f) (n:=r.length) k2 hni (fun b hb=>hM b (by simp[hsub b hb])) (fun b hb=>hs b (by simp[hsub b hb])) hq0 (by rw[Nat.zero_add];exact ih)
  rw[Nat.zero_add] at e3 e4
  obtain ⟨f1,f2⟩:=Zk4 n2 k1 e6 (fun b hb=>hM b (by simp only[List.mem_append];exact .inr hb)) e7
  have hDs:∀b,D b→b∈Bs.flatten:=fun b hD=>hsub b (e8 b hD)
  have hkd:=ZkG hq0
  refine ⟨l.set i x',turnE g i (turnE (gk g i) k g1 d.ty.cells) l.length,hb1 (gv g)++(Bs.set i B').flatten,by simp only[rowSet,e1,Option.map_some],⟨cells,Bs.set i B',?_,by simpa using hbl,by rw[ZgN],fun i' y hy=>?_⟩,ZgN,?_,?_,fun b hD=>by simp only[List.mem_append];exact .inr (hDs b hD),?_⟩
  ·rw[ZgN,List.length_set]
   exact Zfx hown fun b hb=>hs b (by simp[hb]) fun hD=>n3 b hb b (hDs b hD) rfl
  ·have hi':i' < l.length:=by have:=(List.getElem?_eq_some_iff.1 hy).1;simpa using this
   rw[ZhN hi']
   by_cases hii:i'=i
   ·subst hii
    rw[List.getElem?_set_self hi] at hy
    cases hy
    refine ⟨cs,B',List.getElem?_set_self (by rw[hbl];exact hi),?_,k3⟩
    rw[if_pos rfl]
    exact e5 _ fun m hm=>by rw[Nat.zero_add,ZhN hm]
   ·rw[List.getElem?_set_ne (Ne.symm hii)] at hy
    obtain ⟨cs',Bi',j1,j2,j3⟩:=hel i' y hy
    refine ⟨cs',Bi',by rw[List.getElem?_set_ne (Ne.symm hii)];exact j1,?_,j3⟩
    rw[if_neg hii]
    refine j2.keep hk fun b hb=>hs b (by simp only[List.mem_append,List.mem_flatten];exact .inr ⟨Bi',List.mem_of_getElem? j1,hb⟩) fun hD=>?_
    exact hii (Znv n2 j1 k1 hb (e8 b hD))
  ·exact List.nodup_append.2 ⟨n1,f1,fun a ha b hb e=>by
    subst e
    rcases f2 a hb with h | h
    ·exact n3 a ha a h rfl
    ·exact hM a (by simp[ha]) h⟩
  ·intro b hb
   rcases List.mem_append.1 hb with hb | hb
   ·exact .inl (by simp[hb])
   ·exact (f2 b hb).imp (fun h=>by simp only[List.mem_append];exact .inr h) id
  ·intro q2 hq2 hok
   match q2,hq2,hok with
   | [],_,_=>exact ⟨trivial,ZgN,fun r hr=>by cases hr;exact ⟨_,rfl,by simp⟩⟩
   | (i2,k2') :: q',hq2,hok=>
    obtain ⟨hi2,q3,hq3,hok'⟩:=hok
    obtain ⟨s1,s2⟩:=ZqR e1 hq0 e2
    by_cases hii:i2=i
    ·subst hii
     have hx:(l.set i2 x').getD i2 (dflt d.ty)=x':=by rw[List.getD_eq_getElem?_getD,List.getElem?_set_self hi];rfl
     by_cases hkk:k2'=k
     ·subst hkk
      rw[hq0] at hq3
      cases hq3
      obtain ⟨t1,t2,t3⟩:=e4 q' (by simpa using hq2) hok'
      refine ⟨⟨by simpa using hi2,_,by rw[hx];exact s1,t1⟩,?_,fun r hr=>?_⟩
      ·simp only[gAt]
       rw[ZhN hi2,if_pos rfl,ZhN hkd,if_pos rfl]
       exact t2
      ·simp only[rowAt,hq0] at hr
       obtain ⟨l2,u1,u2⟩:=t3 r hr
       exact ⟨l2,by simp only[rowAt,hx,s1];exact u1,u2⟩
     ·have s3:=s2 k2' hkk
      rw[hq3] at s3
      have hk3:=ZkG hq3
      refine ⟨⟨by simpa using hi2,_,by rw[hx];exact s3,hok'⟩,?_,fun r hr=>?_⟩
      ·simp only[gAt]
       rw[ZhN hi2,if_pos rfl,ZhN hk3,if_neg hkk]
      ·simp only[rowAt,hq3] at hr
       exact ⟨r.2,by simp only[rowAt,hx,s3];exact hr,rfl⟩
    ·have hx:(l.set i x').getD i2 (dflt d.ty)=l.getD i2 (dflt d.ty):=by rw[List.getD_eq_getElem?_getD,List.getElem?_set_ne (Ne.symm hii),List.getD_eq_getElem?_getD]
     refine ⟨⟨by simpa using hi2,q3,by rw[hx];exact hq3,hok'⟩,?_,fun r hr=>?_⟩
     ·simp only[gAt]
      rw[ZhN hi2,if_neg hii]
     ·simp only[rowAt,hq3] at hr
      exact ⟨r.2,by simp only[rowAt,hx,hq3];exact hr,rfl⟩
end
end Go.Ev
end

/- Part of the proof of: A copy of a program is the same program, and what is changed in it changes nothing in the first; of two programs the two comparisons answer alike, and a program is the same as itself: for every input the law answers true. -/
import Derived.Test.YtfjbbffkibcijaaDoorEng0
set_option maxRecDepth 100000
set_option linter.unusedSectionVars false
set_option linter.unusedVariables false
set_option linter.unusedSimpArgs false
section
namespace Go.Ev
variable [Tabs] [Orgs]
open Go
def ρ0:Rho:=fun _=>undef
def st0:St:=⟨[],[]⟩
inductive TReps (F:Nat→Prop) (w:World):List AV→List Value→List Nat→Prop
 | nil:TReps F w [] [] []
 | top {v r vs L} :TReps F w r vs L→TReps F w (.top :: r) (v :: vs) L
 | flat {x v r vs L} :flatB x=true→ARep F ρ0 w st0 x v→TReps F w r vs L→TReps F w (x :: r) (v :: vs) L
 | ag {cs us L1 r vs L} :TReps F w cs us L1→TReps F w r vs L→TReps F w (.ag cs :: r) (.agg us.toArray :: vs) (L1++L)
 | tu {cs us L1 r vs L} :TReps F w cs us L1→TReps F w r vs L→TReps F w (.tu cs :: r) (.tuple us.toArray :: vs) (L1++L)
 | bx {T b cs us L1 r vs L} :w.heap[b]? =some (.cells us.toArray T (0,0))→TReps F w cs us L1→TReps F w r vs L→TReps F w (.bx T cs :: r) (.pointer (some ⟨b,0,none⟩) :: vs) (b :: (L1++L))
 | rw {E t l v r vs L} :RowRep F w E t l v→TReps F w r vs L→TReps F w (.rw E t l :: r) (v :: vs) ((hb v)++L)
 | dw {E d l v u r vs L} :v=gv (gv u)→(hb u).Nodup→DRow F w E d (gv u) l (hb u)→TReps F w r vs L→TReps F w (.dw E d l :: r) (v :: vs) (hb u++L)
 | mv {kt vt l v r vs L} :MapRep w kt vt l v→TReps F w r vs L→TReps F w (.mv kt vt l :: r) (v :: vs) ((hb v)++L)
section
variable {P:Program} {Mod:Nat→Prop} {st:St} {F:Nat→Prop} {ρ:Rho} {w:World} {tm:Array Value}
theorem Zj1 {x:AV} {v:Value} {st':St} {ρ':Rho} (hx:leafB x=true) (h:ARep F ρ w st x v):ARep F ρ' w st' x v:=by
 cases x <;> simp only[leafB] at hx <;> first | (cases hx;done) | skip
 ·cases h with | d _ _ _ h=>exact .d _ _ _ h
 ·cases h;exact .nil
 ·cases h;exact .cst _
theorem ZrQ {x:AV} {v:Value} {st':St} {ρ':Rho} (hx:flatB x=true) (h:ARep F ρ w st x v):ARep F ρ' w st' x v:=by
 cases x with
 | d t v=>exact Zj1 rfl h
 | nil=>exact Zj1 rfl h
 | cst v=>exact Zj1 rfl h
 | ifc t y=>
  cases h with
  | ifc _ _ u hu=>
   refine .ifc _ _ _ ?_
   cases y with
   | ag cs=>
    simp only[flatB] at hx
    cases hu with
    | ag _ vs hl hall=>exact .ag _ _ hl fun i c u h1 h2=>Zj1 (List.all_eq_true.1 hx c (List.mem_of_getElem? h1)) (hall i c u h1 h2)
   | _=>exact Zj1 hx hu
 | _=>cases hx
theorem TReps.length {xs:List AV} {vs:List Value} {L:List Nat} (h:TReps F w xs vs L):xs.length=vs.length:=by
 induction h <;> simp_all
theorem TReps.append {xs ys:List AV} {vs us:List Value} {L M:List Nat} (h:TReps F w xs vs L) (h':TReps F w ys us M):TReps F w (xs++ys) (vs++us) (L++M):=by
 induction h with
 | nil=>exact h'
 | top _ ih=>exact .top ih
 | flat hx ha _ ih=>exact .flat hx ha ih
 | ag h1 _ _ ih=>rw[List.append_assoc];exact .ag h1 ih
 | tu h1 _ _ ih=>rw[List.append_assoc];exact .tu h1 ih
 | bx hh h1 _ _ ih=>have:=TReps.bx hh h1 ih;simpa[List.append_assoc] using this
 | rw h1 _ ih=>rw[List.append_assoc];exact .rw h1 ih
 | mv h1 _ ih=>rw[List.append_assoc];exact .mv h1 ih
 | dw h1 h2 h3 _ ih=>rw[List.append_assoc];exact .dw h1 h2 h3 ih
theorem TReps.split {x:AV} {xs:List AV} {vs:List Value} {L:List Nat} (h:TReps F w (x :: xs) vs L):∃v us L1 L2,vs=v :: us∧L=L1++L2∧TReps F w [x] [v] L1∧TReps F w xs us L2:=by
 cases h with
 | top h=>exact ⟨_,_,[],_,rfl,rfl,.top .nil,h⟩
 | flat hx ha h=>exact ⟨_,_,[],_,rfl,rfl,.flat hx ha .nil,h⟩
 | ag h1 h=>exact ⟨_,_,_,_,rfl,rfl,(by have:=TReps.ag h1 TReps.nil;rwa[List.append_nil] at this),h⟩
 | tu h1 h=>exact ⟨_,_,_,_,rfl,rfl,(by have:=TReps.tu h1 TReps.nil;rwa[List.append_nil] at this),h⟩
 | bx hh h1 h=>exact ⟨_,_,_,_,rfl,(List.cons_append ..).symm,(by have:=TReps.bx hh h1 TReps.nil;rwa[List.append_nil] at this),h⟩
 | rw h1 h=>exact ⟨_,_,_,_,rfl,rfl,(by have:=TReps.rw h1 (TReps.nil (F:=F) (w:=w));rwa[List.append_nil] at this),h⟩
 | dw h1 h2 h3 h=>exact ⟨_,_,_,_,rfl,rfl,(by have:=TReps.dw h1 h2 h3 (TReps.nil (F:=F) (w:=w));rwa[List.append_nil] at this),h⟩
 | mv h1 h=>exact ⟨_,_,_,_,rfl,rfl,(by have:=TReps.mv h1 (TReps.nil (F:=F) (w:=w));rwa[List.append_nil] at this),h⟩
def blocks (ρ:Rho) (ids:List Id):List Nat:=ids.flatMap fun id=>(hb (ρ id))
def rowsIn (st:St) (ρ:Rho) (F1:Nat→Prop) (is:List Id):Prop:=∀id∈is,∀v o,find id st.ob=some (v,o)→isRow o=true→∀b,b∈hb (ρ id)→F1 b
def okGiven (st:St) (ρ:Rho) (F1:Nat→Prop) (is os:List Id):Prop:=
 (∀id∈os,∃ver o,find id st.ob=some (ver,o)∧o.free=true)∧(∀id∈is,∃ver o,find id st.ob=some (ver,o)∧isRow o=true)
theorem okGiven.append {F1:Nat→Prop} {is os is' os':List Id} (h:okGiven st ρ F1 is os) (h':okGiven st ρ F1 is' os'):okGiven st ρ F1 (is++is') (os++os'):=
 ⟨fun id hid=>(List.mem_append.1 hid).elim (h.1 id) (h'.1 id),fun id hid=>(List.mem_append.1 hid).elim (h.2 id) (h'.2 id)⟩
theorem RowRep.pre {E:TypeId} {t:Ty} {l:List (El t)} {A:Option Addr} {c n:Nat} (h:RowRep F w E t l (.slice A l.length c)) (hn:n≤l.length):RowRep F w E t (l.take n) (.slice A n c):=by
 obtain ⟨cells,hown,hl⟩:=h
 refine ⟨cells.take (n*t.cells),?_,fun i x hx=>?_⟩
 ·have hle:n*t.cells≤List.length l*t.cells:=Nat.mul_le_mul_right _ hn
  have hnl:List.length (l.take n)=n:=by rw[List.length_take,Nat.min_eq_left hn]
  rw[hnl]
  refine ⟨by rw[List.length_take,hown.1,Nat.min_eq_left hle],?_⟩
  rcases hown.2 with ⟨h1,h2⟩ | ⟨g,off,cap,cur,h1,h3,h4,h5,h6,h7⟩
  ·simp only[Value.slice.injEq] at h1
   obtain ⟨rfl,_,rfl⟩:=h1
   obtain rfl:n=0:=by omega
   exact .inl ⟨rfl,rfl⟩
  ·simp only[Value.slice.injEq] at h1
   obtain ⟨rfl,_,rfl⟩:=h1
   refine .inr ⟨g,off,c,cur,rfl,h3,by omega,h5,h6,?_⟩
   rw[←h7,List.take_take,Nat.min_eq_left hle]
 ·rw[List.getElem?_take] at hx
  split at hx
  ·rename_i hi
   obtain ⟨cs,h1,h2⟩:=hl i x hx
   refine ⟨cs,h1,fun j u hu=>?_⟩
   have hj:j < t.cells:=by rw[←h1.length];exact (List.getElem?_eq_some_iff.1 hu).1
   rw[List.getElem?_take,if_pos]
   ·exact h2 j u hu
   ·calc i*t.cells+j < i*t.cells+t.cells:=by omega
     _=(i+1)*t.cells:=by rw[Nat.add_mul,Nat.one_mul]
     _≤n*t.cells:=Nat.mul_le_mul_right _ hi
  ·cases hx
theorem Zkd {g:AV→Option Given} {F1:Nat→Prop} {H:List Id→Prop} (hH:∀a b,H (a++b)→H a∧H b):∀(xs:List AV) {vs:List Value} {ys:List AV} {is os:List Id},allG g xs=some (ys,is,os)→CsRep F ρ w st xs vs→
  (∀x∈xs,∀v y is' os',g x=some (y,is',os')→H is'→ARep F ρ w st x v→TReps F1 w [y] [v] (blocks ρ os')∧okGiven st ρ F1 is' os')→
  H is→TReps F1 w ys vs (blocks ρ os)∧okGiven st ρ F1 is os
 | [],vs,ys,is,os,h,hc,_,_=>by
  simp only[allG,Option.some.injEq,Prod.mk.injEq] at h
  obtain ⟨rfl,rfl,rfl⟩:=h
  have:vs=[]:=List.length_eq_zero_iff.1 hc.1.symm
  subst this
  exact ⟨.nil,fun _ h=>(by cases h),fun _ h=>(by cases h)⟩
 | x :: xs,vs,ys,is,os,h,hc,hg,hF=>by
  simp only[allG] at h
  obtain ⟨⟨y,i1,o1⟩,h1,h⟩:=Option.bind_eq_some_iff.1 h
  obtain ⟨⟨zs,i2,o2⟩,h2,h⟩:=Option.map_eq_some_iff.1 h
  simp only[Prod.mk.injEq] at h
  obtain ⟨rfl,rfl,rfl⟩:=h
  cases vs with
  | nil=>have:=hc.1;simp at this
  | cons v vs=>
   have hx:=hc.2 0 x v rfl rfl
   have hr:CsRep F ρ w st xs vs:=⟨by have:=hc.1;simpa using this,fun i c u h1 h2=>hc.2 (i+1) c u h1 h2⟩
   obtain ⟨a1,a2⟩:=hg x (by simp) v y i1 o1 h1 (hH _ _ hF).1 hx
   obtain ⟨b1,b2⟩:=Zkd hH xs h2 hr (fun x hx=>hg x (by simp[hx])) (hH _ _ hF).2
   refine ⟨?_,a2.append b2⟩
   have:=a1.append b1
   simpa[blocks] using this
theorem Zic {F1:Nat→Prop} (hR:R Mod F ρ w st tm) (hF:∀b,F b→F1 b):∀(n:Nat) (rows:Bool) (x:AV) (v:Value) (y:AV) (is os:List Id),give st rows n x=some (y,is,os)→
  (rows=true∨rowsIn st ρ F1 is)→ARep F ρ w st x v→TReps F1 w [y] [v] (blocks ρ os)∧okGiven st ρ F1 is os
 | 0,_,_,_,_,_,_,h,_,_=>by cases h
 | n+1,rows,x,v,y,is,os,h,hi,hx=>by
  have hk:Keeps F w F1 w:=⟨hF,fun _ _=>rfl⟩
  have hH:∀r:Bool,∀a b:List Id,(r=true∨rowsIn st ρ F1 (a++b))→(r=true∨rowsIn st ρ F1 a)∧(r=true∨rowsIn st ρ F1 b):=fun r a b h=>⟨h.imp id fun h i hi=>h i (by simp[hi]),h.imp id fun h i hi=>h i (by simp[hi])⟩
  unfold give at h
  split at h
  ·rename_i id ver
   split at h
   ·rename_i T cs tg ho
    obtain ⟨⟨vs,i1,o1⟩,h1,h⟩:=Option.map_eq_some_iff.1 h
    simp only[Prod.mk.injEq] at h
    obtain ⟨rfl,rfl,rfl⟩:=h
    cases hx with
    | pt _ _ _ _ hbn _ hp=>
     obtain ⟨b,hρ,rfl⟩:=hp _ ho
     obtain ⟨_,b',arr,hρ',hh,hl,hc⟩:=hR.obs id ver _ (Zx.1 ho)
     rw[hρ] at hρ'
     cases hρ'
     have hcs:CsRep F ρ w st cs arr.toList:=⟨by simp[hl],fun i c u h1 h2=>hc i c u h1 (by simpa using h2)⟩
     obtain ⟨a1,a2⟩:=Zkd (H:=fun is=>true=true∨rowsIn st ρ F1 is) (hH true) cs h1 hcs (fun x _ v y is' os' hg hi' hxv=>Zic hR hF n true x v y is' os' hg hi' hxv) (.inl rfl)
     refine ⟨?_,fun i hi=>?_,a2.2⟩
     ·have:=TReps.bx (b:=b) (T:=T) (us:=arr.toList) (by simpa using hh) a1 TReps.nil
      simpa[blocks,hρ,Go.Ev.hb] using this
     ·rcases List.mem_cons.1 hi with rfl | hi
      ·exact ⟨_,_,Zx.1 ho,rfl⟩
      ·exact a2.1 i hi
   ·cases h
  ·rename_i id ver
   split at h
   ·rename_i kt vt l ho
    cases h
    cases hx with
    | mp _ _ _ hbn _ hp=>
     have hm:=hR.obs id ver _ (Zx.1 ho)
     have hv:=hp _ ho
     subst hv
     refine ⟨?_,fun i hi=>?_,fun _ h=>(by cases h)⟩
     ·have:=TReps.mv (F:=F1) (w:=w) (kt:=kt) (vt:=vt) (l:=l) (v:=ρ id) hm TReps.nil
      simpa[blocks] using this
     ·rcases List.mem_cons.1 hi with rfl | hi
      ·exact ⟨_,_,Zx.1 ho,rfl⟩
      ·cases hi
   ·cases h
  ·rename_i cs
   obtain ⟨⟨vs,i1,o1⟩,h1,h⟩:=Option.map_eq_some_iff.1 h
   simp only[Prod.mk.injEq] at h
   obtain ⟨rfl,rfl,rfl⟩:=h
   cases hx with
   | ag _ us hl hall=>
    obtain ⟨a1,a2⟩:=Zkd (H:=fun is=>rows=true∨rowsIn st ρ F1 is) (vs:=us.toList) (hH rows) cs h1 ⟨by simpa using hl,fun i c u h1 h2=>hall i c u h1 (by simpa using h2)⟩ (fun x _ v y is' os' hg hi' hxv=>Zic hR hF n rows x v y is' os' hg hi' hxv) hi
    refine ⟨?_,a2⟩
    have:=TReps.ag a1 TReps.nil
    simpa using this
  ·rename_i cs
   obtain ⟨⟨vs,i1,o1⟩,h1,h⟩:=Option.map_eq_some_iff.1 h
   simp only[Prod.mk.injEq] at h
   obtain ⟨rfl,rfl,rfl⟩:=h
   cases hx with
   | tu _ us hl hall=>
    obtain ⟨a1,a2⟩:=Zkd (H:=fun is=>rows=true∨rowsIn st ρ F1 is) (vs:=us.toList) (hH rows) cs h1 ⟨by simpa using hl,fun i c u h1 h2=>hall i c u h1 (by simpa using h2)⟩ (fun x _ v y is' os' hg hi' hxv=>Zic hR hF n rows x v y is' os' hg hi' hxv) hi
    refine ⟨?_,a2⟩
    have:=TReps.tu a1 TReps.nil
    simpa using this
  ·rename_i id ver pre
   split at h
   ·rename_i E t l lk ho
    cases hx with
    | own _ _ _ _ hbn _ hp=>
     obtain ⟨hn,A,c,hρ,rfl⟩:=hp _ _ _ _ ho
     have hrow:RowRep F w E t l (ρ id):=hR.obs id ver _ (Zx.1 ho)
     have hle:pre.getD l.length≤l.length:=by
      cases pre with
      | none=>exact Nat.le_refl _
      | some m=>exact hn m rfl
     cases hw:(rows&& !lk) with
     | true=>
      rw[hw] at h
      cases h
      rw[Zms]
      refine ⟨?_,fun i hi=>?_,fun _ h=>(by cases h)⟩
      ·have h2:RowRep F1 w E t l (ρ id):=ORep.mono (o:=.row E t l false) hk (Ref.refl (st:=st) (ρ:=ρ)) (fun _ _=>rfl) hrow
       rw[hρ] at h2
       have:=TReps.rw (RowRep.pre h2 hle) (TReps.nil (F:=F1) (w:=w))
       have hbb:hb (ρ id)=hb (.slice A (pre.getD l.length) c):=by rw[hρ];cases A <;> rfl
       simpa[blocks,hbb] using this
      ·rcases List.mem_cons.1 hi with rfl | hi
       ·simp only[Bool.and_eq_true,Bool.not_eq_true'] at hw
        exact ⟨_,_,Zx.1 ho,by simp[Obj.free,hw.2]⟩
       ·cases hi
     | false=>
      rw[hw] at h
      cases h
      rw[Zms]
      have hin:∀b,b∈hb (ρ id)→F1 b:=by
       rcases hi with hi | hi
       ·subst hi
        have hlk:lk=true:=by simpa using hw
        subst hlk
        exact fun b hb=>hF b (hR.data _ _ _ _ _ (Zx.1 ho) b hb)
       ·exact hi id (by simp) _ _ (Zx.1 ho) rfl
      have hd:=hrow.data hF hin hρ hle
      refine ⟨TReps.flat rfl (.d _ _ _ hd) .nil,fun _ h=>(by cases h),fun i hi=>?_⟩
      rcases List.mem_cons.1 hi with rfl | hi
      ·exact ⟨_,_,Zx.1 ho,rfl⟩
      ·cases hi
   ·cases h
  ·rename_i id ver p
   split at h
   ·rename_i E d l ho
    cases hx with
    | dn _ _ _ _ hbn _ hp=>
     obtain ⟨hpa,rfl⟩:=hp _ _ _ ho
     obtain ⟨hnd,hrow⟩:=hR.obs id ver _ (Zx.1 ho)
     cases p with
     | nil=>
      cases rows with
      | true=>
       cases h
       refine ⟨?_,fun i hi=>?_,fun _ h=>(by cases h)⟩
       ·have:=TReps.dw (F:=F1) (w:=w) (u:=ρ id) (v:=gv (gAt (gv (ρ id)) [])) rfl hnd (hrow.keep hk fun _ _=>rfl) TReps.nil
        simpa[blocks] using this
       ·rcases List.mem_cons.1 hi with rfl | hi
        ·exact ⟨_,_,Zx.1 ho,rfl⟩
        ·cases hi
      | false=>
       cases h
       have hin:=(hi.resolve_left (by simp)) id (by simp) _ _ (Zx.1 ho) rfl
       refine ⟨TReps.flat rfl (.d _ _ _ (hrow.data hF hin)) .nil,fun _ h=>(by cases h),fun i hi=>?_⟩
       rcases List.mem_cons.1 hi with rfl | hi
       ·exact ⟨_,_,Zx.1 ho,rfl⟩
       ·cases hi
     | cons e r=>
      cases rows with
      | true=>cases h
      | false=>
       obtain ⟨q2,Eq,Bq,a1,a2,a3⟩:=ZeS hrow hpa
       simp only[cond_false,a1] at h
       cases h
       have hin:=(hi.resolve_left (by simp)) id (by simp) _ _ (Zx.1 ho) rfl
       refine ⟨TReps.flat rfl (.d _ _ _ (a2.data hF fun b hb=>hin b (a3 b hb))) .nil,fun _ h=>(by cases h),fun i hi=>?_⟩
       rcases List.mem_cons.1 hi with rfl | hi
       ·exact ⟨_,_,Zx.1 ho,rfl⟩
       ·cases hi
   ·cases h
  ·cases hfl:flatB x with
   | false=>rw[hfl] at h;cases h
   | true=>
    rw[hfl] at h
    cases h
    exact ⟨TReps.flat hfl (ZrQ hfl (hx.mono hk Ref.refl)) .nil,fun _ h=>(by cases h),fun _ h=>(by cases h)⟩
end
end Go.Ev
end

section
namespace Go.Ev
variable [Tabs] [Orgs]
open Go
section
variable {P:Program} {Mod:Nat→Prop} {st:St} {F:Nat→Prop} {ρ:Rho} {w:World} {tm:Array Value}
def held (st:St) (ρ:Rho) (b:Nat):Prop:=∃id ver o,find id st.ob=some (ver,o)∧o.free=true∧b∈hb (ρ id)
structure Fr (Mod F:Nat→Prop) (ρ:Rho) (w:World) (st:St) (L:List Nat):Prop where
 nodup:L.Nodup
 out:∀b∈L,¬F b∧Mod b∧b < w.heap.size∧¬held st ρ b
structure Came (st:St) (ρ:Rho) (st':St) (ρ':Rho) (L:List Nat):Prop where
 ref:Ref st ρ st' ρ'
 held:∀b,held st' ρ' b→b∈L∨Go.Ev.held st ρ b
 tm:st'.tm=st.tm
theorem Came.refl {L:List Nat} :Came st ρ st ρ L:=⟨Ref.refl,fun _ h=>.inr h,rfl⟩
theorem Came.trans {st' st'':St} {ρ' ρ'':Rho} {L M N:List Nat} (h:Came st ρ st' ρ' L) (k:Came st' ρ' st'' ρ'' M) (hL:∀b∈L,b∈N) (hM:∀b∈M,b∈N):Came st ρ st'' ρ'' N:=
 ⟨h.ref.trans k.ref,fun b hb=>(k.held b hb).elim (fun x=>.inl (hM b x)) fun x=>(h.held b x).elim (fun y=>.inl (hL b y)) .inr,k.tm.trans h.tm⟩
theorem Fr.left {L M:List Nat} (h:Fr Mod F ρ w st (L++M)):Fr Mod F ρ w st L:=⟨(List.nodup_append.1 h.nodup).1,fun b hb=>h.out b (by simp[hb])⟩
theorem Fr.right {st':St} {ρ':Rho} {L M:List Nat} (h:Fr Mod F ρ w st (L++M)) (hc:Came st ρ st' ρ' L):Fr Mod F ρ' w st' M:=
 ⟨(List.nodup_append.1 h.nodup).2.1,fun b hb=>by
  obtain ⟨h1,h2,h3,h4⟩:=h.out b (by simp[hb])
  refine ⟨h1,h2,h3,fun hh=>?_⟩
  rcases hc.held b hh with hL | hh
  ·exact (List.nodup_append.1 h.nodup).2.2 b hL b hb rfl
  ·exact h4 hh⟩
theorem R.bring (hR:R Mod F ρ w st tm) {id ver':Nat} {o':Obj} {h':Value} (hver:(∃o,find id st.ob=some (ver',o)∧h'=ρ id∧∃tg,o=.gone tg)∨ver'=st.nextVer id) (hfree:o'.free=true)
  (hg:(∃o,find id st.ob=some (ver',o)∧h'=ρ id∧∃tg,o=.gone tg)→∀tg,Obj.sim (.gone tg) o')
  (hblk:∀b,b∈hb h'→¬F b∧Mod b∧b < w.heap.size∧¬held st ρ b) (hO:ORep F (updR ρ id h') w (st.setOb id ver' o') h' o'):
  R Mod F (updR ρ id h') w (st.setOb id ver' o') tm∧Came st ρ (st.setOb id ver' o') (updR ρ id h') (hb h'):=by
 have hver2:(∃o,find id st.ob=some (ver',o)∧h'=ρ id∧Obj.sim o o')∨ver'=st.nextVer id:=by
  rcases hver with h | h
  ·obtain ⟨o,h1,h2,tg,h3⟩:=h
   exact .inl ⟨o,h1,h2,by rw[h3];exact hg ⟨o,h1,h2,tg,h3⟩ tg⟩
  ·exact .inr h
 refine ⟨(R.set' hR rfl rfl rfl (Nat.le_refl _) hver2 (fun _ _ _=>rfl) (fun _ b hbb=>?_) (fun E t l e=>by subst e;cases hfree) hO).1,Ref.set hver2,fun b hh=>?_,rfl⟩
 ·obtain ⟨h1,h2,h3,h4⟩:=hblk b hbb
  exact ⟨h1,h2,h3,fun i v o _ hf hfr hbi=>h4 ⟨i,v,o,hf,hfr,hbi⟩⟩
 ·obtain ⟨i,v,o,hf,hfr,hbi⟩:=hh
  rw[Zq] at hf
  by_cases hi:i=id
  ·subst hi
   simp only[updR,if_true] at hbi
   exact .inl hbi
  ·rw[if_neg hi] at hf
   simp only[updR,if_neg hi] at hbi
   exact .inr ⟨i,v,o,hf,hfr,hbi⟩
theorem ZnB {id v:Nat} {o:Obj} (h:find id st.ob=some (v,o)):st.nextVer id=v+1:=by simp[St.nextVer,h]
def ImpOK (Mod F:Nat→Prop) (w:World) (tm:Array Value) (im:St→Id→AV→Option (AV×St)):Prop:=
 ∀(st:St) (ρ:Rho) (id:Id) (x y:AV) (v:Value) (st':St) (L:List Nat),im st id x=some (y,st')→R Mod F ρ w st tm→TReps F w [x] [v] L→Fr Mod F ρ w st L→
  ∃ρ',R Mod F ρ' w st' tm∧ARep F ρ' w st' y v∧Came st ρ st' ρ' L
theorem Ziv {im:St→Id→AV→Option (AV×St)} (him:ImpOK Mod F w tm im) (id:Id):∀(xs:List AV) (j:Nat) (st:St) (ρ:Rho) (ys:List AV) (vs:List Value) (st':St) (L:List Nat),impA im st id j xs=some (ys,st')→R Mod F ρ w st tm→TReps F w xs vs L→Fr Mod F ρ w st L→
  ∃ρ',R Mod F ρ' w st' tm∧CsRep F ρ' w st' ys vs∧Came st ρ st' ρ' L
 | [],j,st,ρ,ys,vs,st',L,h,hR,hT,hF=>by
  simp only[impA,Option.some.injEq,Prod.mk.injEq] at h
  obtain ⟨rfl,rfl⟩:=h
  cases hT
  exact ⟨ρ,hR,.nil,Came.refl⟩
 | x :: xs,j,st,ρ,ys,vs,st',L,h,hR,hT,hF=>by
  simp only[impA] at h
  obtain ⟨⟨y,st1⟩,h1,h⟩:=Option.bind_eq_some_iff.1 h
  obtain ⟨⟨zs,st2⟩,h2,h⟩:=Option.map_eq_some_iff.1 h
  simp only[Prod.mk.injEq] at h
  obtain ⟨rfl,rfl⟩:=h
  obtain ⟨v,us,L1,L2,rfl,rfl,t1,t2⟩:=hT.split
  obtain ⟨ρ1,r1,a1,c1⟩:=him st ρ _ x y v st1 L1 h1 hR t1 hF.left
  obtain ⟨ρ2,r2,a2,c2⟩:=Ziv him id xs (j+1) st1 ρ1 zs us st2 L2 h2 r1 t2 (hF.right c1)
  exact ⟨ρ2,r2,.cons (a1.mono (Keeps.refl _ _) c2.ref) a2,c1.trans c2 (fun b hb=>by simp[hb]) (fun b hb=>by simp[hb])⟩
theorem Zmm:∀n,ImpOK Mod F w tm (imp n)
 | 0=>fun _ _ _ _ _ _ _ _ h=>by cases h
 | n+1=>by
  intro st ρ id x y v st' L h hR hT hF
  have ih:=Zmm n
  unfold imp at h
  split at h
  ·rename_i T cs
   obtain ⟨⟨vs,st1⟩,h1,h⟩:=Option.map_eq_some_iff.1 h
   simp only[Prod.mk.injEq] at h
   obtain ⟨rfl,rfl⟩:=h
   cases hT with
   | flat hx=>cases hx
   | @bx _ b _ us L1 _ _ _ hh hcs hr=>
    cases hr
    rw[List.append_nil] at hF
    have hnb:b∉L1:=(List.nodup_cons.1 hF.nodup).1
    have hF1:Fr Mod F ρ w st L1:=⟨(List.nodup_cons.1 hF.nodup).2,fun c hc=>hF.out c (by simp[hc])⟩
    obtain ⟨ρ1,r1,a1,c1⟩:=Ziv ih id cs 0 st ρ vs us st1 L1 h1 hR hcs hF1
    have hb1:∀c,c∈hb (.pointer (some ⟨b,0,none⟩))→¬F c∧Mod c∧c < w.heap.size∧¬held st1 ρ1 c:=by
     intro c hc
     have hc:=(List.mem_singleton.1 hc).symm
     subst hc
     obtain ⟨k1,k2,k3,k4⟩:=hF.out b (by simp)
     exact ⟨k1,k2,k3,fun hh=>(c1.held b hh).elim hnb k4⟩
    obtain ⟨r2,c2⟩:=r1.bring (id:=id) (ver':=st1.nextVer id) (o':=.box T vs none) (h':=.pointer (some ⟨b,0,none⟩)) (.inr rfl) rfl (fun _ _=>trivial) hb1
     ⟨(fun j e=>by cases e),b,us.toArray,rfl,hh,by simpa using a1.1.symm,fun i c u e1 e2=>(a1.2 i c u e1 (by simpa using e2)).mono (Keeps.refl _ _) Ref.new⟩
    refine ⟨_,r2,Zrf (by simp[updR]),?_⟩
    rw[List.append_nil]
    exact c1.trans c2 (fun c hc=>by simp[hc]) (fun c hc=>by simpa[Go.Ev.hb] using .inl (by simpa[Go.Ev.hb] using hc))
  ·rename_i E t l
   simp only[Option.some.injEq,Prod.mk.injEq] at h
   obtain ⟨rfl,rfl⟩:=h
   cases hT with
   | flat hx=>cases hx
   | rw hrow hr=>
    cases hr
    rw[List.append_nil] at hF ⊢
    obtain ⟨r2,c2⟩:=hR.bring (id:=id) (ver':=st.nextVer id) (o':=.row E t l false) (h':=v) (.inr rfl) rfl (fun ⟨o,hf,_,_⟩=>by
      exfalso
      have:=ZnB hf
      omega) (fun b hbb=>hF.out b hbb) hrow
    refine ⟨_,r2,.own _ _ _ _ Zco ?_ fun E' t' l' lk' ho=>?_,c2⟩
    ·rcases hrow with ⟨cells,hown,_⟩
     rcases hown.2 with ⟨e,_⟩ | ⟨g,off,cap,cur,e,_⟩ <;> rw[e] <;> rfl
    ·rw[Zjq] at ho
     cases ho
     refine ⟨fun n e=>(by cases e),?_⟩
     rcases hrow with ⟨cells,hown,_⟩
     simp only[updR,if_true,Option.getD_none]
     rcases hown.2 with ⟨e,e2⟩ | ⟨g,off,cap,cur,e,_⟩
     ·exact ⟨none,0,by rw[e,e2],by rw[e,e2]⟩
     ·exact ⟨_,_,e,e⟩
  ·rename_i kt vt l
   simp only[Option.some.injEq,Prod.mk.injEq] at h
   obtain ⟨rfl,rfl⟩:=h
   cases hT with
   | flat hx=>cases hx
   | mv hm hr=>
    cases hr
    rw[List.append_nil] at hF ⊢
    obtain ⟨r2,c2⟩:=hR.bring (id:=id) (ver':=st.nextVer id) (o':=.map kt vt l) (h':=v) (.inr rfl) rfl (fun _ _=>trivial) (fun b hbb=>hF.out b hbb) hm
    refine ⟨_,r2,.mp _ _ _ Zco ?_ fun o' ho=>by simp[updR],c2⟩
    obtain ⟨r,es,clock,e,_⟩:=hm
    rw[e];rfl
  ·rename_i E d l
   simp only[Option.some.injEq,Prod.mk.injEq] at h
   obtain ⟨rfl,rfl⟩:=h
   cases hT with
   | flat hx=>cases hx
   | dw hv hn hrow hr=>
    cases hr
    rename_i u
    rw[List.append_nil] at hF ⊢
    obtain ⟨r2,c2⟩:=hR.bring (id:=id) (ver':=st.nextVer id) (o':=.deep E d l) (h':=u) (.inr rfl) rfl (fun ⟨o,hf,_,_⟩=>by
      exfalso
      have:=ZnB hf
      omega) (fun b hbb=>hF.out b hbb) ⟨hn,hrow⟩
    refine ⟨_,r2,.dn _ _ _ _ Zco ?_ fun E' d' l' ho=>⟨trivial,by simpa[updR,gAt] using hv⟩,c2⟩
    obtain ⟨cells,Bs,hown,_⟩:=hrow
    rw[hv]
    rcases hown.2 with ⟨e,_⟩ | ⟨g,off,cap,cur,e,_⟩ <;> rw[e] <;> rfl
  ·rename_i cs
   obtain ⟨⟨vs,st1⟩,h1,h⟩:=Option.map_eq_some_iff.1 h
   simp only[Prod.mk.injEq] at h
   obtain ⟨rfl,rfl⟩:=h
   cases hT with
   | flat hx=>cases hx
   | ag hcs hr=>
    cases hr
    rw[List.append_nil] at hF ⊢
    obtain ⟨ρ1,r1,a1,c1⟩:=Ziv ih id cs 0 st ρ vs _ st1 _ h1 hR hcs hF
    exact ⟨ρ1,r1,.ag _ _ (by simpa using a1.1) fun i c u e1 e2=>a1.2 i c u e1 (by simpa using e2),c1⟩
  ·rename_i cs
   obtain ⟨⟨vs,st1⟩,h1,h⟩:=Option.map_eq_some_iff.1 h
   simp only[Prod.mk.injEq] at h
   obtain ⟨rfl,rfl⟩:=h
   cases hT with
   | flat hx=>cases hx
   | tu hcs hr=>
    cases hr
    rw[List.append_nil] at hF ⊢
    obtain ⟨ρ1,r1,a1,c1⟩:=Ziv ih id cs 0 st ρ vs _ st1 _ h1 hR hcs hF
    exact ⟨ρ1,r1,.tu _ _ (by simpa using a1.1) fun i c u e1 e2=>a1.2 i c u e1 (by simpa using e2),c1⟩
  ·rename_i n1 n2 n3 n4 n5 n6
   cases hfl:flatB x with
   | false=>rw[hfl] at h;cases h
   | true=>
    rw[hfl] at h
    simp only[cond_true,Option.some.injEq,Prod.mk.injEq] at h
    obtain ⟨rfl,rfl⟩:=h
    cases hT with
    | flat hx ha hr=>cases hr;exact ⟨ρ,hR,ZrQ hx ha,Came.refl⟩
    | top=>cases hfl
    | ag=>cases hfl
    | tu=>cases hfl
    | bx=>cases hfl
    | rw=>cases hfl
    | mv=>cases hfl
    | dw=>cases hfl
theorem Ztk {i:Nat} {x y:AV} {v:Value} {st':St} {L:List Nat} (h:impT st i x=some (y,st')) (hR:R Mod F ρ w st tm) (hT:TReps F w [x] [v] L) (hF:Fr Mod F ρ w st L) (hv:v=Orgs.org i):
  ∃ρ',R Mod F ρ' w st' tm∧ARep F ρ' w st' y v∧Came st ρ st' ρ' L:=by
 unfold impT at h
 split at h
 ·rename_i T cs
  obtain ⟨⟨vs,st1⟩,h1,h⟩:=Option.map_eq_some_iff.1 h
  simp only[Prod.mk.injEq] at h
  obtain ⟨rfl,rfl⟩:=h
  cases hT with
  | flat hx=>cases hx
  | @bx _ b _ us L1 _ _ _ hh hcs hr=>
   cases hr
   rw[List.append_nil] at hF
   have hnb:b∉L1:=(List.nodup_cons.1 hF.nodup).1
   have hF1:Fr Mod F ρ w st L1:=⟨(List.nodup_cons.1 hF.nodup).2,fun c hc=>hF.out c (by simp[hc])⟩
   obtain ⟨ρ1,r1,a1,c1⟩:=Ziv (Zmm 5) (rootId i) cs 0 st ρ vs us st1 L1 h1 hR hcs hF1
   have hb1:∀c,c∈hb (.pointer (some ⟨b,0,none⟩))→¬F c∧Mod c∧c < w.heap.size∧¬held st1 ρ1 c:=by
    intro c hc
    have hc:=(List.mem_singleton.1 hc).symm
    subst hc
    obtain ⟨k1,k2,k3,k4⟩:=hF.out b (by simp)
    exact ⟨k1,k2,k3,fun hh=>(c1.held b hh).elim hnb k4⟩
   obtain ⟨r2,c2⟩:=r1.bring (id:=rootId i) (ver':=st1.nextVer (rootId i)) (o':=.box T vs (some i)) (h':=.pointer (some ⟨b,0,none⟩)) (.inr rfl) rfl (fun _ _=>trivial) hb1
    ⟨(fun j e=>by cases e;exact hv),b,us.toArray,rfl,hh,by simpa using a1.1.symm,fun i c u e1 e2=>(a1.2 i c u e1 (by simpa using e2)).mono (Keeps.refl _ _) Ref.new⟩
   refine ⟨_,r2,Zrf (by simp[updR]),?_⟩
   rw[List.append_nil]
   exact c1.trans c2 (fun c hc=>by simp[hc]) (fun c hc=>by simpa[Go.Ev.hb] using .inl (by simpa[Go.Ev.hb] using hc))
 ·exact Zmm 6 st ρ _ x y v st' L h hR hT hF
end
end Go.Ev
end

section
namespace Go.Ev
variable [Tabs] [Orgs]
open Go
def ModC (L:List Nat) (w:World) (b:Nat):Prop:=b∈L∨w.heap.size≤b
def CallPost (F:Nat→Prop) (w:World) (L:List Nat) (vals:List Value) (ans:Ans) (v:Value) (w':World):Prop:=
 ∃F' Lr Lo,Evo (ModC L w) F w F' w'∧(∀b,F' b→b < w'.heap.size)∧TReps F' w' [ans.1] [v] Lr∧TReps F' w' ans.2 vals Lo∧(Lo++Lr).Nodup∧∀b∈Lo++Lr,¬F' b∧ModC L w b∧b < w'.heap.size
def CallG (P:Program) (f:FuncId) (g:List Value→Array Value) (forms:List AV) (ans:Ans):Prop:=
 ∀(F:Nat→Prop) (w:World) (vals:List Value) (L:List Nat),TReps F w forms vals L→L.Nodup→(∀b∈L,¬F b∧b < w.heap.size)→(∀b,F b→b < w.heap.size)→TabOK F w→
  Calls P f (g vals) w fun
   |.returned v,w'=>CallPost F w L vals ans v w'
   | _,_=>False
def twice (vals:List Value):Array Value:=(vals++vals).toArray
def CallOK (P:Program) (f:FuncId) (forms:List AV) (ans:Ans):Prop:=CallG P f List.toArray forms ans∧∀r,forms=.pt 0 0 1 :: r→CallG P f twice r ans
def Known (P:Program) (f:FuncId):Prop:=∃fn c,P.funcs[f]? =some fn∧(fn.name== "runtime.NumGoroutine")=false∧fn.body=some c
def Spec (P:Program) (cl:Cl):Prop:=∀f forms,Sat (cl f forms) fun ans=>Known P f∧CallOK P f forms ans
section
variable {P:Program} {Mod:Nat→Prop} {o:Oper} {st:St} {F:Nat→Prop} {ρ:Rho} {w:World} {tm:Array Value}
theorem ZtT {v:Value} {o:Obj} (h:ORep F ρ w st v o):∀j,o.tag=some j→v=Orgs.org j:=by
 cases o with
 | box T cs tg=>exact h.1
 | gone tg=>exact h
 | _=>intro j e;cases e
theorem ZjI:∀(os:List Id) {st:St},R Mod F ρ w st tm→R Mod F ρ w (dropIds os st) tm∧Ref st ρ (dropIds os st) ρ∧(dropIds os st).tm=st.tm∧
  (∀b,held (dropIds os st) ρ b→∃id ver o,find id st.ob=some (ver,o)∧o.free=true∧b∈hb (ρ id)∧id∉os)∧∀id ver,bnd st id ver→bnd (dropIds os st) id ver
 | [],st,h=>⟨h,Ref.refl,rfl,fun b ⟨id,ver,o,h1,h2,h3⟩=>⟨id,ver,o,h1,h2,h3,by simp⟩,fun _ _ h=>h⟩
 | id :: r,st,h=>by
  unfold dropIds
  cases hf:find id st.ob with
  | none=>
   obtain ⟨h1,h2,h3,h4,h5⟩:=ZjI r h
   refine ⟨h1,h2,h3,fun b hb=>?_,h5⟩
   obtain ⟨i,v,o,k1,k2,k3,k4⟩:=h4 b hb
   refine ⟨i,v,o,k1,k2,k3,fun hm=>?_⟩
   rcases List.mem_cons.1 hm with rfl | hm
   ·rw[hf] at k1;cases k1
   ·exact k4 hm
  | some p=>
   obtain ⟨v,ob⟩:=p
   simp only
   have hver:(∃o,find id st.ob=some (v,o)∧ρ id=ρ id∧Obj.sim o (.gone ob.tag))∨v=st.nextVer id:=.inl ⟨ob,hf,rfl,ob.sim_gone _⟩
   have hset:=R.set h (o':=.gone ob.tag) (h':=ρ id) rfl rfl rfl (Nat.le_refl _) hver (fun _ _ _=>rfl) (fun e=>by cases e) (fun _ _ _ e=>by cases e) (ZtT (h.obs id v ob hf))
   have href:=Ref.set (ρ:=ρ) (o':=.gone ob.tag) hver
   rw[Zjs] at hset href
   obtain ⟨h1,h2,h3,h4,h5⟩:=ZjI r hset.1
   refine ⟨h1,href.trans h2,h3,fun b hb=>?_,fun i ver hb=>h5 _ _ (href.b _ _ hb)⟩
   obtain ⟨i,v',o,k1,k2,k3,k4⟩:=h4 b hb
   rw[Zq] at k1
   by_cases hi:i=id
   ·subst hi
    rw[if_pos rfl] at k1
    cases k1
    cases k2
   ·rw[if_neg hi] at k1
    exact ⟨i,v',o,k1,k2,k3,fun hm=>(List.mem_cons.1 hm).elim hi k4⟩
theorem R.world (h:R Mod F ρ w st tm) {M F2:Nat→Prop} {w':World} (hE:Evo M F w F2 w') (hM:∀b,M b→Mod b) (hh:∀b,held st ρ b→¬M b) (hlow:∀b,F2 b→b < w'.heap.size):
  R Mod F2 ρ w' st tm∧Evo Mod F w F2 w':=by
 have hE2:Evo Mod F w F2 w':=⟨hE.os,hE.tape,hE.output,hE.size,hE.more,fun b hb=>(hE.new b hb).imp id (hM b),fun b hb hF=>hE.same b hb (hF.imp id fun hn hm=>hn (hM b hm))⟩
 have hk:=hE2.keeps h.low
 refine ⟨⟨h.size,fun i x hx=>?_,fun id ver o hf=>?_,fun id ver o b hf hfr hbb=>?_,fun id ver E t l hf b hbb=>hE.more b (h.data id ver E t l hf b hbb),hlow,fun b hb=>h.hi b (Nat.le_trans hE.size hb),h.tabs.keep hk⟩,hE2⟩
 ·obtain ⟨v,hv,ha⟩:=h.tms i x hx
  exact ⟨v,hv,ha.mono hk Ref.refl⟩
 ·by_cases hg:∃tg,o=.gone tg
  ·obtain ⟨tg,rfl⟩:=hg;exact h.obs id ver _ hf
  refine ORep.mono hk (Ref.refl (st:=st) (ρ:=ρ)) (fun b hbb=>?_) (h.obs id ver o hf)
  by_cases hfr:o.free=true
  ·exact hE.same b (h.sep _ _ _ _ hf hfr hbb).2.2.1 (.inr (hh b ⟨id,ver,o,hf,hfr,hbb⟩))
  ·cases o with
   | row E t l lk=>
    have:lk=true:=by simpa[Obj.free] using hfr
    subst this
    exact hk.same b (h.data _ _ _ _ _ hf b hbb)
   | gone tg=>exact absurd ⟨tg,rfl⟩ hg
   | box T cs tg=>simp[Obj.free] at hfr
   | map kt vt l=>simp[Obj.free] at hfr
   | sit s p=>simp[Obj.free] at hfr
   | deep E d l=>simp[Obj.free] at hfr
 ·obtain ⟨h1,h2,h3,h4⟩:=h.sep _ _ _ _ hf hfr hbb
  exact ⟨fun hF=>(hE.new b hF).elim h1 (hh b ⟨id,ver,o,hf,hfr,hbb⟩),h2,Nat.lt_of_lt_of_le h3 hE.size,h4⟩
theorem LRep.any {F2:Nat→Prop} {w':World} :∀ {t:Ty} {x:El t} {vs:List Value},tySl t=false→LRep F w t x vs→LRep F2 w' t x vs
 |.int _,_,_,_,h=>h
 |.bool,_,_,_,h=>h
 |.str,_,_,_,h=>h
 |.sl _,_,_,h,_=>by cases h
 |.pr a b,x,vs,hs,h=>by
  simp only[tySl,Bool.or_eq_false_iff] at hs
  simp only[LRep] at h ⊢
  obtain ⟨v1,v2,e,h1,h2⟩:=h
  exact ⟨v1,v2,e,LRep.any hs.1 h1,LRep.any hs.2 h2⟩
 |.un,_,_,_,h=>h
theorem ZnV {f:AV→Bool} :∀ {xs:List AV},hasSl.anyB f xs=false→∀x∈xs,f x=false
 | [],_,_,h=>by cases h
 | y :: ys,h,x,hx=>by
  simp only[hasSl.anyB,Bool.or_eq_false_iff] at h
  rcases List.mem_cons.1 hx with rfl | hx
  ·exact h.1
  ·exact ZnV h.2 x hx
theorem Zh0 {F2:Nat→Prop} {n:Nat} {x:AV} {v:Value} (hx:leafB x=true) (hs:hasSl n x=false) (h:ARep F ρ w st x v):ARep F2 ρ w st x v:=by
 cases n with
 | zero=>cases hs
 | succ n=>
  cases h with
  | d t x v h=>exact .d _ _ _ (LRep.any hs h)
  | nil=>exact .nil
  | cst=>exact .cst _
  | _=>cases hx
theorem ZsC {F2:Nat→Prop} {n:Nat} {x:AV} {v:Value} (hx:flatB x=true) (hs:hasSl n x=false) (h:ARep F ρ w st x v):ARep F2 ρ w st x v:=by
 cases x with
 | d t v=>exact Zh0 rfl hs h
 | nil=>exact Zh0 rfl hs h
 | cst v=>exact Zh0 rfl hs h
 | ifc t y=>
  cases n with
  | zero=>cases hs
  | succ n=>
   cases h with
   | ifc _ _ u hu=>
    refine .ifc _ _ _ ?_
    simp only[hasSl] at hs
    cases y with
    | ag cs=>
     cases n with
     | zero=>cases hs
     | succ n=>
      simp only[flatB] at hx
      simp only[hasSl] at hs
      cases hu with
      | ag _ vs hl hall=>exact .ag _ _ hl fun i c u h1 h2=>Zh0 (List.all_eq_true.1 hx c (List.mem_of_getElem? h1)) (ZnV hs c (List.mem_of_getElem? h1)) (hall i c u h1 h2)
    | _=>exact Zh0 hx hs hu
 | _=>cases hx
theorem TReps.noSl {F2:Nat→Prop} {xs:List AV} {vs:List Value} {L:List Nat} (h:TReps F w xs vs L):∀n,hasSl.anyB (hasSl n) xs=false→TReps F2 w xs vs L:=by
 induction h with
 | nil=>exact fun _ _=>.nil
 | top _ ih=>intro n hs;simp only[hasSl.anyB,Bool.or_eq_false_iff] at hs;exact .top (ih n hs.2)
 | flat hx ha _ ih=>intro n hs;simp only[hasSl.anyB,Bool.or_eq_false_iff] at hs;exact .flat hx (ZsC hx hs.1 ha) (ih n hs.2)
 | ag h1 _ i1 ih=>
  intro n hs;simp only[hasSl.anyB,Bool.or_eq_false_iff] at hs
  cases n with
  | zero=>cases hs.1
  | succ n=>exact .ag (i1 n hs.1) (ih _ hs.2)
 | tu h1 _ i1 ih=>
  intro n hs;simp only[hasSl.anyB,Bool.or_eq_false_iff] at hs
  cases n with
  | zero=>cases hs.1
  | succ n=>exact .tu (i1 n hs.1) (ih _ hs.2)
 | bx hh h1 _ i1 ih=>
  intro n hs;simp only[hasSl.anyB,Bool.or_eq_false_iff] at hs
  cases n with
  | zero=>cases hs.1
  | succ n=>exact .bx hh (i1 n hs.1) (ih _ hs.2)
 | rw h1 _ ih=>
  intro n hs;simp only[hasSl.anyB,Bool.or_eq_false_iff] at hs
  cases n with
  | zero=>cases hs.1
  | succ n=>
   obtain ⟨cells,hown,hl⟩:=h1
   exact .rw ⟨cells,hown,fun i x hx=>let ⟨cs,k1,k2⟩:=hl i x hx;⟨cs,LRep.any hs.1 k1,k2⟩⟩ (ih _ hs.2)
 | dw h1 h2 h3 _ ih=>
  intro n hs;simp only[hasSl.anyB,Bool.or_eq_false_iff] at hs
  cases n with
  | zero=>cases hs.1
  | succ n=>cases hs.1
 | mv h1 _ ih=>intro n hs;simp only[hasSl.anyB,Bool.or_eq_false_iff] at hs;exact .mv h1 (ih _ hs.2)
theorem ZjF:∀(args outs:List AV) (vals:List Value) {st st':St} {ρ:Rho} {L:List Nat},backA st (args.zip outs)=some st'→R Mod F ρ w st tm→CsRep F ρ w st args vals→TReps F w outs vals L→Fr Mod F ρ w st L→
  ∃ρ',R Mod F ρ' w st' tm∧Came st ρ st' ρ' L
 | [],outs,vals,st,st',ρ,L,h,hR,hc,hT,hF=>by
  simp only[List.zip_nil_left,backA,Option.some.injEq] at h
  subst h
  exact ⟨ρ,hR,Came.refl⟩
 | x :: xs,[],vals,st,st',ρ,L,h,hR,hc,hT,hF=>by
  simp only[List.zip_nil_right,backA,Option.some.injEq] at h
  subst h
  exact ⟨ρ,hR,Came.refl⟩
 | x :: xs,y :: ys,vals,st,st',ρ,L,h,hR,hc,hT,hF=>by
  obtain ⟨v,us,L1,L2,rfl,rfl,t1,t2⟩:=hT.split
  have hx:ARep F ρ w st x v:=hc.2 0 x v rfl rfl
  have hr:CsRep F ρ w st xs us:=⟨by have:=hc.1;simpa using this,fun i c u h1 h2=>hc.2 (i+1) c u h1 h2⟩
  rw[List.zip_cons_cons] at h
  unfold backA at h
  split at h
  ·rename_i id ver T cs
   obtain ⟨⟨vs,st1⟩,h1,h⟩:=Option.bind_eq_some_iff.1 h
   simp only at h
   split at h
   ·rename_i tg ho
    cases t1 with
    | flat hx=>cases hx
    | @bx _ b _ bs M1 _ _ _ hh hcs hr0=>
     cases hr0
     rw[List.append_nil] at hF
     have hF1:=hF.left
     have hnb:b∉M1:=(List.nodup_cons.1 hF1.nodup).1
     have hF2:Fr Mod F ρ w st M1:=⟨(List.nodup_cons.1 hF1.nodup).2,fun c hc=>hF1.out c (by simp[hc])⟩
     obtain ⟨ρ1,r1,a1,c1⟩:=Ziv (Zmm 6) id cs 0 st ρ vs _ st1 M1 h1 hR hcs hF2
     have hx1:=hx.mono (Keeps.refl _ _) c1.ref
     cases hx1 with
     | pt _ _ _ _ _ _ hp=>
      obtain ⟨b',hρ,hv⟩:=hp _ ho
      cases hv
      have hb1:∀c,c∈hb (ρ1 id)→¬F c∧Mod c∧c < w.heap.size∧¬held st1 ρ1 c:=by
       intro c hc
       rw[hρ] at hc
       have hc:=(List.mem_singleton.1 hc).symm
       subst hc
       obtain ⟨k1,k2,k3,k4⟩:=hF1.out b (by simp)
       exact ⟨k1,k2,k3,fun hh=>(c1.held b hh).elim hnb k4⟩
      have hf:=Zx.1 ho
      obtain ⟨r2,c2⟩:=r1.bring (id:=id) (ver':=ver) (o':=.box T vs tg) (h':=ρ1 id) (.inl ⟨_,hf,rfl,tg,rfl⟩) rfl (fun _ _=>trivial) hb1
       ⟨r1.obs id ver _ hf,b,bs.toArray,hρ,hh,by simpa using a1.1.symm,fun i c u e1 e2=>(a1.2 i c u e1 (by simpa using e2)).mono (Keeps.refl _ _) (Ref.set (o':=.box T vs tg) (.inl ⟨_,hf,rfl,trivial⟩))⟩
      have c3:Came st ρ (st1.setOb id ver (.box T vs tg)) (updR ρ1 id (ρ1 id)) (b :: (M1++[])):=by
       refine c1.trans c2 (fun c hc=>by simp[hc]) (fun c hc=>?_)
       rw[hρ] at hc
       have hc:=(List.mem_singleton.1 hc).symm
       subst hc
       simp
      rw[List.append_nil] at c3
      obtain ⟨ρ3,r3,c4⟩:=ZjF xs ys us h r2 (hr.mono (Keeps.refl _ _) c3.ref) t2 (hF.right c3)
      rw[List.append_nil]
      exact ⟨ρ3,r3,c3.trans c4 (fun c hc=>by simp at hc ⊢;rcases hc with hc | hc <;> simp[hc]) (fun c hc=>by simp[hc])⟩
   ·cases h
  ·rename_i id ver kt vt l
   split at h
   ·rename_i ho
    cases t1 with
    | flat hx=>cases hx
    | mv hm hr0=>
     cases hr0
     rw[List.append_nil] at hF ⊢
     cases hx with
     | mp _ _ _ _ _ hp=>
      have hv:=hp _ ho
      subst hv
      have hf:=Zx.1 ho
      obtain ⟨r2,c2⟩:=hR.bring (id:=id) (ver':=ver) (o':=.map kt vt l) (h':=ρ id) (.inl ⟨_,hf,rfl,_,rfl⟩) rfl (fun _ _=>trivial) (fun b hbb=>hF.left.out b hbb) hm
      obtain ⟨ρ3,r3,c4⟩:=ZjF xs ys us h r2 (hr.mono (Keeps.refl _ _) c2.ref) t2 (hF.right c2)
      exact ⟨ρ3,r3,c2.trans c4 (fun c hc=>by simp[hc]) (fun c hc=>by simp[hc])⟩
   ·cases h
  ·cases t1 with
   | top hr0=>
    cases hr0
    exact ZjF xs ys us h hR hr t2 hF
   | flat hx=>cases hx
  ·cases h
end
end Go.Ev
end

section
namespace Go.Ev
variable [Tabs] [Orgs]
open Go
section
variable {P:Program} {Mod:Nat→Prop} {o:Oper} {st:St} {F:Nat→Prop} {ρ:Rho} {w:World} {tm:Array Value}
theorem ZqP {u v:Value} (h:ARep F ρ w st (.cst u) v):v=u:=by cases h;rfl
theorem ZeN:∀ {l:List Id},nodupB l=true→l.Nodup
 | [],_=>.nil
 | x :: r,h=>by
  simp only[nodupB,Bool.and_eq_true,Bool.not_eq_true'] at h
  refine List.nodup_cons.2 ⟨fun hm=>?_,ZeN h.2⟩
  have:=h.1
  rw[List.any_eq_false] at this
  exact this x hm (Nat.beq_refl x)
theorem ZlE {is os:List Id} (h:apartB is os=true):∀id∈os,id∉is:=by
 intro id hid hm
 have:=List.all_eq_true.1 h id hid
 simp only[Bool.not_eq_true'] at this
 rw[List.any_eq_false] at this
 exact this id hm (Nat.beq_refl id)
theorem ZeE:∀(is:List Id) {st:St} {id:Id},id∉is→find id (st.lock is).ob=find id st.ob
 | [],_,_,_=>rfl
 | x :: r,st,id,h=>by
  have hx:id≠x:=fun e=>h (by simp[e])
  have hr:id∉r:=fun e=>h (by simp[e])
  unfold St.lock
  split
  ·rw[ZeE r hr,Zq,if_neg hx]
  ·rw[ZeE r hr,Zq,if_neg hx]
  ·rw[ZeE r hr,Zq,if_neg hx]
  ·exact ZeE r hr
theorem Zgp {ids:List Id} {b:Nat} :b∈blocks ρ ids↔∃id∈ids,b∈hb (ρ id):=by
 simp only[blocks,List.mem_flatMap]
theorem ZfD (hR:R Mod F ρ w st tm):∀ {os:List Id},os.Nodup→(∀id∈os,∃ver o,find id st.ob=some (ver,o)∧o.free=true)→(blocks ρ os).Nodup
 | [],_,_=>.nil
 | id :: r,hn,ho=>by
  have hnid:(hb (ρ id)).Nodup:=by
   obtain ⟨v1,o1,f1,r1⟩:=ho id (by simp)
   have:=hR.obs _ _ _ f1
   cases o1 with
   | deep E d l=>exact this.1
   | gone tg=>cases r1
   | box T cs tg=>obtain ⟨_,b,arr,e,_⟩:=this;rw[e];simp[hb]
   | row E t l lk=>obtain ⟨cells,hown,_⟩:=this;rcases hown.2 with ⟨e,_⟩ | ⟨g,off,cap,cur,e,_⟩ <;> rw[e] <;> simp[hb]
   | map kt vt l=>obtain ⟨r,es,clock,e,_⟩:=this;rw[e];simp[hb]
   | sit s p=>obtain ⟨r,e,_⟩:=this;rw[e];simp[hb]
  obtain ⟨hn1,hn2⟩:=List.nodup_cons.1 hn
  have ih:=ZfD hR hn2 fun i hi=>ho i (by simp[hi])
  have:blocks ρ (id :: r)=(hb (ρ id))++blocks ρ r:=by simp[blocks]
  rw[this]
  refine List.nodup_append.2 ⟨hnid,ih,fun a ha b hb' e=>?_⟩
  subst e
  obtain ⟨i,hi,hbi⟩:=Zgp.1 hb'
  have hba:a∈hb (ρ id):=by simpa using ha
  obtain ⟨v1,o1,f1,r1⟩:=ho id (by simp)
  obtain ⟨v2,o2,f2,r2⟩:=ho i (by simp[hi])
  have:=(hR.sep _ _ _ _ f1 r1 hba).2.2.2 _ _ _ f2 r2 hbi
  subst this
  exact hn1 hi
theorem ZqD {cl:Cl} {f:FuncId} {g:List Value→Array Value} (hcl:∀forms,Sat (cl f forms) fun ans=>Known P f∧CallG P f g forms ans) {xs:List AV} {evs:Act→List Value} (hrep:∀(F:Nat→Prop) (ρ:Rho) (w:World) (a:Act),R Mod F ρ w st a.tmps→CsRep F ρ w st xs (evs a))
  (hexec:∀(F:Nat→Prop) (ρ:Rho) (w:World) (a:Act),R Mod F ρ w st a.tmps→Known P f→(execOp a.eval o).run P w=.ok (.enter f (g (evs a))) w):
  Sat (callA cl f xs o.dst st) (OpOK P Mod o st):=by
 unfold callA
 split
 ·exact Sat.fail
 rename_i forms is os hg
 refine Sat.cond (fun hb0=>?_) fun _=>Sat.fail
 simp only[Bool.and_eq_true] at hb0
 have hnd:=ZeN hb0.1
 have hap:=ZlE hb0.2
 refine Sat.bind (hcl forms) fun ans hans=>?_
 obtain ⟨r,outs⟩:=ans
 obtain ⟨hknown,hans⟩:=hans
 simp only
 split
 ·exact Sat.fail
 rename_i st2 hback
 have key:(∀F ρ w (a:Act),R Mod F ρ w st a.tmps→∀F2 ρ2 w2 v Lr,R Mod F2 ρ2 w2 st2 a.tmps→Evo Mod F w F2 w2→TReps F2 w2 [r] [v] Lr→Fr Mod F2 ρ2 w2 st2 Lr→∀st3,(∃ρ3,R Mod F2 ρ3 w2 st3 (a.put o.dst v).tmps)→True):=fun _ _ _ _ _ _ _ _ _ _ _ _ _ _ _ _=>trivial
 clear key
 have main:∀st3:St,(∀F ρ w (a:Act) v Lr,R Mod F ρ w st2 a.tmps→TReps F w [r] [v] Lr→Fr Mod F ρ w st2 Lr→∃ρ',R Mod F ρ' w st3 (a.put o.dst v).tmps)→OpOK P Mod o st st3:=by
  intro st3 h3 F ρ w a Q hR hdef
  have hargs:CsRep F ρ w st xs (evs a):=hrep F ρ w a hR
  obtain ⟨F1,hR1,hE1,href1,hF1⟩:=Zb7 is hR
  obtain ⟨hT,hok⟩:=Zkd (F1:=F1) (H:=fun is=>takes cl f=true∨rowsIn st ρ F1 is) (fun a b h=>⟨h.imp id fun h i hi=>h i (by simp[hi]),h.imp id fun h i hi=>h i (by simp[hi])⟩) _ hg hargs (fun x _ v y is' os' hg' hi' hxv=>Zic hR hE1.more 6 (takes cl f) x v y is' os' hg' hi' hxv) (.inr hF1)
  have hfree1:∀id∈os,∃ver o,find id (st.lock is).ob=some (ver,o)∧o.free=true:=fun id hid=>by
   rw[ZeE is (hap id hid)]
   exact hok.1 id hid
  have hLn:(blocks ρ os).Nodup:=ZfD hR hnd hok.1
  have hL:∀b∈blocks ρ os,¬F1 b∧b < w.heap.size∧Mod b:=fun b hb'=>by
   obtain ⟨id,hid,hbi⟩:=Zgp.1 hb'
   obtain ⟨ver,ob,hf,hfr⟩:=hfree1 id hid
   obtain ⟨s1,s2,s3,_⟩:=hR1.sep _ _ _ _ hf hfr hbi
   exact ⟨s1,s3,s2⟩
  have hcall:=hans F1 w (evs a) (blocks ρ os) hT hLn (fun b hb'=>⟨(hL b hb').1,(hL b hb').2.1⟩) hR1.low hR1.tabs
  have hrun:=hexec F ρ w a hR hknown
  unfold Oper.wp
  rw[hrun,Oper.upon_enter]
  refine Calls.mono hcall fun e w' he=>?_
  cases e with
  | panicked ch=>exact he.elim
  | outgrown=>exact he.elim
  | returned v=>
   obtain ⟨F',Lr,Lo,hE,hlow',hTr,hTo,hnd',hfresh⟩:=he
   have fin:∀(stb:St) (Fb F2:Nat→Prop),R Mod Fb ρ w stb a.tmps→Evo Mod F w Fb w→Ref st ρ stb ρ→(∀b,Fb b→F1 b)→(∀id∈os,find id stb.ob=find id st.ob)→
     Evo (ModC (blocks ρ os) w) Fb w F2 w'→(∀b,F2 b→F' b)→TReps F2 w' [r] [v] Lr→TReps F2 w' outs (evs a) Lo→
     backA (dropIds os stb) (xs.zip outs)=some st2→OpPost Mod F w st3 (a.put o.dst v) w':=by
    intro stb Fb F2 hRb hEb hrefb hFb hosb hE2 hF2 hTr2 hTo2 hbk
    obtain ⟨d1,d2,d3,d4,d5⟩:=ZjI os hRb
    have hheld:∀b,held (dropIds os stb) ρ b→b∉blocks ρ os∧b < w.heap.size:=fun b hh=>by
     obtain ⟨i,ver,ob,hf,hfr,hbi,hni⟩:=d4 b hh
     refine ⟨fun hm=>?_,(hRb.sep _ _ _ _ hf hfr hbi).2.2.1⟩
     obtain ⟨j,hj,hbj⟩:=Zgp.1 hm
     obtain ⟨ver2,ob2,hf2,hfr2⟩:=hok.1 j hj
     rw[←hosb j hj] at hf2
     have:=(hRb.sep _ _ _ _ hf2 hfr2 hbj).2.2.2 _ _ _ hf hfr hbi
     subst this
     exact hni hj
    have hMod:∀b,ModC (blocks ρ os) w b→Mod b:=fun b hb'=>hb'.elim (fun hm=>(hL b hm).2.2) (hR.hi b)
    obtain ⟨w1,w2⟩:=d1.world hE2 hMod (fun b hh hm=>by
     obtain ⟨h1,h2⟩:=hheld b hh
     rcases hm with hm | hm
     ·exact h1 hm
     ·omega) (fun b hb'=>hlow' b (hF2 b hb'))
    have hfr:Fr Mod F2 ρ w' (dropIds os stb) (Lo++Lr):=⟨hnd',fun b hb'=>by
     obtain ⟨k1,k2,k3⟩:=hfresh b hb'
     refine ⟨fun hF=>k1 (hF2 b hF),hMod b k2,k3,fun hh=>?_⟩
     obtain ⟨h1,h2⟩:=hheld b hh
     rcases k2 with k2 | k2
     ·exact h1 k2
     ·omega⟩
    have hk:Keeps Fb w F2 w':=hE2.keeps hRb.low
    have hargs2:CsRep F2 ρ w' (dropIds os stb) xs (evs a):=(hargs.mono ⟨hEb.more,fun _ _=>rfl⟩ hrefb).mono hk d2
    obtain ⟨ρ3,r3,c3⟩:=ZjF _ _ _ hbk w1 hargs2 hTo2 hfr.left
    obtain ⟨ρ4,r4⟩:=h3 F2 ρ3 w' a v Lr r3 hTr2 (hfr.right c3)
    exact ⟨by rw[Zac];exact hdef,F2,ρ4,r4,hEb.trans w2⟩
   show OpPost Mod F w st3 (a.put o.dst v) w'
   cases hsl:(hasSl 6 r || hasSl.anyB (hasSl 6) outs) with
   | true=>
    rw[hsl] at hback
    exact fin (st.lock is) F1 F' hR1 hE1 href1 (fun _ h=>h) (fun id hid=>ZeE is (hap id hid)) hE (fun _ h=>h) hTr hTo hback
   | false=>
    rw[hsl] at hback
    simp only[Bool.or_eq_false_iff] at hsl
    refine fin st F (fun b=>F' b∧(F1 b→F b)) hR (Evo.refl _ _ _) Ref.refl hE1.more (fun _ _=>rfl) ?_ (fun b hb'=>hb'.1) (hTr.noSl 6 (by simp[hasSl.anyB,hsl.1])) (hTo.noSl 6 hsl.2) hback
    refine ⟨hE.os,hE.tape,hE.output,hE.size,fun b hb'=>⟨hE.more b (hE1.more b hb'),fun _=>hb'⟩,fun b hb'=>?_,fun b hlt hF=>hE.same b hlt (hF.imp (hE1.more b) id)⟩
    exact (hE.new b hb'.1).imp hb'.2 id
 split
 ·rename_i hd
  refine Sat.pure (main st2 fun F ρ w a v Lr hr _ _=>⟨ρ,by rw[hd];exact hr⟩)
 ·rename_i d hd
  split
  ·rename_i v3 st3 him
   refine Sat.pure (main _ fun F ρ w a v Lr hr hT hF=>?_)
   obtain ⟨ρ',r',a',c'⟩:=Zmm 6 st2 ρ _ r v3 v st3 Lr him hr hT hF
   exact ⟨ρ',by rw[hd];exact R.put (a:=a) r' a' (some d)⟩
  ·exact Sat.fail
theorem Zps {cl:Cl} (hcl:Spec P cl) {f:FuncId} {xs:List AV} {evs:Act→List Value} (hrep:∀(F:Nat→Prop) (ρ:Rho) (w:World) (a:Act),R Mod F ρ w st a.tmps→CsRep F ρ w st xs (evs a))
  (hexec:∀(F:Nat→Prop) (ρ:Rho) (w:World) (a:Act),R Mod F ρ w st a.tmps→Known P f→(execOp a.eval o).run P w=.ok (.enter f (evs a).toArray) w):
  Sat (callA cl f xs o.dst st) (OpOK P Mod o st):=
 ZqD (g:=List.toArray) (fun forms k y h=>(hcl f forms k y h).imp fun ans h=>⟨⟨h.1.1,h.1.2.1⟩,h.2⟩) hrep hexec
theorem Zum {id ver off:Nat} {ob:Obj} (hob:st.obj id ver=some ob) {v1 v2:Value} (h1:ARep F ρ w st (.pt id ver off) v1) (h2:ARep F ρ w st (.pt id ver off) v2):v1=v2:=by
 cases h1 with
 | pt _ _ _ _ _ _ h1=>
  cases h2 with
  | pt _ _ _ _ _ _ h2=>
   obtain ⟨b1,e1,f1⟩:=h1 ob hob
   obtain ⟨b2,e2,f2⟩:=h2 ob hob
   rw[e1] at e2
   cases e2
   rw[f1,f2]
theorem Znu {xs:List AV} {x:AV} (h:same2 xs=some x):∃i v,xs=[.pt i v 0,.pt i v 0]∧x=.pt i v 0:=by
 unfold same2 at h
 split at h
 ·rename_i i v j u
  cases hb:(Nat.beq i j&&Nat.beq v u) with
  | false=>rw[hb] at h;cases h
  | true=>
   rw[hb] at h
   rw[Bool.and_eq_true] at hb
   obtain rfl:=Nat.eq_of_beq_eq_true hb.1
   obtain rfl:=Nat.eq_of_beq_eq_true hb.2
   cases h
   exact ⟨i,v,rfl,rfl⟩
 ·cases h
theorem Zsk {cl:Cl} (hcl:Spec P cl) {f:FuncId} {xs:List AV} {evs:Act→List Value} (hrep:∀(F:Nat→Prop) (ρ:Rho) (w:World) (a:Act),R Mod F ρ w st a.tmps→CsRep F ρ w st xs (evs a))
  (hexec:∀(F:Nat→Prop) (ρ:Rho) (w:World) (a:Act),R Mod F ρ w st a.tmps→Known P f→(execOp a.eval o).run P w=.ok (.enter f (evs a).toArray) w):
  Sat (callX cl f xs o.dst st) (OpOK P Mod o st):=by
 unfold callX
 cases hs:same2 xs with
 | none=>exact Zps hcl hrep hexec
 | some x=>
  obtain ⟨i,v,rfl,rfl⟩:=Znu hs
  simp only
  cases hob:st.obj i v with
  | none=>
   unfold callA
   have:allG (give st (takes (sameCl cl) f) 6) [.pt i v 0]=none:=by simp only[allG,give,hob];rfl
   rw[this]
   exact Sat.fail
  | some ob=>
   refine ZqD (cl:=sameCl cl) (g:=twice) (fun forms k y h=>?_) (evs:=fun a=>(evs a).take 1) (fun F ρ w a hR=>?_) fun F ρ w a hR hk=>?_
   ·obtain ⟨ans,h1,h2⟩:=hcl f (.pt 0 0 1 :: forms) k y h
    exact ⟨ans,⟨h1.1,h1.2.2 forms rfl⟩,h2⟩
   ·have h:=hrep F ρ w a hR
    generalize evs a=e at h
    match e,h with
    | [v1,v2],h=>exact .cons (h.2 0 _ v1 rfl rfl) .nil
    | [],h=>exact absurd h.1 (by simp)
    | [_],h=>exact absurd h.1 (by simp)
    | _ :: _ :: _ :: _,h=>exact absurd h.1 (by simp)
   ·have h:=hrep F ρ w a hR
    have e:(evs a).toArray=twice ((evs a).take 1):=by
     generalize evs a=e at h
     match e,h with
     | [v1,v2],h=>
      have:=Zum hob (h.2 0 _ v1 rfl rfl) (h.2 1 _ v2 rfl rfl)
      subst this
      rfl
     | [],h=>exact absurd h.1 (by simp)
     | [_],h=>exact absurd h.1 (by simp)
     | _ :: _ :: _ :: _,h=>exact absurd h.1 (by simp)
    rw[←e]
    exact hexec F ρ w a hR hk
theorem Zsp {cl:Cl} (hcl:Spec P cl) {c:Call} {x:Operand} {f:FuncId} (h:o.op=.call c) (hc:c.callee=.value x) (hx:st.ev x=.cst (.func (.func f) #[] #[])):
  Sat (callX cl f (asArg st c.args.toList) o.dst st) (OpOK P Mod o st):=
 Zsk hcl (evs:=fun a=>c.args.toList.map a.eval) (fun F ρ w a hR=>ZdT hR _) fun F ρ w a hR ⟨fn,body,hfn,hname,hbody⟩=>by
  have hf0:=Zv hR x
  rw[hx] at hf0
  have hev:a.eval x=.func (.func f) #[] #[]:=ZqP hf0
  have he:(c.args.toList.map a.eval).toArray=c.args.map a.eval:=by apply Array.ext';simp
  rw[he]
  have hn:¬fn.name= "runtime.NumGoroutine" :=by simpa using hname
  simp[execOp,h,resolve,hc,hev,Deferred.ofValue,invoke,callFunc,hfn,hn,hbody]
def capsOf:Value→List Value
 |.func _ _ vs=>vs.toList
 | _=>[]
theorem Zsz {cl:Cl} (hcl:Spec P cl) {c:Call} {x:Operand} {f:FuncId} {cs:List AV} (h:o.op=.call c) (hc:c.callee=.value x) (hx:st.ev x=.fn f cs):
  Sat (callA cl f (asArg st c.args.toList++cs) o.dst st) (OpOK P Mod o st):=by
 have hfn:∀(F:Nat→Prop) (ρ:Rho) (w:World) (a:Act),R Mod F ρ w st a.tmps→∃vs:Array Value,a.eval x=.func (.func f) #[] vs∧CsRep F ρ w st cs vs.toList:=fun F ρ w a hR=>by
  have hf0:=Zv hR x
  rw[hx] at hf0
  generalize a.eval x=u at hf0
  cases hf0 with
  | fn _ _ vs hl hall=>exact ⟨vs,rfl,by simpa using hl,fun i c v h1 h2=>hall i c v h1 (by simpa using h2)⟩
 refine Zps hcl (evs:=fun a=>c.args.toList.map a.eval++capsOf (a.eval x)) (fun F ρ w a hR=>?_) fun F ρ w a hR ⟨fn,body,hfn1,hname,hbody⟩=>?_
 ·obtain ⟨vs,e,hvs⟩:=hfn F ρ w a hR
  rw[e]
  exact (ZdT hR _).append hvs
 ·obtain ⟨vs,e,hvs⟩:=hfn F ρ w a hR
  have hn:¬fn.name= "runtime.NumGoroutine" :=by simpa using hname
  have he:(c.args.toList.map a.eval++capsOf (a.eval x)).toArray=c.args.map a.eval++vs:=by apply Array.ext';simp[e,capsOf]
  rw[he]
  simp[execOp,h,resolve,hc,e,Deferred.ofValue,invoke,callFunc,hfn1,hn,hbody]
theorem Zrb {cl:Cl} {f:FuncId} {first caps:Array Operand} (h:o.op=.makeFunc (.func f) first caps):Sat (opA P cl o st) (OpOK P Mod o st):=by
 simp only[opA,h]
 refine Sat.cond (fun he=>Sat.pure (ZD fun F ρ w a hR=>?_)) fun _=>Sat.fail
 have he:first= #[]:=by simpa using he
 subst he
 have hr:=ZdT hR caps.toList
 refine ⟨.func (.func f) #[] (caps.map a.eval),by simp[execOp,h,Instr.makeFunc],.fn _ _ _ (by simpa using hr.1) fun i c v h1 h2=>hr.2 i c v h1 (by simpa using h2)⟩
end
end Go.Ev
end

section
namespace Go.Ev
variable [Tabs] [Orgs]
open Go
section
variable {P:Program} {Mod:Nat→Prop} {o:Oper} {st:St} {F:Nat→Prop} {ρ:Rho} {w:World} {tm:Array Value}
theorem Zkn {cl:Cl} (hcl:Spec P cl):Sat (opA P cl o st) (OpOK P Mod o st):=by
 cases h:o.op with
 | move x=>exact Zt5 h
 | assign x=>exact Zsq h
 | pick c a b=>exact Zt3 h
 | alloc T=>exact Zty h
 | box T x=>exact Zui h
 | build T ps=>exact Zto h
 | buildSlice T n ps=>exact Zow h
 | load T x=>exact Zt6 h
 | store T x v=>exact Zs9 h
 | nilCheck x=>exact Zrd h
 | binOp op T x y T'=>exact Zuk h
 | unOp op T x=>exact Zun h
 | convert a b x=>exact Zr5 h
 | makeInterface T x=>exact Ztt h
 | makeMap T r=>cases r with
  | none=>exact Zr3 h
  | some r=>simp only[opA,h];exact Sat.fail
 | makeSlice T n c=>exact ZpZ h
 | slice T x lo hi mx=>cases mx with
  | none=>exact ZtB h
  | some m=>simp only[opA,h];exact Sat.fail
 | fieldAddr S x j=>exact Zqk h
 | field T x j=>exact ZtK h
 | indexAddr T x i=>exact Zp2 h
 | index T x i=>exact Ztw h
 | lookup T x k ok=>exact Zsw h
 | mapUpdate T x k v=>exact ZpU h
 | range T x=>exact Ztj h
 | next x s=>cases s with
  | true=>exact ZtW h
  | false=>simp only[opA,h];exact Sat.fail
 | typeAssert x T0 T ok=>exact Zsg h
 | makeFunc fn first caps=>cases fn with
  | func f=>exact Zrb h
  | _=>simp only[opA,h];exact Sat.fail
 | extract x j=>exact Zr4 h
 | call c=>
  cases hc:c.callee with
  | builtin b=>cases b with
   | len=>exact Zuj h hc
   | append=>exact Zsr h hc
   | min=>exact ZpC h (.inl hc)
   | max=>exact ZpC h (.inr hc)
   | _=>simp only[opA,h,hc];exact Sat.fail
  | value x=>
   simp only[opA,h,hc]
   split
   ·rename_i f first caps hx
    refine Sat.cond (fun he=>?_) fun _=>Sat.fail
    simp only[Bool.and_eq_true,Array.isEmpty_iff] at he
    obtain ⟨rfl,rfl⟩:=he
    exact Zsp hcl h hc hx
   ·rename_i f cs hx
    exact Zsz hcl h hc hx
   ·exact Sat.fail
  | invoke r m=>simp only[opA,h,hc];exact Sat.fail
 | _=>simp only[opA,h];exact Sat.fail
def Rel (Mod F0:Nat→Prop) (w0:World) (st:St) (a:Act) (w:World):Prop:=a.defers=[]∧∃F ρ,R Mod F ρ w st a.tmps∧Evo Mod F0 w0 F w
theorem Zse {m:M St} (hm:Sat m (OpOK P Mod o st)) {F0:Nat→Prop} {w0:World} {a:Act} {y:Ans} {k:St→Option Ans} (h:m k=some y) (hr:Rel Mod F0 w0 st a w) (Q:Exit→Act→World→Prop):
  o.wp P a w (fun a' w'=>∃st',Rel Mod F0 w0 st' a' w'∧k st'=some y) Q:=by
 obtain ⟨st',hok,hk⟩:=hm k y h
 obtain ⟨hd,F,ρ,hR,hE⟩:=hr
 refine Oper.wp_mono (fun a' w' h'=>?_) (hok F ρ w a Q hR hd)
 obtain ⟨hd',F',ρ',hR',hE'⟩:=h'
 exact ⟨st',⟨hd',F',ρ',hR',hE.trans hE'⟩,hk⟩
theorem ZsK {cl:Cl} (hcl:Spec P cl) {F0:Nat→Prop} {w0:World} {a:Act} {y:Ans} {k:St→Option Ans} (h:opA P cl o st k=some y) (hr:Rel Mod F0 w0 st a w) (Q:Exit→Act→World→Prop):
  o.wp P a w (fun a' w'=>∃st',Rel Mod F0 w0 st' a' w'∧k st'=some y) Q:=Zse (Zkn hcl) h hr Q
theorem ZqF {a:Act} {F0:Nat→Prop} {w0:World} (hr:Rel Mod F0 w0 st a w) (d:Option Nat):Rel Mod F0 w0 (st.put d sk) (a.put d undef) w:=by
 obtain ⟨hd,F,ρ,hR,hE⟩:=hr
 exact ⟨by rw[Zac];exact hd,F,ρ,R.put hR (.cst _) d,hE⟩
theorem ZnY {st:St} {t:Nat} {x:AV} (h:st.tm.getD t .top=x) (hx:x≠ .top):st.tm.set t x=st.tm:=by
 apply List.ext_getElem?
 intro i
 rw[List.getElem?_set]
 split
 ·rename_i hi
  subst hi
  rw[List.getD_eq_getElem?_getD] at h
  cases he:st.tm[t]? with
  | none=>rw[he] at h;exact absurd h.symm hx
  | some z=>
   rw[he] at h
   simp only[Option.getD_some] at h
   subst h
   rw[if_pos (List.getElem?_eq_some_iff.1 he).1]
 ·rfl
theorem Zih {op:Oper→St→M St} (hop:∀(o:Oper) (st:St),Sat (op o st) (OpOK P Mod o st)) {F0:Nat→Prop} {w0:World} {y:Ans} {ops:Array Oper} {k:St→Option Ans} {Q:Exit→Act→World→Prop}
  (hQ:∀st a w,Rel Mod F0 w0 st a w→k st=some y→Q .normal a w):
  ∀(l:List Oper) (i:Nat) (st:St) (a:Act) (w:World),ops.toList.drop i=l→opsG op ops l st k=some y→Rel Mod F0 w0 st a w→wpOps P ops Q (List.range' i l.length) a w
 | [],i,st,a,w,_,h,hr=>hQ st a w hr h
 | o :: r,i,st,a,w,hl,h,hr=>by
  have ho:ops[i]? =some o:=by
   have:(ops.toList.drop i)[0]? =some o:=by rw[hl];rfl
   simpa using this
  have hl':ops.toList.drop (i+1)=r:=by rw[←List.tail_drop,hl];rfl
  rw[List.length_cons,List.range'_succ,wpOps_cons]
  unfold wpOp
  simp only[ho]
  have run:(op o st) (fun st=>opsG op ops r st k)=some y→o.wp P a w (wpOps P ops Q (List.range' (i+1) r.length)) Q:=fun h=>by
   refine Oper.wp_mono (fun a' w' h'=>?_) (Zse (hop o st) h hr Q)
   obtain ⟨st',hr',hk⟩:=h'
   exact Zih hop hQ r (i+1) st' a' w' hl' hk hr'
  cases hg:o.guard with
  | none=>
   simp only[opsG,hg] at h
   have hw:Region.wanted o (yielded ops a.tmps)=true:=by unfold Region.wanted;rw[hg]
   rw[if_pos hw]
   exact .inl (run h)
  | some jw=>
   obtain ⟨j,want⟩:=jw
   cases ht:(ops[j]?).bind (·.dst) with
   | none=>simp only[opsG,hg,ht] at h;cases h
   | some t=>
    cases hb:st.tm.getD t .top with
    | d T b=>
     cases T with
     | bool=>
      have hset:({ st with tm:=st.tm.set t (.d .bool b) } :St)=st:=by
       cases st with
       | mk tmm obb=>simp only[St.mk.injEq,and_true];exact ZnY (st:=⟨tmm,obb⟩) hb (by simp)
      have hy:yielded ops a.tmps j=some b:=by
       obtain ⟨_,F,ρ,hR,_⟩:=hr
       have h1:=Zv hR (.tmp t)
       simp only[St.ev] at h1
       rw[hb] at h1
       have h2:=Zdb h1
       simp only[Act.eval] at h2
       unfold yielded
       rw[ht]
       simp only[Option.bind_some]
       rw[Array.getD_eq_getD_getElem?] at h2
       cases he:a.tmps[t]? with
       | none=>rw[he] at h2;simp[undef] at h2
       | some v=>rw[he] at h2;simp only[Option.getD_some] at h2;rw[h2]
      simp only[opsG,hg,ht,hb] at h
      cases b <;> cases want <;> simp only[M.bind,branch,cond_true,cond_false] at h <;> rw[hset] at h
      ·have hw:Region.wanted o (yielded ops a.tmps)=true:=by unfold Region.wanted;rw[hg];simp only[hy];rfl
       rw[if_pos hw]
       exact .inl (run h)
      ·have hw:¬Region.wanted o (yielded ops a.tmps)=true:=by unfold Region.wanted;rw[hg];simp only[hy];decide
       rw[if_neg hw]
       exact Zih hop hQ r (i+1) _ _ w hl' h (ZqF hr o.dst)
      ·have hw:¬Region.wanted o (yielded ops a.tmps)=true:=by unfold Region.wanted;rw[hg];simp only[hy];decide
       rw[if_neg hw]
       exact Zih hop hQ r (i+1) _ _ w hl' h (ZqF hr o.dst)
      ·have hw:Region.wanted o (yielded ops a.tmps)=true:=by unfold Region.wanted;rw[hg];simp only[hy];rfl
       rw[if_pos hw]
       exact .inl (run h)
     | _=>simp only[opsG,hg,ht,hb] at h;cases h
    | cst u=>
     simp only[opsG,hg,ht,hb] at h
     cases hn:notBool u with
     | false=>rw[hn] at h;cases h
     | true=>
      rw[hn] at h
      have hy:yielded ops a.tmps j=none:=by
       obtain ⟨_,F,ρ,hR,_⟩:=hr
       have h1:=Zv hR (.tmp t)
       simp only[St.ev] at h1
       rw[hb] at h1
       have h2:=ZqP h1
       simp only[Act.eval] at h2
       unfold yielded
       rw[ht]
       simp only[Option.bind_some]
       rw[Array.getD_eq_getD_getElem?] at h2
       cases he:a.tmps[t]? with
       | none=>rfl
       | some v=>
        rw[he] at h2
        simp only[Option.getD_some] at h2
        subst h2
        cases v <;> first | rfl | (simp[notBool] at hn)
      have hw:¬Region.wanted o (yielded ops a.tmps)=true:=by unfold Region.wanted;rw[hg];simp only[hy];cases want <;> decide
      rw[if_neg hw]
      exact Zih hop hQ r (i+1) _ _ w hl' h (ZqF hr o.dst)
    | _=>simp only[opsG,hg,ht,hb] at h;cases h
theorem Ztp {cl:Cl} (hcl:Spec P cl) {F0:Nat→Prop} {w0:World} {y:Ans} {ops:Array Oper} {k:St→Option Ans} {Q:Exit→Act→World→Prop}
  (hQ:∀st a w,Rel Mod F0 w0 st a w→k st=some y→Q .normal a w):
  ∀(l:List Oper) (i:Nat) (st:St) (a:Act) (w:World),ops.toList.drop i=l→opsA P cl ops l st k=some y→Rel Mod F0 w0 st a w→wpOps P ops Q (List.range' i l.length) a w:=
 Zih (fun _ _=>Zkn hcl) hQ
end
end Go.Ev
end

section
namespace Go.Ev
variable [Tabs] [Orgs]
open Go
section
variable {P:Program} {Mod:Nat→Prop} {o:Oper} {st:St} {F F1:Nat→Prop} {ρ:Rho} {w:World} {tm:Array Value}
def mkG (g:Value) (B:List Nat):Value:=.tuple #[g,.tuple (B.map fun b=>Value.map (some b)).toArray]
theorem ZsZ (g:Value) (B:List Nat):hb (mkG g B)=B:=by
 show (B.map fun b=>Value.map (some b)).toArray.toList.flatMap hb1=B
 rw[List.toList_toArray]
 induction B with
 | nil=>rfl
 | cons b r ih=>rw[List.map_cons,List.flatMap_cons,ih];rfl
theorem Zuf (g:Value) (B:List Nat):gv (mkG g B)=g:=rfl
def mkT (h:Value) (ks:List Value):Value:=.tuple (h :: ks).toArray
theorem ZsI (h:Value) (ks:List Value):gv (mkT h ks)=h:=rfl
theorem ZsD (h:Value) (ks:List Value) (i:Nat):gk (mkT h ks) i=ks.getD i undef:=by
 show ((h :: ks).toArray).getD (i+1) undef=_
 simp[Array.getD_eq_getD_getElem?,List.getD_eq_getElem?_getD]
theorem RowRep.deep {E:TypeId} {t:Ty} {l:List (El t)} {v:Value} (h:RowRep F w E t l v) {g:Value} (hg:gv g=v):DRow F w E (.leaf t) g l (hb v):=by
 obtain ⟨cells,hown,hl⟩:=h
 refine ⟨cells,List.replicate l.length [],by rw[hg];exact hown,by simp,?_,fun i x hx=>?_⟩
 ·rw[hg,Ze8 hown];simp
 ·obtain ⟨cs,h1,h2⟩:=hl i x hx
  exact ⟨cs,[],by simp[(List.getElem?_eq_some_iff.1 hx).1],⟨h1,rfl⟩,h2⟩
theorem CsRep.split {cs:List AV} {vs:List Value} (h:CsRep F ρ w st cs vs) (n:Nat):∃v1 v2,vs=v1++v2∧CsRep F ρ w st (cs.take n) v1∧CsRep F ρ w st (cs.drop n) v2:=⟨vs.take n,vs.drop n,(List.take_append_drop n vs).symm,h.take n,h.drop n⟩
theorem ZlM (hR:R Mod F ρ w st tm) {st':St} (hk:Keeps F w F1 w) (hr:Ref st ρ st' ρ):∀ {d:DTy} {cs rest:List AV} {x:El d.ty} {is ms:List Id} {vs:List Value},packD st d cs=some (x,rest,is,ms)→CsRep F ρ w st cs vs→
  (∀id∈is,∀v o,find id st.ob=some (v,o)→isRow o=true→∀b,b∈hb (ρ id)→F1 b)→
  ∃(v1 v2:List Value) (gs:List Value),vs=v1++v2∧CsRep F ρ w st rest v2∧gs.length=d.ty.cells∧(∀g k0,(∀m u,gs[m]? =some u→gk g (k0+m)=u)→ERep F1 w d g k0 x v1 (blocks ρ ms))∧∀id∈ms,∃ver o,find id st.ob=some (ver,o)∧o.free=true
 |.leaf t,cs,rest,x,is,ms,vs,h,hc,hF=>by
  simp only[packD] at h
  obtain ⟨⟨as,i1⟩,h1,h⟩:=Option.bind_eq_some_iff.1 h
  obtain ⟨y,h2,h⟩:=Option.map_eq_some_iff.1 h
  simp only[Prod.mk.injEq] at h
  obtain ⟨rfl,rfl,rfl,rfl⟩:=h
  obtain ⟨v1,v2,rfl,c1,c2⟩:=hc.split t.cells
  have h3:=ZaT h2 (Ze6 hR hk hr h1 c1 hF)
  exact ⟨v1,v2,List.replicate t.cells undef,rfl,c2,by simp,fun g k0 _=>⟨h3,rfl⟩,fun _ h=>by cases h⟩
 |.ro d,[],_,_,_,_,_,h,_,_=>by simp only[packD] at h;cases h
 |.ro d,c :: cs,rest,x,is,ms,vs,h,hc,hF=>by
  match vs,hc.1 with
  | v :: vs,hl=>
   have hv:ARep F ρ w st c v:=hc.2 0 c v rfl rfl
   have hvs:CsRep F ρ w st cs vs:=⟨by simpa using hl,fun i c u a b=>hc.2 (i+1) c u a b⟩
   simp only[packD] at h
   split at h
   ·cases h
    cases hv
    exact ⟨[_],vs,[.slice none 0 0],rfl,hvs,rfl,fun g k0 hg=>by
     have e:=hg 0 _ rfl
     rw[Nat.add_zero] at e
     exact ⟨by rw[e];rfl,0,[],[],by rw[e];exact Zim _ _ _,rfl,by rw[e];rfl,fun i x hx=>by simp at hx⟩,fun _ h=>by cases h⟩
   ·rename_i id ver
    split at h
    ·rename_i E t l ho
     split at h
     ·rename_i hd
      subst hd
      cases h
      have hf:=Zx.1 ho
      cases hv with
      | own _ _ _ _ hbn h1 hp=>
       obtain ⟨_,A,c,hρ,rfl⟩:=hp _ _ _ _ ho
       have hrow:RowRep F w E t l (ρ id):=hR.obs id ver _ hf
       refine ⟨[_],vs,[ρ id],rfl,hvs,rfl,fun g k0 hg=>?_,fun i hi=>?_⟩
       ·have e:=hg 0 _ rfl
        rw[Nat.add_zero] at e
        have e2:gv (gk g k0)=ρ id:=by rw[e,hρ];rfl
        refine ⟨by rw[e2,hρ];rfl,E,?_⟩
        have h3:=(hrow.deep (g:=gk g k0) e2).keep hk (fun _ _=>rfl)
        simpa[blocks] using h3
       ·rcases List.mem_cons.1 hi with rfl | hi
        ·exact ⟨_,_,hf,rfl⟩
        ·cases hi
     ·cases h
    ·cases h
   ·rename_i id ver
    split at h
    ·rename_i E d' l ho
     split at h
     ·rename_i hd
      subst hd
      cases h
      have hf:=Zx.1 ho
      cases hv with
      | dn _ _ _ _ hbn h1 hp=>
       obtain ⟨_,rfl⟩:=hp _ _ _ ho
       obtain ⟨hnd,hrow⟩:=hR.obs id ver _ hf
       refine ⟨[_],vs,[gv (ρ id)],rfl,hvs,rfl,fun g k0 hg=>?_,fun i hi=>?_⟩
       ·have e:=hg 0 _ rfl
        rw[Nat.add_zero] at e
        refine ⟨by rw[e];rfl,E,?_⟩
        have h3:=DRow.keep hk (fun _ _=>rfl) hrow
        rw[e]
        simpa[blocks] using h3
       ·rcases List.mem_cons.1 hi with rfl | hi
        ·exact ⟨_,_,hf,rfl⟩
        ·cases hi
     ·cases h
    ·cases h
   ·cases h
 |.pr a b,cs,rest,x,is,ms,vs,h,hc,hF=>by
  simp only[packD] at h
  obtain ⟨⟨y1,r1,i1,m1⟩,h1,h⟩:=Option.bind_eq_some_iff.1 h
  obtain ⟨⟨y2,r2,i2,m2⟩,h2,h⟩:=Option.map_eq_some_iff.1 h
  simp only[Prod.mk.injEq] at h
  obtain ⟨rfl,rfl,rfl,rfl⟩:=h
  obtain ⟨v1,v2,g1,rfl,c1,l1,e1,o1⟩:=ZlM hR hk hr h1 hc fun id hid=>hF id (by simp[hid])
  obtain ⟨v3,v4,g2,rfl,c2,l2,e2,o2⟩:=ZlM hR hk hr h2 c1 fun id hid=>hF id (by simp[hid])
  refine ⟨v1++v3,v4,g1++g2,by simp,c2,by simp[l1,l2,Ty.cells],fun g k0 hg=>⟨v1,v3,_,_,rfl,by simp[blocks],e1 g k0 fun m u hu=>?_,e2 g _ fun m u hu=>?_⟩,fun id hid=>?_⟩
  ·exact hg m u (by rw[List.getElem?_append_left (List.getElem?_eq_some_iff.1 hu).1];exact hu)
  ·have:=hg (a.ty.cells+m) u (by rw[List.getElem?_append_right (by omega),l1];simpa using hu)
   rw[←this];congr 1;omega
  ·rcases List.mem_append.1 hid with hid | hid
   ·exact o1 id hid
   ·exact o2 id hid
theorem ZnK (hR:R Mod F ρ w st tm) {st':St} (hk:Keeps F w F1 w) (hr:Ref st ρ st' ρ) {d:DTy} :∀ {n:Nat} {cs:List AV} {l:List (El d.ty)} {is ms:List Id} {vs:List Value},packDN st d n cs=some (l,is,ms)→CsRep F ρ w st cs vs→
  (∀id∈is,∀v o,find id st.ob=some (v,o)→isRow o=true→∀b,b∈hb (ρ id)→F1 b)→
  ∃(Bs:List (List Nat)) (gs:List Value),l.length=n∧vs.length=n*d.ty.cells∧Bs.length=n∧gs.length=n∧blocks ρ ms=Bs.flatten∧(∀id∈ms,∃ver o,find id st.ob=some (ver,o)∧o.free=true)∧
   ∀(i:Nat) x,l[i]? =some x→∃us Bi gi,Bs[i]? =some Bi∧gs[i]? =some gi∧ERep F1 w d gi 0 x us Bi∧∀j u,us[j]? =some u→vs[i*d.ty.cells+j]? =some u
 | 0,[],l,is,ms,vs,h,hc,_=>by
  simp only[packDN] at h
  cases h
  have:=hc.1
  simp at this
  exact ⟨[],[],rfl,by simp[this.symm],rfl,rfl,rfl,fun _ h=>(by cases h),fun i x hx=>by simp at hx⟩
 | 0,_ :: _,l,is,ms,vs,h,_,_=>by simp[packDN] at h
 | n+1,cs,l,is,ms,vs,h,hc,hF=>by
  simp only[packDN] at h
  obtain ⟨⟨y1,r1,i1,m1⟩,h1,h⟩:=Option.bind_eq_some_iff.1 h
  obtain ⟨⟨ys,i2,m2⟩,h2,h⟩:=Option.map_eq_some_iff.1 h
  simp only[Prod.mk.injEq] at h
  obtain ⟨rfl,rfl,rfl⟩:=h
  obtain ⟨v1,v2,g1,rfl,c1,l1,e1,o1⟩:=ZlM hR hk hr h1 hc fun id hid=>hF id (by simp[hid])
  obtain ⟨Bs,gs,a1,a2,a3,a4,a5,a6,a7⟩:=ZnK hR hk hr h2 c1 fun id hid=>hF id (by simp[hid])
  have he:=e1 (mkT undef g1) 0 fun m u hu=>by rw[Nat.zero_add,ZsD,List.getD_eq_getElem?_getD,hu];rfl
  have hv1:=he.length
  refine ⟨blocks ρ m1 :: Bs,mkT undef g1 :: gs,by simp[a1],by simp[hv1,a2,Nat.add_mul];omega,by simp[a3],by simp[a4],by simp[blocks,←a5],fun id hid=>?_,fun i x hx=>?_⟩
  ·rcases List.mem_append.1 hid with hid | hid
   ·exact o1 id hid
   ·exact a6 id hid
  ·cases i with
   | zero=>
    simp at hx
    subst hx
    exact ⟨v1,_,_,rfl,rfl,he,fun j u hu=>by rw[Nat.zero_mul,Nat.zero_add,List.getElem?_append_left (List.getElem?_eq_some_iff.1 hu).1];exact hu⟩
   | succ i=>
    simp at hx
    obtain ⟨us,Bi,gi,h3,h4,h5,h6⟩:=a7 i x hx
    refine ⟨us,Bi,gi,by simpa using h3,by simpa using h4,h5,fun j u hu=>?_⟩
    rw[List.getElem?_append_right (by rw[hv1,Nat.add_mul];omega)]
    rw[show (i+1)*d.ty.cells+j - v1.length=i*d.ty.cells+j by rw[hv1,Nat.add_mul];omega]
    exact h6 j u hu
end
end Go.Ev
end

section
namespace Go.Ev
variable [Tabs] [Orgs]
open Go
section
variable {P:Program} {Mod:Nat→Prop} {o:Oper} {st:St} {F F1:Nat→Prop} {ρ:Rho} {w:World} {tm:Array Value}
theorem ZnD {own:TypeId→Bool} {T E:TypeId} {d:DTy} {bytes:Nat} (h:elemD P own T=some (E,d,bytes)):Go.Ev.elemOf P T=some (E,d.ty,bytes):=by
 unfold elemD at h
 obtain ⟨⟨E',t,by'⟩,h1,h⟩:=Option.bind_eq_some_iff.1 h
 simp only at h
 cases ho:own E' with
 | false=>rw[ho] at h;cases h
 | true=>
  rw[ho] at h
  obtain ⟨d',h2,h⟩:=Option.bind_eq_some_iff.1 h
  split at h
  ·cases h
  ·split at h
   ·rename_i ht
    cases h
    rw[h1,ht]
   ·cases h
theorem Zsl {d0:Nat} (hd:o.dst=some d0) {st1:St} {id ver':Nat} {E:TypeId} {d:DTy} {l:List (El d.ty)}
  (h:∀F ρ w (a:Act),R Mod F ρ w st a.tmps→∃F1 v' w' tree B,R Mod F1 ρ w st1 a.tmps∧Evo Mod F w F1 w∧(execOp a.eval o).run P w=.ok (.value v') w'∧ver'=st1.nextVer id∧
   w'.os=w.os∧w'.tape=w.tape∧w'.output=w.output∧w.heap.size≤w'.heap.size∧(∀k,k < w.heap.size→(∀v o,find id st1.ob=some (v,o)→o.free=true→k∉hb (ρ id))→w'.heap[k]? =w.heap[k]?)∧
   (∀b∈B,¬F1 b∧Mod b∧b < w'.heap.size∧(∀i v o,i≠id→find i st1.ob=some (v,o)→o.free=true→b∉hb (ρ i)))∧B.Nodup∧v'=gv tree∧DRow F1 w' E d tree l B):
  OpOK P Mod o st ((st1.setOb id ver' (.deep E d l)).put (some d0) (.dn id ver' [])):=by
 intro F ρ w a Q hR hdef
 obtain ⟨F1,v',w',tree,B,hR1,hE1,hrun,hver,e1,e2,e3,e4,hsame,hB,hnd,rfl,hrow⟩:=h F ρ w a hR
 unfold Oper.wp
 rw[hrun]
 show OpPost Mod F w _ (a.put o.dst _) _
 rw[hd]
 have hset:=R.set' hR1 (w':=w') (id:=id) (ver':=ver') (o':=.deep E d l) (h':=mkG tree B) e1 e2 e3 e4 (.inr hver) hsame
  (fun _ b hbb=>by rw[ZsZ] at hbb;exact hB b hbb) (fun _ _ _ e=>by cases e) ⟨by rw[ZsZ];exact hnd,by rw[ZsZ,Zuf];exact hrow⟩
 obtain ⟨hR',hE⟩:=hset
 refine ⟨by rw[Zac];exact hdef,F1,_,R.put (a:=a) hR' (.dn _ _ _ _ Zco ?_ fun E2 d2 l2 ho=>⟨show okPath d2 l2 [] from trivial,?_⟩) (some d0),hE1.trans hE⟩
 ·obtain ⟨cells,Bs,hown,_⟩:=hrow
  rcases hown.2 with ⟨e,_⟩ | ⟨g,off,cap,cur,e,_⟩ <;> rw[e] <;> rfl
 ·simp only[updR,if_true]
  rfl
theorem ZmN {own:TypeId→Bool} {T:TypeId} {len:Nat} {parts:Array (Nat×Operand)} (h:o.op=.buildSlice T len parts) {E:TypeId} {d:DTy} {bytes:Nat} (hel:elemD P own T=some (E,d,bytes)) {s:Nat} {z:List AV} (hs:szOf P E=some s) (hz:zeroAV P E=some z)
  (hle:len*s≤16777216) {cs:List AV} (hfl:fillA (fun i=>some (i*s,s)) ((List.range (len*s)).map fun i=>z.getD (i % z.length) .top) (parts.toList.map fun p=>(p.1,st.ev p.2))=some cs)
  {l:List (El d.ty)} {is ms:List Id} (hp:packDN st d len cs=some (l,is,ms)) (hn:nodupB ms=true) (hap:apartB is ms=true) {d0:Nat} (hd:o.dst=some d0):
  OpOK P Mod o st (((dropIds ms (st.lock is)).setOb (rootId d0) ((dropIds ms (st.lock is)).nextVer (rootId d0)) (.deep E d l)).put (some d0) (.dn (rootId d0) ((dropIds ms (st.lock is)).nextVer (rootId d0)) [])):=by
 obtain ⟨hu,hty,i,zv,hi,hsz,hpos,hzz,hzs,hby,hbp⟩:=Zcu (ZnD hel)
 have hs':s=d.ty.cells:=by
  unfold szOf at hs;rw[hi] at hs;simp at hs;omega
 subst hs'
 have hnd:=ZeN hn
 have hapt:=ZlE hap
 refine Zsl hd fun F ρ w a hR=>?_
 have hzv:z=zv.cells.toList.map ofVal:=by
  unfold zeroAV at hz
  rw[hi] at hz
  simpa[hzz] using hz.symm
 obtain ⟨F1,hR1,hE1,hr1,hF1⟩:=Zb7 is hR
 have hk1:Keeps F w F1 w:=⟨hE1.more,fun _ _=>rfl⟩
 have hz0:CsRep F ρ w st ((List.range (len*d.ty.cells)).map fun i=>z.getD (i % z.length) .top) ((Array.range (len*d.ty.cells)).map (zv.cells[· % zv.cells.size]!)).toList:=by
  refine ⟨by simp,fun j c u h1 h2=>?_⟩
  simp only[List.getElem?_map] at h1
  simp only[Array.toList_map,Array.toList_range,List.getElem?_map] at h2
  cases hj:(List.range (len*d.ty.cells))[j]? with
  | none=>rw[hj] at h1;cases h1
  | some j'=>
   rw[hj] at h1 h2
   simp only[Option.map_some,Option.some.injEq] at h1 h2
   subst h1
   subst h2
   have hlz:0 < zv.cells.size:=by omega
   have hlt:=Nat.mod_lt j' hlz
   rw[hzv]
   simp only[List.length_map,Array.length_toList,List.getD_eq_getElem?_getD,List.getElem?_map]
   rw[Array.getElem?_toList,Array.getElem?_eq_getElem hlt,getElem!_pos zv.cells _ hlt]
   exact ZhI _
 obtain ⟨us,h1,h2⟩:=Zjx (qs:=(parts.map fun (i,x)=>(i,a.eval x)).toList) hfl hz0 (by simp) (Zj8 hR parts)
 obtain ⟨Bs,gs,a1,a2,a3,a4,a5,a6,a7⟩:=ZnK hR hk1 hr1 hp h2 hF1
 have hsl:(Go.sizeOf E).run P w=.ok d.ty.cells w:=ZM hs
 have ho1:∀id∈ms,∃ver o,find id (st.lock is).ob=some (ver,o)∧o.free=true:=fun id hid=>by rw[ZeE is (hapt id hid)];exact a6 id hid
 obtain ⟨r1,r2,r3,r4,r5⟩:=ZjI ms hR1
 have hblk:∀b∈blocks ρ ms,¬F1 b∧Mod b∧b < w.heap.size∧∀i v o,find i (dropIds ms (st.lock is)).ob=some (v,o)→o.free=true→b∉hb (ρ i):=fun b hb'=>by
  obtain ⟨id,hid,hbi⟩:=Zgp.1 hb'
  obtain ⟨ver,ob,hf,hfr⟩:=ho1 id hid
  obtain ⟨s1,s2,s3,s4⟩:=hR1.sep _ _ _ _ hf hfr hbi
  refine ⟨s1,s2,s3,fun i v o hfi hfri hbi'=>?_⟩
  obtain ⟨i',v',o',k1,k2,k3,k4⟩:=r4 b ⟨i,v,o,hfi,hfri,hbi'⟩
  exact k4 ((s4 _ _ _ k1 k2 k3)▸hid)
 have hlen:us.size=len*d.ty.cells:=by rw[←Array.length_toList,a2]
 have hw:∀b,b < w.heap.size→(w.alloc (.cells us E)).heap[b]? =w.heap[b]?:=fun b hb=>ZcZ w _ hb
 have hk2:Keeps F1 w F1 (w.alloc (.cells us E)):=⟨fun _ h=>h,fun b hF=>hw b (hR1.low b hF)⟩
 refine ⟨F1,.slice (some ⟨w.heap.size,0,none⟩) len len,w.alloc (.cells us E),mkT (.slice (some ⟨w.heap.size,0,none⟩) len len) gs,w.heap.size :: blocks ρ ms,r1,hE1,?_,rfl,rfl,rfl,rfl,by simp,fun k hk _=>hw k hk,fun b hb=>?_,?_,rfl,us.toList,Bs,?_,by rw[a3,a1],by rw[ZsI,a5];rfl,fun j x hx=>?_⟩
 ·have hn:¬(len*d.ty.cells > 2 ^ 24):=by simp;omega
  by_cases h0:len*d.ty.cells=0
  ·have hr0:∀(f:Nat→Value),(Array.range (len*d.ty.cells)).map f= #[]:=fun f=>by
    apply Array.ext'
    rw[h0]
    simp
   rw[hr0] at h1
   simp only[execOp,h,Instr.buildSlice,Sem.run_bind,run_underlying hu,Result.andThen_ok,hsl,if_neg hn,if_pos h0,Sem.run_pure,hr0,h1,newRow]
   rfl
  ·simp only[execOp,h,Instr.buildSlice,Sem.run_bind,run_underlying hu,Result.andThen_ok,hsl,if_neg hn,if_neg h0]
   have hzr:(Go.zeroValue E).run P w=.ok zv w:=ZgM (by rw[hi];exact hzz)
   simp only[Sem.run_bind,hzr,Result.andThen_ok,Sem.run_pure,h1,newRow]
   rfl
 ·rcases List.mem_cons.1 hb with rfl | hb
  ·refine ⟨fun hF=>by have:=hR1.low _ hF;omega,hR.hi _ (Nat.le_refl _),by simp,fun i v o _ hf hfr hbi=>?_⟩
   obtain ⟨i',v',o',k1,k2,k3,k4⟩:=r4 _ ⟨i,v,o,hf,hfr,hbi⟩
   have:=(hR1.sep _ _ _ _ k1 k2 k3).2.2.1
   omega
  ·obtain ⟨s1,s2,s3,s4⟩:=hblk b hb
   exact ⟨s1,s2,by simp;omega,fun i v o _=>s4 i v o⟩
 ·refine List.nodup_cons.2 ⟨fun hm=>?_,ZfD hR hnd a6⟩
  have:=(hblk _ hm).2.2.1
  omega
 ·rw[ZsI]
  exact ownsAt.of ⟨by rw[a1,Array.length_toList,hlen],.inr ⟨_,len,us,by rw[a1],Nat.zero_le _,ZbE _ _,by omega,ZnO (b:=d.ty.cells) (by omega) (by omega),hlen,by rw[a1,←hlen,←Array.length_toList,List.take_length]⟩⟩
 ·obtain ⟨cs',Bi,gi,k1,k2,k3,k4⟩:=a7 j x hx
  refine ⟨cs',Bi,k1,?_,k4⟩
  rw[ZsD,List.getD_eq_getElem?_getD,k2]
  refine k3.keep hk2 fun b hb=>hw b (hblk b ?_).2.2.1
  rw[a5]
  exact List.mem_flatten.2 ⟨Bi,List.mem_of_getElem? k1,hb⟩
theorem ERep.ones:∀ {d:DTy} {g:Value} {k:Nat} {x:El d.ty} {vs:List Value} {B:List Nat},ERep F w d g k x vs B→∀u∈vs,u.oneCell'=true
 |.leaf t,_,_,_,_,_,h=>h.1.ones
 |.ro d,g,k,l,vs,B,h=>by
  obtain ⟨rfl,E,cells,Bs,hown,_⟩:=h
  intro u hu
  simp only[List.mem_singleton] at hu
  subst hu
  rcases hown.2 with ⟨e,_⟩ | ⟨g,off,cap,cur,e,_⟩ <;> rw[e] <;> rfl
 |.pr a b,g,k,x,vs,B,h=>by
  obtain ⟨v1,v2,B1,B2,rfl,rfl,h1,h2⟩:=h
  intro u hu
  rcases List.mem_append.1 hu with hu | hu
  ·exact h1.ones u hu
  ·exact h2.ones u hu
def SrcD (F:Nat→Prop) (w:World) (d:DTy) (l:List (El d.ty)) (cells:List Value) (Bs:List (List Nat)) (gs:List Value):Prop:=
 Bs.length=l.length∧gs.length=l.length∧∀(i:Nat) x,l[i]? =some x→∃cs Bi gi,Bs[i]? =some Bi∧gs[i]? =some gi∧ERep F w d gi 0 x cs Bi∧∀j u,cs[j]? =some u→cells[i*d.ty.cells+j]? =some u
theorem RowD.src {E:TypeId} {d:DTy} {g:Value} {l:List (El d.ty)} {B:List Nat} (h:DRow F w E d g l B):∃cells Bs gs,ownsAt w E d.ty.cells (gv g) l.length cells∧B=hb1 (gv g)++Bs.flatten∧SrcD F w d l cells Bs gs:=by
 obtain ⟨cells,Bs,h1,h2,h3,h4⟩:=h
 refine ⟨cells,Bs,(List.range l.length).map (gk g),h1,h3,h2,by simp,fun i x hx=>?_⟩
 obtain ⟨cs,Bi,k1,k2,k3⟩:=h4 i x hx
 exact ⟨cs,Bi,_,k1,by simp[(List.getElem?_eq_some_iff.1 hx).1],k2,k3⟩
theorem SrcD.ones {d:DTy} {l:List (El d.ty)} {cells:List Value} {Bs:List (List Nat)} {gs:List Value} (h:SrcD F w d l cells Bs gs) (hz:0 < d.ty.cells) (hl:cells.length=l.length*d.ty.cells):∀u∈cells,u.oneCell'=true:=by
 intro u hu
 obtain ⟨m,hm⟩:=List.getElem?_of_mem hu
 have hlt:m < l.length*d.ty.cells:=by rw[←hl];exact (List.getElem?_eq_some_iff.1 hm).1
 have hi:m / d.ty.cells < l.length:=(Nat.div_lt_iff_lt_mul hz).2 hlt
 obtain ⟨cs,Bi,gi,_,_,h3,h4⟩:=h.2.2 (m / d.ty.cells) _ (Zfi (z:=dflt d.ty) hi)
 have hj:m % d.ty.cells < cs.length:=by rw[h3.length];exact Nat.mod_lt _ hz
 have h5:=h4 (m % d.ty.cells) cs[m % d.ty.cells] (by simp[hj])
 rw[Nat.mul_comm,Nat.div_add_mod,hm] at h5
 cases h5
 exact h3.ones _ (List.getElem_mem hj)
theorem SrcD.append {d:DTy} {l l':List (El d.ty)} {cells cells':List Value} {Bs Bs':List (List Nat)} {gs gs':List Value} (h:SrcD F w d l cells Bs gs) (h':SrcD F w d l' cells' Bs' gs') (hl:cells.length=l.length*d.ty.cells):SrcD F w d (l++l') (cells++cells') (Bs++Bs') (gs++gs'):=by
 refine ⟨by simp[h.1,h'.1],by simp[h.2.1,h'.2.1],fun i x hx=>?_⟩
 by_cases hi:i < l.length
 ·rw[List.getElem?_append_left hi] at hx
  obtain ⟨cs,Bi,gi,k1,k2,k3,k4⟩:=h.2.2 i x hx
  refine ⟨cs,Bi,gi,by rw[List.getElem?_append_left (by rw[h.1];exact hi)];exact k1,by rw[List.getElem?_append_left (by rw[h.2.1];exact hi)];exact k2,k3,fun j u hu=>?_⟩
  have:=k4 j u hu
  rw[List.getElem?_append_left (List.getElem?_eq_some_iff.1 this).1]
  exact this
 ·rw[List.getElem?_append_right (by omega)] at hx
  obtain ⟨cs,Bi,gi,k1,k2,k3,k4⟩:=h'.2.2 _ x hx
  refine ⟨cs,Bi,gi,by rw[List.getElem?_append_right (by rw[h.1];omega),h.1];exact k1,by rw[List.getElem?_append_right (by rw[h.2.1];omega),h.2.1];exact k2,k3,fun j u hu=>?_⟩
  have:l.length*d.ty.cells≤i*d.ty.cells:=Nat.mul_le_mul_right _ (by omega)
  rw[List.getElem?_append_right (by rw[hl];omega),hl,show i*d.ty.cells+j - l.length*d.ty.cells=(i - l.length)*d.ty.cells+j by rw[Nat.sub_mul];omega]
  exact k4 j u hu
theorem SrcD.keep {w':World} {d:DTy} {l:List (El d.ty)} {cells:List Value} {Bs:List (List Nat)} {gs:List Value} (h:SrcD F w d l cells Bs gs) (hk:Keeps F w F w') (hs:∀b∈Bs.flatten,w'.heap[b]? =w.heap[b]?):SrcD F w' d l cells Bs gs:=
 ⟨h.1,h.2.1,fun i x hx=>let ⟨cs,Bi,gi,k1,k2,k3,k4⟩:=h.2.2 i x hx;⟨cs,Bi,gi,k1,k2,k3.keep hk fun b hb=>hs b (List.mem_flatten.2 ⟨Bi,List.mem_of_getElem? k1,hb⟩),k4⟩⟩
theorem ZnM {d0:Nat} (hd:o.dst=some d0) {own:TypeId→Bool} {T E:TypeId} {d:DTy} {bytes:Nat} (hel:elemD P own T=some (E,d,bytes)) {c:Call} (hop:o.op=.call c) (hcal:c.callee=.builtin .append) (hat:c.argTypes= #[T,T])
  {s:AV} {idx verx:Nat} (hxs:asArg st c.args.toList=[s,.dn idx verx []]) {l2:List (El d.ty)} (hox:st.obj idx verx=some (.deep E d l2)) {l0:List (El d.ty)} {id ver':Nat} (hbnd:Nat.ble ((l0.length+l2.length)*bytes) limit=true)
  (hs:∀F ρ w (a:Act),R Mod F ρ w st a.tmps→∀v,ARep F ρ w st s v→ver'=(dropIds [idx] st).nextVer id∧∃cells Bs gs,ownsAt w E d.ty.cells v l0.length cells∧SrcD F w d l0 cells Bs gs∧(hb1 v++Bs.flatten).Nodup∧
   ∀b∈hb1 v++Bs.flatten,id≠idx∧∃vv oo,find id st.ob=some (vv,oo)∧oo.free=true∧b∈hb (ρ id)):
  OpOK P Mod o st (((dropIds [idx] st).setOb id ver' (.deep E d (l0++l2))).put (some d0) (.dn id ver' [])):=by
 obtain ⟨hu,hty,i,z,hi,hsz,hpos,hz,hzs,hby,hbp⟩:=Zcu (ZnD hel)
 refine Zsl hd fun F ρ w a hR=>?_
 have hargr:=ZdT hR c.args.toList
 rw[hxs] at hargr
 obtain ⟨vs,hvs⟩:∃vs,c.args.toList.map a.eval=vs:=⟨_,rfl⟩
 rw[hvs] at hargr
 match vs,hargr.1 with
 | [v,u],_=>
  have hv:ARep F ρ w st s v:=hargr.2 0 _ _ rfl rfl
  have hu2:ARep F ρ w st (.dn idx verx []) u:=hargr.2 1 _ _ rfl rfl
  have hfx:=Zx.1 hox
  obtain ⟨hver,cells,Bs,gs,hown,hsrc,hnd,hblk⟩:=hs F ρ w a hR v hv
  have hux:u=gv (gv (ρ idx)):=by
   cases hu2 with
   | dn _ _ _ _ _ _ hp=>exact (hp _ _ _ hox).2
  obtain ⟨hndx,hrowx⟩:=hR.obs idx verx _ hfx
  obtain ⟨cellsx,Bx,gx,hownx,hBx,hsrcx⟩:=hrowx.src
  rw[←hux] at hownx hBx
  have hnewl:cellsx.length=l2.length*d.ty.cells:=hownx.1
  have hones:=hsrcx.ones (by omega) hnewl
  have hruns:Runs P w T T o.type E i z l2.length u cellsx:=by
   rcases hownx.2 with ⟨e1,e2⟩ | ⟨g,off,cap,cur,e1,_⟩
   ·rw[e1,e2]
    exact Runs.ofSlice hu hi hz (A:=none) (by rw[hnewl,e2,Nat.zero_mul,Nat.zero_mul]) (fun ad e=>by cases e) (fun _=>rfl) hones
   ·rw[e1] at hownx ⊢
    exact Runs.ofSlice hu hi hz (by rw[hnewl,hsz]) (fun ad e=>by cases e;exact fun j u hu=>by rw[ZaR];exact hownx.cells hu) (fun e=>by cases e) hones
  have hbytes:=Zrz hbnd
  have h63:l0.length+l2.length≤maxLen:=ZnO hbp hbytes
  obtain ⟨v',w',hrun,hown',hg,hwhere⟩:=ZnX (P:=P) (ty:=o.type) hsz hzs hown hnewl hruns h63 (by rw[hby];exact hbytes)
  have hrun':(execOp a.eval o).run P w=.ok (.value v') w':=by
   have hargs':c.args.map a.eval= #[v,u]:=by
    apply Array.ext'
    rw[Array.toList_map,hvs]
   simp[execOp,hop,resolve,hcal,invoke,builtin,hat,hargs']
   rw[hrun]
   rfl
  have hhead:∀b,v.ownBlock=some b→b∈hb1 v:=fun b e=>by
   rw[Ze8 hown,Zqy hown,e]
   simp
  have hxin:∀b∈Bx.flatten,b∈hb (ρ idx):=fun b hb=>by rw[hBx];simp only[List.mem_append];exact .inr hb
  have hsepx:∀b∈hb (ρ idx),¬F b∧Mod b∧b < w.heap.size∧∀i v o,i≠idx→find i st.ob=some (v,o)→o.free=true→b∉hb (ρ i):=fun b hb=>by
   obtain ⟨s1,s2,s3,s4⟩:=hR.sep _ _ _ _ hfx rfl hb
   exact ⟨s1,s2,s3,fun i v o hi hf hfr hbi=>hi (s4 _ _ _ hf hfr hbi)⟩
  have hseps:∀b∈hb1 v++Bs.flatten,¬F b∧Mod b∧b < w.heap.size∧(∀i v o,i≠id→find i st.ob=some (v,o)→o.free=true→b∉hb (ρ i))∧b∉hb (ρ idx):=fun b hb=>by
   obtain ⟨hne,vv,oo,hf,hfr,hbi⟩:=hblk b hb
   obtain ⟨s1,s2,s3,s4⟩:=hR.sep _ _ _ _ hf hfr hbi
   exact ⟨s1,s2,s3,fun i v o hi hf hfr hbi=>hi (s4 _ _ _ hf hfr hbi),fun hx=>hne (s4 _ _ _ hfx rfl hx).symm⟩
  have hkeep:∀b,b < w.heap.size→b∉hb1 v→w'.heap[b]? =w.heap[b]?:=fun b hb hn=>hg.block b hb fun e=>hn (hhead b e.symm)
  have hk:Keeps F w F w':=⟨fun _ h=>h,fun b hF=>hkeep b (hR.low b hF) fun hm=>(hseps b (by simp[hm])).1 hF⟩
  have hdrop:∀i,i≠idx→find i (dropIds [idx] st).ob=find i st.ob:=fun i hi=>by
   simp only[dropIds,hfx]
   rw[Zq,if_neg hi]
  have hdx:∀v o,find idx (dropIds [idx] st).ob=some (v,o)→o.free=false:=fun v o h=>by
   simp only[dropIds,hfx] at h
   rw[Zq,if_pos rfl] at h
   cases h
   rfl
  have hnf:∀i v o,find i (dropIds [idx] st).ob=some (v,o)→o.free=true→i≠idx∧find i st.ob=some (v,o):=fun i v o hf hfr=>by
   have hne:i≠idx:=fun e=>by subst e;rw[hdx v o hf] at hfr;cases hfr
   exact ⟨hne,by rw[←hdrop i hne];exact hf⟩
  obtain ⟨r1,r2,r3,r4,r5⟩:=ZjI [idx] hR
  have hw':∀b,v'.ownBlock=some b→b < w'.heap.size:=hown'.lt
  have hn1:=List.nodup_append.1 hnd
  refine ⟨F,v',w',mkT v' (gs++gx),hb1 v'++(Bs++Bx).flatten,r1,Evo.refl _ _ _,hrun',hver,hg.os,hg.tape,hg.output,hg.size,fun k hk' hne=>?_,fun b hb=>?_,?_,rfl,cells++cellsx,Bs++Bx,?_,by simp[hsrc.1,hsrcx.1],rfl,fun j x hx=>?_⟩
  ·refine hkeep k hk' fun hm=>?_
   obtain ⟨hni,vv,oo,hf,hfr,hbi⟩:=hblk k (by simp[hm])
   exact hne vv oo (by rw[hdrop id hni];exact hf) hfr hbi
  ·have hcase:b∈hb1 v++Bs.flatten∨b=w.heap.size∧b < w'.heap.size∨b∈Bx.flatten:=by
    rcases List.mem_append.1 hb with hb | hb
    ·rw[Ze8 hown'] at hb
     rcases hwhere with e | e
     ·rw[e,←Ze8 hown] at hb
      exact .inl (by simp[hb])
     ·rw[e] at hb
      obtain rfl:=List.mem_singleton.1 hb
      refine .inr (.inl ⟨rfl,hw' _ ?_⟩)
      rw[Zqy hown'] at e
      cases h:v'.ownBlock with
      | none=>rw[h] at e;simp at e
      | some c=>rw[h] at e;simpa using e
    ·rw[List.flatten_append] at hb
     rcases List.mem_append.1 hb with hb | hb
     ·exact .inl (by simp only[List.mem_append];exact .inr hb)
     ·exact .inr (.inr hb)
   rcases hcase with hb | ⟨rfl,hlt⟩ | hb
   ·obtain ⟨s1,s2,s3,s4,_⟩:=hseps b hb
    exact ⟨s1,s2,Nat.lt_of_lt_of_le s3 hg.size,fun i v o hi hf hfr=>s4 i v o hi (hnf i v o hf hfr).2 hfr⟩
   ·refine ⟨fun hF=>by have:=hR.low _ hF;omega,hR.hi _ (Nat.le_refl _),hlt,fun i v o _ hf hfr hbi=>?_⟩
    have:=(hR.sep _ _ _ _ (hnf i v o hf hfr).2 hfr hbi).2.2.1
    omega
   ·obtain ⟨s1,s2,s3,s4⟩:=hsepx b (hxin b hb)
    exact ⟨s1,s2,Nat.lt_of_lt_of_le s3 hg.size,fun i v o _ hf hfr=>s4 i v o (hnf i v o hf hfr).1 (hnf i v o hf hfr).2 hfr⟩
  ·have hndx':Bx.flatten.Nodup:=by rw[hBx] at hndx;exact (List.nodup_append.1 hndx).2.1
   have h1:(Bs.flatten++Bx.flatten).Nodup:=List.nodup_append.2 ⟨hn1.2.1,hndx',fun p hp q hq e=>by subst e;exact (hseps p (by simp only[List.mem_append];exact .inr hp)).2.2.2.2 (hxin p hq)⟩
   rw[List.flatten_append]
   rcases hwhere with e | e
   ·rw[Ze8 hown',e,←Ze8 hown]
    refine List.nodup_append.2 ⟨hn1.1,h1,fun p hp q hq e=>?_⟩
    subst e
    rcases List.mem_append.1 hq with hq | hq
    ·exact hn1.2.2 p hp p hq rfl
    ·exact (hseps p (by simp[hp])).2.2.2.2 (hxin p hq)
   ·rw[Ze8 hown',e]
    refine List.nodup_append.2 ⟨by simp,h1,fun p hp q hq e=>?_⟩
    subst e
    obtain rfl:=List.mem_singleton.1 hp
    rcases List.mem_append.1 hq with hq | hq
    ·have:=(hseps _ (by simp only[List.mem_append];exact .inr hq)).2.2.1
     omega
    ·have:=(hsepx _ (hxin _ hq)).2.2.1
     omega
  ·rw[ZsI,List.length_append]
   exact hown'
  ·have hsa:=(hsrc.keep hk fun b hb=>hkeep b (hseps b (by simp only[List.mem_append];exact .inr hb)).2.2.1 fun hm=>hn1.2.2 b hm b hb rfl).append (hsrcx.keep hk fun b hb=>hkeep b (hsepx b (hxin b hb)).2.2.1 fun hm=>(hseps b (by simp[hm])).2.2.2.2 (hxin b hb)) hown.1
   obtain ⟨cs,Bi,gi,k1,k2,k3,k4⟩:=hsa.2.2 j x hx
   refine ⟨cs,Bi,k1,?_,k4⟩
   rw[ZsD,List.getD_eq_getElem?_getD,k2]
   exact k3
theorem ZtU {own:TypeId→Bool} {cl:Cl} (hcl:Spec P cl):Sat (opX P own cl o st) (OpOK P Mod o st):=by
 unfold opX
 split
 ·rename_i T len parts h
  split
  ·exact Zkn hcl
  ·rename_i E d bytes hel
   split
   ·rename_i s z hs hz
    refine Sat.cond (fun hle=>?_) fun _=>Sat.fail
    split
    ·exact Sat.fail
    ·rename_i cs hfl
     split
     ·exact Sat.fail
     ·rename_i l is ms hp
      refine Sat.cond (fun hb=>?_) fun _=>Sat.fail
      rw[Bool.and_eq_true] at hb
      unfold makeObj
      split
      ·rename_i d0 hd
       exact Sat.pure (ZmN h hel hs hz (Nat.le_of_ble_eq_true hle) hfl hp hb.1 hb.2 hd)
      ·exact Sat.fail
   ·exact Sat.fail
 ·rename_i c h
  split
  ·rename_i hc
   split
   ·rename_i s idx verx T T' dd hargs hT hd
    refine Sat.cond (fun hb=>?_) fun _=>Sat.fail
    have hb:=Nat.eq_of_beq_eq_true hb
    subst hb
    have hat:c.argTypes= #[T,T]:=by apply Array.ext';exact hT
    split
    ·rename_i E d bytes E2 d2 l2 hel hox
     split
     ·rename_i hdd
      subst hdd
      refine Sat.cond (fun hE=>?_) fun _=>Sat.fail
      have hE:=Nat.eq_of_beq_eq_true hE
      subst hE
      split
      ·refine Sat.guard fun hbnd=>Sat.pure ?_
       have:=ZnM (Mod:=Mod) hd hel h hc hat hargs hox (l0:=[]) (id:=rootId dd) (ver':=(dropIds [idx] st).nextVer (rootId dd)) (by simpa using hbnd) fun F ρ w a hR v hv=>by
        cases hv
        exact ⟨rfl,[],[],[],Zim _ _ _,⟨rfl,rfl,fun i x hx=>by simp at hx⟩,List.nodup_nil,fun b hb=>by simp[hb1] at hb⟩
       simpa using this
      ·rename_i id ver
       split
       ·rename_i E1 d1 l1 hob
        split
        ·rename_i h1
         subst h1
         refine Sat.cond (fun hE=>?_) fun _=>Sat.fail
         rw[Bool.and_eq_true] at hE
         have hE1:=Nat.eq_of_beq_eq_true hE.1
         subst hE1
         have hne:id≠idx:=fun e=>by subst e;have:=hE.2;simp at this
         refine Sat.guard fun hbnd=>Sat.pure ?_
         refine ZnM (Mod:=Mod) hd hel h hc hat hargs hox (l0:=l1) (id:=id) (ver':=ver+1) hbnd fun F ρ w a hR v hv=>?_
         have hf:=Zx.1 hob
         cases hv with
         | dn _ _ _ _ hbn _ hp=>
          obtain ⟨_,rfl⟩:=hp _ _ _ hob
          obtain ⟨hnd,hrow⟩:=hR.obs id ver _ hf
          obtain ⟨cells,Bs,gs,hown,hB,hsrc⟩:=hrow.src
          refine ⟨?_,cells,Bs,gs,hown,hsrc,by rw[hB] at hnd;exact hnd,fun b hb=>⟨hne,_,_,hf,rfl,by rw[hB];exact hb⟩⟩
          have:find id (dropIds [idx] st).ob=some (ver,.deep E1 d1 l1):=by
           simp only[dropIds,Zx.1 hox]
           rw[Zq,if_neg hne]
           exact hf
          rw[St.nextVer,this]
        ·exact Sat.fail
       ·exact Sat.fail
      ·exact Sat.fail
     ·exact Sat.fail
    ·exact Sat.fail
   ·exact Zkn hcl
  ·exact Zkn hcl
 ·exact Zkn hcl
end
end Go.Ev
end

section
namespace Go.Ev
variable [Tabs] [Orgs]
open Go
section
variable {P:Program} {Mod:Nat→Prop} {st:St} {F:Nat→Prop} {ρ:Rho} {w:World} {tm:Array Value}
structure RI (F:Nat→Prop) (w:World) (st:St) (ρ:Rho) (rn:Ren) (ρ':Rho):Prop where
 m:∀i i',mapd rn.1 i=some i'→∃ver o o',find i st.ob=some (ver,o)∧find i' rn.2=some (0,o')∧ρ' i'=ρ i∧Obj.sim o o'∧o'.free=o.free
 ob:∀id v o',find id rn.2=some (v,o')→v=0∧ORep F ρ' w ⟨[],rn.2⟩ (ρ' id) o'∧((∃i,mapd rn.1 i=some id)∨hb (ρ' id)=[])
 inj:∀i j id,mapd rn.1 i=some id→mapd rn.1 j=some id→i=j
theorem ZjB (i id:Id) (m:List (Id×Id)) (j:Id):mapd ((i,id) :: m) j=if j=i then some id else mapd m j:=by
 unfold mapd
 by_cases h:j=i
 ·subst h;rw[Nat.beq_refl,if_pos rfl];rfl
 ·rw[if_neg h,ZiN (fun e=>h e.symm)];cases m <;> rfl
theorem RI.add {rn:Ren} {ρ':Rho} (h:RI F w st ρ rn ρ') {m:List (Id×Id)} {id:Id} {o':Obj} {h':Value} (hnew:find id rn.2=none)
  (hm:(m=rn.1∧hb h'=[])∨∃i ver o,m=(i,id) :: rn.1∧mapd rn.1 i=none∧find i st.ob=some (ver,o)∧h'=ρ i∧Obj.sim o o'∧o'.free=o.free)
  (hO:ORep F ρ' w ⟨[],rn.2⟩ h' o'):RI F w st ρ (m,ins id (0,o') rn.2) (updR ρ' id h')∧Ref ⟨[],rn.2⟩ ρ' ⟨[],ins id (0,o') rn.2⟩ (updR ρ' id h'):=by
 have hnv:(⟨[],rn.2⟩:St).nextVer id=0:=by simp[St.nextVer,hnew]
 have href:Ref ⟨[],rn.2⟩ ρ' ⟨[],ins id (0,o') rn.2⟩ (updR ρ' id h'):=Ref.set (st:=⟨[],rn.2⟩) (ver':=0) (o':=o') (.inr hnv.symm)
 have hfi:∀j,find j (ins id (0,o') rn.2)=if j=id then some (0,o') else find j rn.2:=fun j=>Zfn _ _ _ _
 have hold:∀j i',mapd rn.1 j=some i'→i'≠id:=fun j i' hj e=>by
  subst e
  obtain ⟨_,_,_,_,h2,_⟩:=h.m j i' hj
  rw[hnew] at h2
  cases h2
 refine ⟨⟨fun i i' hi=>?_,fun j v o hj=>?_,fun i j k hi hj=>?_⟩,href⟩
 ·have old:mapd rn.1 i=some i'→∃ver o o2,find i st.ob=some (ver,o)∧find i' (ins id (0,o') rn.2)=some (0,o2)∧updR ρ' id h' i'=ρ i∧Obj.sim o o2∧o2.free=o.free:=fun hi=>by
   obtain ⟨ver,o,o2,h1,h2,h3,h4,h5⟩:=h.m i i' hi
   have hne:=hold i i' hi
   exact ⟨ver,o,o2,h1,by rw[hfi,if_neg hne];exact h2,by simp only[updR,if_neg hne];exact h3,h4,h5⟩
  rcases hm with ⟨rfl,_⟩ | ⟨i0,ver,o,rfl,h1,h2,h3,h4,h5⟩
  ·exact old hi
  ·simp only[ZjB] at hi
   split at hi
   ·rename_i e
    subst e
    cases hi
    exact ⟨ver,o,o',h2,by rw[hfi,if_pos rfl],by simp only[updR,if_true];exact h3,h4,h5⟩
   ·exact old hi
 ·rw[hfi] at hj
  split at hj
  ·rename_i e
   subst e
   cases hj
   refine ⟨rfl,?_,?_⟩
   ·simp only[updR,if_true]
    exact ORep.mono (Keeps.refl _ _) href (fun _ _=>rfl) hO
   ·rcases hm with ⟨rfl,hn⟩ | ⟨i0,ver,o,rfl,_⟩
    ·exact .inr (by simp only[updR,if_true];exact hn)
    ·exact .inl ⟨i0,by simp[ZjB]⟩
  ·rename_i hne
   obtain ⟨h1,h2,h3⟩:=h.ob j v o hj
   simp only[updR,if_neg hne]
   refine ⟨h1,ORep.mono (Keeps.refl _ _) href (fun _ _=>rfl) h2,?_⟩
   rcases hm with ⟨rfl,_⟩ | ⟨i0,ver,o,rfl,hn,_⟩
   ·exact h3
   ·refine h3.imp (fun ⟨i,hi⟩=>⟨i,?_⟩) _root_.id
    simp only[ZjB]
    rw[if_neg (fun e=>by subst e;rw[hn] at hi;cases hi)]
    exact hi
 ·rcases hm with ⟨rfl,_⟩ | ⟨i0,ver,o,rfl,hn,_⟩
  ·exact h.inj i j k hi hj
  ·simp only[ZjB] at hi hj
   split at hi <;> split at hj
   ·simp_all
   ·cases hi;exact absurd rfl (hold _ _ hj)
   ·cases hj;exact absurd rfl (hold _ _ hi)
   ·exact h.inj i j k hi hj
theorem ZpX {x:AV} {v:Value} {st':St} {ρ':Rho} (h:ARep F ρ w st x v):ARep F ρ' w st' (plainAV x) v:=by
 unfold plainAV
 split
 ·cases h with | d _ _ _ h=>exact .d _ _ _ h
 ·cases h;exact .nil
 ·cases h;exact .cst _
 ·cases h with | ifc _ _ _ h=>cases h with | d _ _ _ h=>exact .ifc _ _ _ (.d _ _ _ h)
 ·cases h with | rp _ _ _ _ _ h1 h2 h3=>exact .rp _ _ _ _ _ h1 h2 h3
 ·exact .top _
def RenOK (F:Nat→Prop) (w:World) (st:St) (ρ:Rho) (v:Value) (rn:Ren) (ρ':Rho) (r:AV×Ren):Prop:=
 ∃ρ2,RI F w st ρ r.2 ρ2∧ARep F ρ2 w ⟨[],r.2.2⟩ r.1 v∧Ref ⟨[],rn.2⟩ ρ' ⟨[],r.2.2⟩ ρ2
theorem RenOK.top {v:Value} {rn:Ren} {ρ':Rho} (h:RI F w st ρ rn ρ'):RenOK F w st ρ v rn ρ' (.top,rn):=⟨ρ',h,.top _,Ref.refl⟩
theorem Zig {rn:Ren} {ρ':Rho} (h:RI F w st ρ rn ρ') {i id ver:Nat} {o o':Obj} {x:AV} {v:Value} (hf:find i st.ob=some (ver,o)) (hs:Obj.sim o o') (hfr:o'.free=o.free) (hO:ORep F ρ' w ⟨[],rn.2⟩ (ρ i) o')
  (hx:ARep F (updR ρ' id (ρ i)) w ⟨[],ins id (0,o') rn.2⟩ x v):RenOK F w st ρ v rn ρ' (addR rn i id o' x):=by
 unfold addR
 split
 ·rename_i hm hn
  obtain ⟨h1,h2⟩:=h.add (m:=(i,id) :: rn.1) hn (.inr ⟨i,ver,o,rfl,hm,hf,rfl,hs,hfr⟩) hO
  exact ⟨_,h1,hx,h2⟩
 ·exact RenOK.top h
theorem ZhQ {id:Id} {o':Obj} {l:List (Id×Nat×Obj)} :bnd ⟨[],ins id (0,o') l⟩ id 0:=⟨0,o',by simp[Zfn],Nat.le_refl _⟩
theorem ZqQ {id:Id} {o':Obj} {l:List (Id×Nat×Obj)} :(⟨[],ins id (0,o') l⟩:St).obj id 0=some o':=by rw[Zx];simp[Zfn]
theorem ZoT {hints:List (Id×TypeId)} {id:Id} {pre:Option Nat} {n:Nat} (h:∀m,pre=some m→m≤n):(∀m,preOf hints id pre n=some m→m≤n)∧(preOf hints id pre n).getD n=pre.getD n:=by
 unfold preOf
 cases pre with
 | some m=>exact ⟨h,rfl⟩
 | none=>
  cases mapd hints (id+preK) with
  | some T=>exact ⟨fun m e=>by cases e;exact Nat.le_refl _,rfl⟩
  | none=>exact ⟨fun m e=>(by cases e),rfl⟩
theorem ZsJ {hints:List (Id×TypeId)} (hR:R Mod F ρ w st tm):∀(n:Nat) (rn:Ren) (ρ':Rho) (id:Id) (x:AV) (v:Value),RI F w st ρ rn ρ'→ARep F ρ w st x v→RenOK F w st ρ v rn ρ' (ren P hints st n rn id x)
 | 0,rn,ρ',id,x,v,hI,hx=>RenOK.top hI
 | n+1,rn,ρ',id,x,v,hI,hx=>by
  have all:∀(cs:List AV) (vs:List Value) (j:Nat) (rn:Ren) (ρ':Rho),RI F w st ρ rn ρ'→CsRep F ρ w st cs vs→
    ∃ρ2,RI F w st ρ (renA (ren P hints st n) rn id j cs).2 ρ2∧CsRep F ρ2 w ⟨[],(renA (ren P hints st n) rn id j cs).2.2⟩ (renA (ren P hints st n) rn id j cs).1 vs∧Ref ⟨[],rn.2⟩ ρ' ⟨[],(renA (ren P hints st n) rn id j cs).2.2⟩ ρ2:=by
   intro cs
   induction cs with
   | nil=>
    intro vs j rn ρ' hI hc
    have:vs=[]:=List.length_eq_zero_iff.1 hc.1.symm
    subst this
    exact ⟨ρ',hI,.nil,Ref.refl⟩
   | cons c cs ih=>
    intro vs j rn ρ' hI hc
    cases vs with
    | nil=>have:=hc.1;simp at this
    | cons u us=>
     have hx:=hc.2 0 c u rfl rfl
     have hr:CsRep F ρ w st cs us:=⟨by have:=hc.1;simpa using this,fun i c u h1 h2=>hc.2 (i+1) c u h1 h2⟩
     obtain ⟨ρ1,i1,a1,r1⟩:=ZsJ hR n rn ρ' (childId id j) c u hI hx
     obtain ⟨ρ2,i2,a2,r2⟩:=ih us (j+1) _ ρ1 i1 hr
     unfold renA
     exact ⟨ρ2,i2,.cons (a1.mono (Keeps.refl _ _) r2) a2,r1.trans r2⟩
  unfold ren
  split
  ·rename_i i ver off
   split
   ·rename_i T cs tg ho
    cases hx with
    | pt _ _ _ _ hbn h1 hp=>
     obtain ⟨b,hρ,rfl⟩:=hp _ ho
     split
     ·rename_i i' hm
      obtain ⟨ver2,o,o',k1,k2,k3,k4,_⟩:=hI.m i i' hm
      exact ⟨ρ',hI,.pt _ _ _ _ ⟨0,o',k2,Nat.le_refl _⟩ rfl fun o2 _=>⟨b,k3.trans hρ,rfl⟩,Ref.refl⟩
     ·rename_i hm
      obtain ⟨htg,b',arr,hρ',hh,hl,hc⟩:=hR.obs i ver _ (Zx.1 ho)
      rw[hρ] at hρ'
      cases hρ'
      obtain ⟨ρ2,i2,a2,r2⟩:=all cs arr.toList 0 rn ρ' hI ⟨by simp[hl],fun i c u h1 h2=>hc i c u h1 (by simpa using h2)⟩
      generalize renA (ren P hints st n) rn id 0 cs=q at i2 a2 r2
      obtain ⟨vs,rn2⟩:=q
      simp only at i2 a2 r2 ⊢
      have hO:ORep F ρ2 w ⟨[],rn2.2⟩ (ρ i) (.box T vs tg):=⟨htg,b,arr,hρ,hh,by simpa using a2.1.symm,fun i c u h1 h2=>a2.2 i c u h1 (by simpa using h2)⟩
      obtain ⟨ρ3,i3,a3,r3⟩:=Zig (o':=.box T vs tg) (x:=.pt id 0 off) (v:=.pointer (some ⟨b,off,none⟩)) i2 (id:=id) (Zx.1 ho) trivial rfl hO (.pt _ _ _ _ ZhQ rfl fun o2 _=>⟨b,by simp only[updR,if_true];exact hρ,rfl⟩)
      exact ⟨ρ3,i3,a3,r2.trans r3⟩
   ·exact RenOK.top hI
  ·rename_i i ver pre
   split
   ·rename_i E t l lk ho
    cases hx with
    | own _ _ _ _ hbn h1 hp=>
     have hq:=hp _ _ _ _ ho
     cases hlk:(lk&&isLk hints id) with
     | true=>
      rw[Bool.and_eq_true] at hlk
      have hlkt:=hlk.1
      subst hlkt
      simp only[cond_true]
      refine ⟨ρ',hI,?_,Ref.refl⟩
      have htd:toData st (.own i ver pre)=some (.d (.sl t) (preL pre l),[i]):=by unfold toData;simp only[ho]
      have h3:=ZnJ hR htd (.own _ _ _ _ hbn h1 hp) (Keeps.refl F w) (Ref.refl (st:=st) (ρ:=ρ)) (fun id' hid v' o' hf _ b hbb=>by
       simp only[List.mem_singleton] at hid
       subst hid
       rw[Zx.1 ho] at hf
       cases hf
       exact hR.data _ _ _ _ _ (Zx.1 ho) b hbb)
      cases h3 with
      | d _ _ _ h=>exact .d _ _ _ h
     | false=>
     simp only[cond_false]
     split
     ·rename_i i' hm
      obtain ⟨ver2,o,o',k1,k2,k3,k4,_⟩:=hI.m i i' hm
      refine ⟨ρ',hI,.own _ _ _ _ ⟨0,o',k2,Nat.le_refl _⟩ h1 fun E' t' l' lk' ho'=>?_,Ref.refl⟩
      have e1:o'=.row E' t' l' lk':=by
       have:=Zx.1 ho'
       rw[k2] at this
       cases this
       rfl
      have e2:o=.row E t l lk:=by
       have:=Zx.1 ho
       rw[k1] at this
       cases this
       rfl
      subst e1 e2
      obtain ⟨hn,A,c,q1,q2⟩:=hq
      have hlen:List.length l'=List.length l:=k4.2.symm
      obtain ⟨w1,w2⟩:=ZoT (hints:=hints) (id:=id) hn
      exact ⟨fun n e=>by rw[hlen];exact w1 n e,A,c,by rw[k3,q1,hlen],by rw[q2,hlen,w2]⟩
     ·refine Zig hI (Zx.1 ho) ⟨rfl,rfl⟩ rfl (ORep.mono (o:=.row E t l lk) (Keeps.refl _ _) (Ref.refl (st:=st) (ρ:=ρ)) (fun _ _=>rfl) (hR.obs i ver _ (Zx.1 ho))) (.own _ _ _ _ ZhQ h1 fun E' t' l' lk' ho'=>?_)
      rw[ZqQ] at ho'
      cases ho'
      simp only[updR,if_true]
      obtain ⟨hn,A,c,q1,q2⟩:=hq
      obtain ⟨w1,w2⟩:=ZoT (hints:=hints) (id:=id) hn
      exact ⟨w1,A,c,q1,by rw[q2,w2]⟩
   ·exact RenOK.top hI
  ·rename_i i ver
   split
   ·rename_i kt vt l ho
    cases hx with
    | mp _ _ _ hbn h1 hp=>
     have hq:=hp _ ho
     split
     ·rename_i i' hm
      obtain ⟨ver2,o,o',k1,k2,k3,k4,_⟩:=hI.m i i' hm
      exact ⟨ρ',hI,.mp _ _ _ ⟨0,o',k2,Nat.le_refl _⟩ h1 fun o2 _=>hq.trans k3.symm,Ref.refl⟩
     ·exact Zig hI (Zx.1 ho) trivial rfl (hR.obs i ver _ (Zx.1 ho)) (.mp _ _ _ ZhQ h1 fun o2 _=>by simp only[updR,if_true];exact hq)
   ·rename_i tg ho
    cases hx with
    | mp _ _ _ hbn h1 hp=>
     have hq:=hp _ ho
     split
     ·rename_i i' hm
      obtain ⟨ver2,o,o',k1,k2,k3,k4,_⟩:=hI.m i i' hm
      exact ⟨ρ',hI,.mp _ _ _ ⟨0,o',k2,Nat.le_refl _⟩ h1 fun o2 _=>hq.trans k3.symm,Ref.refl⟩
     ·exact Zig hI (Zx.1 ho) trivial rfl (hR.obs i ver _ (Zx.1 ho)) (.mp _ _ _ ZhQ h1 fun o2 _=>by simp only[updR,if_true];exact hq)
   ·exact RenOK.top hI
  ·rename_i i ver
   split
   ·rename_i s p ho
    cases hx with
    | it _ _ _ hbn h1 hp=>
     have hq:=hp _ _ ho
     split
     ·rename_i i' hm
      obtain ⟨ver2,o,o',k1,k2,k3,k4,_⟩:=hI.m i i' hm
      exact ⟨ρ',hI,.it _ _ _ ⟨0,o',k2,Nat.le_refl _⟩ h1 fun s' p' _=>hq.trans k3.symm,Ref.refl⟩
     ·exact Zig hI (Zx.1 ho) trivial rfl (hR.obs i ver _ (Zx.1 ho)) (.it _ _ _ ZhQ h1 fun s' p' _=>by simp only[updR,if_true];exact hq)
   ·exact RenOK.top hI
  ·cases hx
   split
   ·rename_i T hT
    cases Nat.beq (T % 2) 1 with
    | true=>
     simp only[cond_true]
     refine ⟨ρ',hI,?_,Ref.refl⟩
     unfold nilData
     split
     ·exact .d _ _ _ ⟨none,0,rfl,Nat.le_refl _,fun i x hx=>by simp at hx⟩
     ·exact .nil
    | false=>
    simp only[cond_false]
    split
    ·rename_i E d z hel hn
     have hO:ORep F ρ' w ⟨[],rn.2⟩ (.slice none 0 0) (.deep E d []):=⟨List.nodup_nil,[],[],Zim _ _ _,rfl,rfl,fun i x hx=>by simp at hx⟩
     obtain ⟨h1,h2⟩:=hI.add (m:=rn.1) (id:=id) (h':=.slice none 0 0) hn (.inl ⟨rfl,rfl⟩) hO
     refine ⟨_,h1,.dn _ _ _ _ ZhQ rfl fun E' d' l' ho'=>⟨show okPath d' l' [] from trivial,by simp only[updR,if_true];rfl⟩,h2⟩
    split
    ·rename_i E t z hel hn
     have hO:ORep F ρ' w ⟨[],rn.2⟩ (.slice none 0 0) (.row E t [] false):=⟨[],⟨by simp,.inl ⟨rfl,rfl⟩⟩,fun i x hx=>by simp at hx⟩
     obtain ⟨h1,h2⟩:=hI.add (m:=rn.1) (id:=id) (h':=.slice none 0 0) hn (.inl ⟨rfl,rfl⟩) hO
     refine ⟨_,h1,.own _ _ _ _ ZhQ rfl fun E' t' l' lk' ho'=>?_,h2⟩
     rw[ZqQ] at ho'
     cases ho'
     obtain ⟨w1,w2⟩:=ZoT (hints:=hints) (id:=id) (pre:=none) (n:=0) (fun m e=>by cases e)
     exact ⟨w1,none,0,by simp[updR],by rw[show (List.length ([]:List (El t)))=0 from rfl,w2];rfl⟩
    ·exact ⟨ρ',hI,.nil,Ref.refl⟩
   ·exact ⟨ρ',hI,.nil,Ref.refl⟩
  ·rename_i i ver p
   split
   ·rename_i E d l ho
    cases hx with
    | dn _ _ _ _ hbn h1 hp=>
     obtain ⟨hpa,hv⟩:=hp _ _ _ ho
     split
     ·rename_i i' hm
      obtain ⟨ver2,o,o',k1,k2,k3,k4,_⟩:=hI.m i i' hm
      refine ⟨ρ',hI,.dn _ _ _ _ ⟨0,o',k2,Nat.le_refl _⟩ h1 fun E' d' l' ho'=>?_,Ref.refl⟩
      have e1:o'=.deep E' d' l':=by
       have:=Zx.1 ho'
       rw[k2] at this
       cases this
       rfl
      have e2:o=.deep E d l:=by
       have:=Zx.1 ho
       rw[k1] at this
       cases this
       rfl
      subst e1 e2
      obtain ⟨rfl,rfl,hs⟩:=k4
      exact ⟨(ZjM hs hpa).1,by rw[k3];exact hv⟩
     ·refine Zig hI (Zx.1 ho) (Obj.sim_refl _) rfl (ORep.mono (o:=.deep E d l) (Keeps.refl _ _) (Ref.refl (st:=st) (ρ:=ρ)) (fun _ _=>rfl) (hR.obs i ver _ (Zx.1 ho))) (.dn _ _ _ _ ZhQ h1 fun E' d' l' ho'=>?_)
      rw[ZqQ] at ho'
      cases ho'
      exact ⟨hpa,by simp only[updR,if_true];exact hv⟩
   ·exact RenOK.top hI
  ·rename_i cs
   cases hx with
   | ag _ vs hl hall=>
    refine ⟨ρ',hI,.ag _ _ (by simpa using hl) fun i c u h1 h2=>?_,Ref.refl⟩
    rw[List.getElem?_map] at h1
    obtain ⟨c',hc',rfl⟩:=Option.map_eq_some_iff.1 h1
    exact ZpX (hall i c' u hc' h2)
  ·rename_i f cs
   cases hx with
   | fn _ _ vs hl hall=>
    obtain ⟨ρ2,i2,a2,r2⟩:=all cs vs.toList 0 rn ρ' hI ⟨by simpa using hl,fun i c u h1 h2=>hall i c u h1 (by simpa using h2)⟩
    generalize renA (ren P hints st n) rn id 0 cs=q at i2 a2 r2
    obtain ⟨us,rn2⟩:=q
    simp only at i2 a2 r2 ⊢
    exact ⟨ρ2,i2,.fn _ _ _ (by simpa using a2.1) fun i c u h1 h2=>a2.2 i c u h1 (by simpa using h2),r2⟩
  ·exact ⟨ρ',hI,ZpX hx,Ref.refl⟩
theorem ZlO {hints:List (Id×TypeId)} (hR:R Mod F ρ w st tm):∀(live:List Nat) (rn:Ren) (ρ':Rho) (tl:List AV),RI F w st ρ rn ρ'→tl.length=st.tm.length→
  (∀(i:Nat) (x:AV),tl[i]? =some x→∃v,tm[i]? =some v∧ARep F ρ' w ⟨[],rn.2⟩ x v)→
  ∃ρ2,RI F w st ρ (renTm P hints st live rn tl).2 ρ2∧(renTm P hints st live rn tl).1.length=st.tm.length∧
   ∀(i:Nat) (x:AV),(renTm P hints st live rn tl).1[i]? =some x→∃v,tm[i]? =some v∧ARep F ρ2 w ⟨[],(renTm P hints st live rn tl).2.2⟩ x v
 | [],rn,ρ',tl,hI,hl,ht=>⟨ρ',hI,hl,ht⟩
 | s :: r,rn,ρ',tl,hI,hl,ht=>by
  unfold renTm
  by_cases hs:s < st.tm.length
  ·obtain ⟨v,hv,ha⟩:=hR.tms s st.tm[s] (by simp[hs])
   have hg:st.tm.getD s .top=st.tm[s]:=by simp[List.getD,hs]
   rw[hg]
   obtain ⟨ρ1,i1,a1,r1⟩:=ZsJ (P:=P) (hints:=hints) hR 6 rn ρ' (rootId s) st.tm[s] v hI ha
   generalize ren P hints st 6 rn (rootId s) st.tm[s]=q at i1 a1 r1
   obtain ⟨y,rn1⟩:=q
   refine ZlO hR r rn1 ρ1 (tl.set s y) i1 (by simpa using hl) fun i x hx=>?_
   rw[List.getElem?_set] at hx
   split at hx
   ·rename_i e
    subst e
    split at hx
    ·cases hx;exact ⟨v,hv,a1⟩
    ·cases hx
   ·obtain ⟨u,hu,hau⟩:=ht i x hx
    exact ⟨u,hu,hau.mono (Keeps.refl _ _) r1⟩
  ·have hg:st.tm.getD s .top=.top:=by simp[List.getD,hs]
   rw[hg]
   have hr:ren P hints st 6 rn (rootId s) .top=(.top,rn):=rfl
   rw[hr]
   have hset:tl.set s .top=tl:=List.set_eq_of_length_le (by omega)
   simp only[hset]
   exact ZlO hR r rn ρ' tl hI hl ht
theorem Zoh:∀(n i:Nat) (x:AV),(tops n)[i]? =some x→x=.top
 | 0,i,x,h=>by simp[tops] at h
 | n+1,0,x,h=>by simp[tops] at h;exact h.symm
 | n+1,i+1,x,h=>Zoh n i x (by simpa[tops] using h)
theorem ZeQ:∀n,(tops n).length=n
 | 0=>rfl
 | n+1=>by simp[tops,ZeQ n]
theorem Ztc {lab:Lab} (hR:R Mod F ρ w st tm):∃ρ',R Mod F ρ' w (norm P lab st) tm:=by
 have hI0:RI F w st ρ ([],[]) (fun _=>undef):=⟨fun i i' h=>by simp[mapd] at h,fun id v o h=>by simp[find] at h,fun i j id h=>by simp[mapd] at h⟩
 obtain ⟨ρ2,hI,hl,ht⟩:=ZlO (P:=P) (hints:=lab.hints) hR lab.live ([],[]) _ (tops st.tm.length) hI0 (ZeQ _) (fun i x hx=>by
  obtain rfl:=Zoh _ _ _ hx
  have hlt:i < tm.size:=by
   rw[hR.size]
   have:=(List.getElem?_eq_some_iff.1 hx).1
   rwa[ZeQ] at this
  exact ⟨tm[i],by simp[hlt],.top _⟩)
 unfold norm
 generalize renTm P lab.hints st lab.live ([],[]) (tops st.tm.length)=q at hI hl ht
 obtain ⟨tl,rn⟩:=q
 simp only at hI hl ht ⊢
 refine ⟨ρ2,hR.size.trans hl.symm,fun i x hx=>?_,fun id ver o hf=>?_,fun id ver o b hf hfr hbb=>?_,fun id ver E t l hf b hbb=>?_,hR.low,hR.hi,hR.tabs⟩
 ·obtain ⟨v,hv,ha⟩:=ht i x hx
  exact ⟨v,hv,ARep.of_ob (st:=⟨[],rn.2⟩) (st':=⟨tl,rn.2⟩) rfl ha⟩
 ·obtain ⟨_,h2,_⟩:=hI.ob id ver o hf
  exact ORep.mono (Keeps.refl _ _) (Ref.of_ob (st:=⟨[],rn.2⟩) (st':=⟨tl,rn.2⟩) rfl) (fun _ _=>rfl) h2
 ·obtain ⟨h1,h2,h3⟩:=hI.ob id ver o hf
  rcases h3 with ⟨i,hi⟩ | hn
  ·obtain ⟨v0,o0,o1,k1,k2,k3,k4,k5⟩:=hI.m i id hi
   have e:o1=o:=by rw[show find id rn.2=some (ver,o) from hf] at k2;cases k2;rfl
   subst e
   obtain ⟨s1,s2,s3,s4⟩:=hR.sep i v0 o0 b k1 (by rw[←k5];exact hfr) (by rw[←k3];exact hbb)
   refine ⟨s1,s2,s3,fun id' ver' o' hf' hfr' hbb'=>?_⟩
   obtain ⟨_,_,h3'⟩:=hI.ob id' ver' o' hf'
   rcases h3' with ⟨j,hj⟩ | hn
   ·obtain ⟨v2,o2,o3,m1,m2,m3,m4,m5⟩:=hI.m j id' hj
    have e:o3=o':=by rw[show find id' rn.2=some (ver',o') from hf'] at m2;cases m2;rfl
    subst e
    have:=s4 j v2 o2 m1 (by rw[←m5];exact hfr') (by rw[←m3];exact hbb')
    subst this
    rw[hi] at hj
    cases hj
    rfl
   ·rw[hn] at hbb';simp at hbb'
  ·rw[hn] at hbb;simp at hbb
 ·obtain ⟨_,_,h3⟩:=hI.ob id ver _ hf
  rcases h3 with ⟨i,hi⟩ | hn
  ·obtain ⟨v0,o0,o1,k1,k2,k3,k4,k5⟩:=hI.m i id hi
   have e:o1=.row E t l true:=by rw[show find id rn.2=some (ver,.row E t l true) from hf] at k2;cases k2;rfl
   subst e
   cases o0 <;> simp only[Obj.sim] at k4
   rename_i E0 t0 l0 lk0
   have:lk0=true:=by simpa[Obj.free] using k5
   subst this
   exact hR.data i v0 _ _ _ k1 b (by rw[←k3];exact hbb)
  ·rw[hn] at hbb;simp at hbb
theorem ZlD {lab:Lab} {F0:Nat→Prop} {w0:World} {a:Act} (h:Rel Mod F0 w0 st a w):Rel Mod F0 w0 (normL P lab st) a w:=by
 obtain ⟨hd,F,ρ,hR,hE⟩:=h
 obtain ⟨F2,hR2,hE2,_⟩:=Zb7 (lockIds lab st) hR
 obtain ⟨ρ',hR'⟩:=Ztc (P:=P) (lab:=lab) hR2
 exact ⟨hd,F2,ρ',hR',hE.trans hE2⟩
end
end Go.Ev
end

section
namespace Go.Ev
variable [Tabs] [Orgs]
open Go
def Det {α:Type} (m:M α):Prop:=(∀k,m k=none)∨∃a,∀k,m k=k a
theorem Det.pure {α:Type} (a:α):Det (M.pure a):=.inr ⟨a,fun _=>rfl⟩
theorem Det.fail {α:Type} :Det (fail:M α):=.inl fun _=>rfl
theorem Det.cond {α:Type} {b:Bool} {m n:M α} (h:Det m) (h':Det n):Det (bif b then m else n):=by cases b <;> assumption
theorem Det.guard {α:Type} {b:Bool} {m:M α} (h:Det m):Det (fun k=>bif b then m k else none):=by
 cases b
 ·exact .inl fun _=>rfl
 ·exact h
theorem Det.guard' {α:Type} {b:Bool} {m:M α} (h:Det m):Det (fun k=>bif b then none else m k):=by
 cases b
 ·exact h
 ·exact .inl fun _=>rfl
theorem Det.bind {α β:Type} {m:M α} {f:α→M β} (h:Det m) (hf:∀a,Det (f a)):Det (M.bind m f):=by
 rcases h with h | ⟨a,h⟩
 ·exact .inl fun k=>h _
 ·rcases hf a with h' | ⟨b,h'⟩
  ·exact .inl fun k=>(h _).trans (h' k)
  ·exact .inr ⟨b,fun k=>(h _).trans (h' k)⟩
theorem Det.branch {b:Bool} :Det (branch b):=by cases b <;> exact .inr ⟨_,fun _=>rfl⟩
theorem Det.toB {x:AV} :Det (toB x):=by unfold Go.Ev.toB;split <;> first | exact Det.pure _ | exact Det.fail
theorem Det.toI {x:AV} :Det (toI x):=by unfold Go.Ev.toI;split <;> first | exact Det.pure _ | exact Det.fail
theorem Det.boundI {i n:Int} :Det (boundI i n):=Det.guard (Det.pure _)
theorem Det.caseNat {i:Int} :∀ {n:Nat},Det (caseNat i n)
 | 0=>Det.fail
 | n+1=>by
  unfold Go.Ev.caseNat
  cases h:(i==(n:Int))
  ·exact Det.caseNat
  ·exact Det.pure n
theorem Det.unA {op:UnOp} {x:AV} :Det (unA op x):=by unfold Go.Ev.unA;split <;> first | exact Det.pure _ | exact Det.fail
theorem Det.binI {op:BinOp} {k k':IntKind} {a b:Int} :Det (binI op k k' a b):=by
 unfold Go.Ev.binI
 cases op <;> simp only <;> first
  | exact Det.guard' (Det.pure _)
  | (split <;> first | exact Det.pure _ | exact Det.fail | exact Det.guard' (Det.pure _) | (split <;> first | exact Det.pure _ | exact Det.fail))
theorem Det.binS {op:BinOp} {a b:ByteArray} :Det (binS op a b):=by
 unfold Go.Ev.binS
 cases op <;> simp only <;> first
  | exact Det.guard' (Det.pure _)
  | exact Det.pure _
  | exact Det.fail
theorem Det.binA {P:Program} {st:St} {op:BinOp} {t:TypeId} {x y:AV} :Det (binA P st op t x y):=by
 unfold Go.Ev.binA
 split
 ·exact Det.binI
 ·exact Det.binS
 ·split <;> first | exact Det.pure _ | exact Det.fail
 ·refine Det.cond Det.fail ?_
  split <;> first | exact Det.pure _ | exact Det.fail
 ·split <;> first | exact Det.pure _ | exact Det.fail
theorem Det.lenA {st:St} {x:AV} :Det (lenA st x):=by
 unfold Go.Ev.lenA
 split <;> first | exact Det.pure _ | exact Det.fail | (split <;> first | exact Det.pure _ | exact Det.fail | (split <;> first | exact Det.pure _ | exact Det.fail))
def Fr2 (m m2:M St) (st st2:St) (d:Option Nat):Prop:=(∀k,m k=none)∨∃v,(∀k,m k=k (st.put d v))∧∀k,m2 k=k (st2.put d v)
section
variable {st st2:St} {d:Option Nat}
theorem Fr2.pure (v:AV):Fr2 (M.pure (st.put d v)) (M.pure (st2.put d v)) st st2 d:=.inr ⟨v,fun _=>rfl,fun _=>rfl⟩
theorem Fr2.fail {m2:M St} :Fr2 fail m2 st st2 d:=.inl fun _=>rfl
theorem Fr2.bind {α:Type} {m:M α} (h:Det m) {f g:α→M St} (hf:∀a,Fr2 (f a) (g a) st st2 d):Fr2 (M.bind m f) (M.bind m g) st st2 d:=by
 rcases h with h | ⟨a,h⟩
 ·exact .inl fun k=>h _
 ·rcases hf a with h' | ⟨v,h1,h2⟩
  ·exact .inl fun k=>(h _).trans (h' k)
  ·exact .inr ⟨v,fun k=>(h _).trans (h1 k),fun k=>(h _).trans (h2 k)⟩
theorem Fr2.cond {b:Bool} {m n m2 n2:M St} (h:Fr2 m m2 st st2 d) (h':Fr2 n n2 st st2 d):Fr2 (bif b then m else n) (bif b then m2 else n2) st st2 d:=by cases b <;> assumption
theorem Fr2.opt {x:Option AV} :Fr2 (match x with | some v=>M.pure (st.put d v) | none=>Go.Ev.fail) (match x with | some v=>M.pure (st2.put d v) | none=>Go.Ev.fail) st st2 d:=by
 cases x
 ·exact Fr2.fail
 ·exact Fr2.pure _
theorem Fr2.elim {b:Option AV} {f:AV→AV} {v:AV} :Fr2 (fun c=>Option.elim b (M.pure (st.put d v) c) (fun u=>M.pure (st.put d (f u)) c)) (fun c=>Option.elim b (M.pure (st2.put d v) c) (fun u=>M.pure (st2.put d (f u)) c)) st st2 d:=by
 cases b
 ·exact Fr2.pure _
 ·exact Fr2.pure _
end
theorem Zsm {P:Program} {cl:Cl} {o:Oper} {tm tm2:List AV} {ob:List (Id×Nat×Obj)} (hv:isV o.op=true) (hev:∀x∈o.op.operands,(⟨tm2,ob⟩:St).ev x=(⟨tm,ob⟩:St).ev x):
  Fr2 (opA P cl o ⟨tm,ob⟩) (opA P cl o ⟨tm2,ob⟩) ⟨tm,ob⟩ ⟨tm2,ob⟩ o.dst:=by
 have hobj:∀id ver,(⟨tm2,ob⟩:St).obj id ver=(⟨tm,ob⟩:St).obj id ver:=fun _ _=>rfl
 have hbeh:∀x,behind ⟨tm2,ob⟩ x=behind ⟨tm,ob⟩ x:=fun x=>by cases x <;> rfl
 have hlive:∀x,live ⟨tm2,ob⟩ x=live ⟨tm,ob⟩ x:=fun x=>by cases x <;> rfl
 have hnil:∀T x y,isNil P T ⟨tm2,ob⟩ x y=isNil P T ⟨tm,ob⟩ x y:=fun T x y=>rfl
 have hext:∀t x,extra ⟨tm2,ob⟩ t x=extra ⟨tm,ob⟩ t x:=fun t x=>rfl
 have hbin:∀op T x y,binA P ⟨tm2,ob⟩ op T x y=binA P ⟨tm,ob⟩ op T x y:=fun op T x y=>rfl
 cases h:o.op <;> rw[h] at hv hev <;> simp only[isV] at hv <;> first | (cases hv;done) | skip
 case move x=>
  simp only[opA,h,hev x (by simp[Op.operands])]
  exact Fr2.pure _
 case assign x=>
  simp only[opA,h,hev x (by simp[Op.operands])]
  exact Fr2.pure _
 case pick c x y=>
  simp only[opA,h,hev c (by simp[Op.operands]),hev x (by simp[Op.operands]),hev y (by simp[Op.operands])]
  refine Fr2.bind Det.toB fun b=>Fr2.bind Det.branch fun b'=>?_
  cases b' <;> exact Fr2.pure _
 case load T x=>
  simp only[opA,h,hev x (by simp[Op.operands]),hbeh]
  split
  ·exact Fr2.cond (Fr2.pure _) Fr2.fail
  ·exact Fr2.opt
  ·exact Fr2.fail
 case nilCheck x=>
  simp only[opA,h,hev x (by simp[Op.operands]),hlive]
  exact Fr2.cond (Fr2.pure _) Fr2.fail
 case binOp op T x y T'=>
  simp only[opA,h,hev x (by simp[Op.operands]),hev y (by simp[Op.operands]),hbin]
  exact Fr2.bind Det.binA fun v=>Fr2.pure _
 case unOp op T x=>
  simp only[opA,h,hev x (by simp[Op.operands])]
  exact Fr2.bind Det.unA fun v=>Fr2.pure _
 case convert a b x=>
  simp only[opA,h,hev x (by simp[Op.operands]),hext]
  split <;> first | exact Fr2.pure _ | exact Fr2.fail | (split <;> first | exact Fr2.fail | (split <;> first | exact Fr2.pure _ | exact Fr2.fail))
 case makeInterface T x=>
  simp only[opA,h,hev x (by simp[Op.operands])]
  split <;> first | exact Fr2.pure _ | exact Fr2.fail
 case fieldAddr S x j=>
  simp only[opA,h,hev x (by simp[Op.operands]),hlive]
  split
  ·exact Fr2.fail
  ·exact Fr2.cond (Fr2.pure _) Fr2.fail
 case field T x j=>
  simp only[opA,h,hev x (by simp[Op.operands])]
  split
  ·split
   ·exact Fr2.opt
   ·exact Fr2.fail
  ·exact Fr2.fail
 case indexAddr T x i=>
  simp only[opA,h,hev x (by simp[Op.operands]),hev i (by simp[Op.operands]),hlive,hobj]
  refine Fr2.bind Det.toI fun p=>?_
  split
  ·split
   ·exact Fr2.cond (Fr2.bind Det.boundI fun n=>Fr2.pure _) Fr2.fail
   ·exact Fr2.fail
  ·split
   ·exact Fr2.cond (Fr2.bind Det.boundI fun n=>Fr2.pure _) Fr2.fail
   ·exact Fr2.fail
  ·split
   ·split
    ·exact Fr2.cond (Fr2.bind Det.boundI fun n=>Fr2.pure _) Fr2.fail
    ·exact Fr2.fail
   ·exact Fr2.fail
  ·refine Fr2.cond ?_ Fr2.fail
   split
   ·exact Fr2.bind Det.caseNat fun n=>Fr2.pure _
   ·exact Fr2.fail
  ·exact Fr2.fail
 case index T x i=>
  simp only[opA,h,hev x (by simp[Op.operands]),hev i (by simp[Op.operands])]
  refine Fr2.bind Det.toI fun p=>?_
  split
  ·exact Fr2.bind Det.boundI fun n=>Fr2.pure _
  ·split
   ·exact Fr2.bind Det.caseNat fun n=>Fr2.opt
   ·exact Fr2.fail
  ·exact Fr2.fail
 case extract x j=>
  simp only[opA,h,hev x (by simp[Op.operands])]
  split
  ·exact Fr2.opt
  ·exact Fr2.fail
 case lookup T x k ok=>
  simp only[opA,h,hev x (by simp[Op.operands]),hev k (by simp[Op.operands]),hobj]
  split
  ·split
   ·split
    ·refine Fr2.cond (Fr2.cond ?_ (Fr2.pure _)) Fr2.fail
     rename_i kt vt l _ _ _ key z _ _
     cases mget key l
     ·exact Fr2.pure _
     ·exact Fr2.pure _
    ·exact Fr2.fail
   ·exact Fr2.fail
  ·exact Fr2.fail
 case typeAssert x T0 T ok=>
  simp only[opA,h,hev x (by simp[Op.operands])]
  split
  ·exact Fr2.fail
  ·exact Fr2.fail
  ·refine Fr2.cond (Fr2.pure _) (Fr2.cond ?_ Fr2.fail)
   split
   ·exact Fr2.pure _
   ·exact Fr2.fail
  ·exact Fr2.fail
theorem Fr2.guard {st st2:St} {d:Option Nat} {b:Bool} {m m2:M St} (h:Fr2 m m2 st st2 d):Fr2 (fun k=>bif b then m k else none) (fun k=>bif b then m2 k else none) st st2 d:=by
 cases b
 ·exact .inl fun _=>rfl
 ·exact h
theorem Det.upto {x:Option Operand} {st:St} {d:Int} :Det (upto x st d):=by
 unfold Go.Ev.upto
 split
 ·exact Det.pure _
 ·exact Det.bind Det.toI fun _=>Det.pure _
theorem Znt {x:Option Operand} {st st2:St} {d:Int} (h:∀y,x=some y→st2.ev y=st.ev y):upto x st2 d=upto x st d:=by
 cases x with
 | none=>rfl
 | some y=>simp only[Go.Ev.upto,h y rfl]
theorem Zma {P:Program} {cl:Cl} {o:Oper} {st st2:St} {T:TypeId} {x:Operand} {lo hi:Option Operand} (h:o.op=.slice T x lo hi none) (hsl:slX (st.ev x) lo=true)
  (hev:∀y∈o.op.operands,st2.ev y=st.ev y) (hobj:∀id∈men1 (st.ev x),∀ver,st2.obj id ver=st.obj id ver):Fr2 (opA P cl o st) (opA P cl o st2) st st2 o.dst:=by
 rw[h] at hev
 have hlo:∀d,upto lo st2 d=upto lo st d:=fun d=>Znt fun y hy=>hev y (by subst hy;simp[Op.operands])
 have hhi:∀d,upto hi st2 d=upto hi st d:=fun d=>Znt fun y hy=>hev y (by subst hy;simp[Op.operands])
 simp only[opA,h,hev x (by simp[Op.operands]),hlo,hhi]
 generalize st.ev x=a at hsl hobj ⊢
 split
 ·exact Fr2.bind Det.upto fun l=>Fr2.bind Det.upto fun h=>Fr2.guard (Fr2.pure _)
 ·exact Fr2.cond (Fr2.bind Det.upto fun l=>Fr2.bind Det.upto fun h=>Fr2.guard (Fr2.pure _)) Fr2.fail
 ·rename_i id ver pre e _
  rw[hobj id (by simp[men1])]
  cases lo with
  | some y=>cases hsl
  | none=>
   split
   ·exact Fr2.cond (Fr2.bind Det.upto fun h=>Fr2.guard (Fr2.pure _)) Fr2.fail
   ·rename_i e;cases e
   ·exact Fr2.fail
 ·exact Fr2.fail
def DetC (cl:Cl):Prop:=∀f xs,Det (cl f xs)
theorem ZaP {st st2:St} :∀(l:List Operand),(∀x∈l,st2.ev x=st.ev x)→asArg st2 l=asArg st l
 | [],_=>rfl
 | x :: r,h=>by simp only[asArg,h x (by simp),ZaP r fun y hy=>h y (by simp[hy])]
theorem Zrp {tm tm2:List AV} {ob:List (Id×Nat×Obj)} :∀(n:Nat) (rows:Bool),give ⟨tm2,ob⟩ rows n=give ⟨tm,ob⟩ rows n
 | 0,_=>rfl
 | n+1,rows=>by
  funext x
  have h1:=Zrp (tm:=tm) (tm2:=tm2) (ob:=ob) n rows
  have h2:=Zrp (tm:=tm) (tm2:=tm2) (ob:=ob) n true
  have hobj:∀id ver,(⟨tm2,ob⟩:St).obj id ver=(⟨tm,ob⟩:St).obj id ver:=fun _ _=>rfl
  unfold give
  rw[h1,h2]
  rfl
theorem Zp5 {P:Program} {cl:Cl} (hcl:DetC cl) {o:Oper} {tm tm2:List AV} {ob:List (Id×Nat×Obj)} (hev:∀x∈o.op.operands,(⟨tm2,ob⟩:St).ev x=(⟨tm,ob⟩:St).ev x):
  Fr2 (opD P cl o ⟨tm,ob⟩) (opD P cl o ⟨tm2,ob⟩) ⟨tm,ob⟩ ⟨tm2,ob⟩ o.dst:=by
 unfold opD
 cases hv:isV o.op with
 | true=>exact Zsm hv hev
 | false=>
  simp only[cond_false]
  split
  ·rename_i T x lo hi h
   rw[hev x (by rw[h];simp[Op.operands])]
   cases hs:slX ((⟨tm,ob⟩:St).ev x) lo with
   | false=>exact Fr2.fail
   | true=>exact Zma h hs hev fun _ _ _=>rfl
  ·rename_i c h
   rw[h] at hev
   split
   ·rename_i f hc
    rw[hev f (by simp[Op.operands,Call.operands,hc])]
    split
    ·refine Fr2.cond ?_ Fr2.fail
     unfold callD
     rw[ZaP (st:=⟨tm,ob⟩) (st2:=⟨tm2,ob⟩) c.args.toList (fun x hx=>hev x (by
      simp only[Op.operands,Call.operands,hc]
      simp at hx ⊢
      exact .inr hx)),Zrp (tm:=tm) (tm2:=tm2)]
     split
     ·exact Fr2.bind (hcl _ _) fun ans=>Fr2.cond (Fr2.pure _) Fr2.fail
     ·exact Fr2.fail
    ·exact Fr2.fail
   ·rename_i hc
    simp only[opA,h,hc]
    rw[ZaP (st:=⟨tm,ob⟩) (st2:=⟨tm2,ob⟩) c.args.toList (fun x hx=>hev x (by
      simp only[Op.operands,Call.operands,hc]
      simpa using hx))]
    split
    ·refine Fr2.cond ?_ Fr2.fail
     have hlen:∀x,lenA ⟨tm2,ob⟩ x=lenA ⟨tm,ob⟩ x:=fun x=>by cases x <;> rfl
     rw[hlen]
     exact Fr2.bind Det.lenA fun v=>Fr2.pure _
    ·exact Fr2.fail
   ·rename_i hc
    simp only[opA,h,hc]
    rw[ZaP (st:=⟨tm,ob⟩) (st2:=⟨tm2,ob⟩) c.args.toList (fun x hx=>hev x (by
      simp only[Op.operands,Call.operands,hc]
      simpa using hx))]
    split
    ·exact Fr2.bind Det.toI fun p=>Fr2.bind Det.toI fun q=>Fr2.pure _
    ·exact Fr2.fail
   ·rename_i hc
    simp only[opA,h,hc]
    rw[ZaP (st:=⟨tm,ob⟩) (st2:=⟨tm2,ob⟩) c.args.toList (fun x hx=>hev x (by
      simp only[Op.operands,Call.operands,hc]
      simpa using hx))]
    split
    ·exact Fr2.bind Det.toI fun p=>Fr2.bind Det.toI fun q=>Fr2.pure _
    ·exact Fr2.fail
   ·exact Fr2.fail
  ·exact Fr2.fail
end Go.Ev
end

section
namespace Go.Ev
variable [Tabs] [Orgs]
open Go
theorem Zkv:∀(st:St) (args outs:List AV),outs.all isTop=true→backA st (args.zip outs)=some st
 | st,[],outs,_=>by simp[backA]
 | st,a :: ar,[],_=>by simp[backA]
 | st,a :: ar,o :: os,h=>by
  simp only[List.all_cons,Bool.and_eq_true] at h
  cases o <;> simp only[isTop] at h <;> first | (cases h.1;done) | skip
  rw[List.zip_cons_cons]
  have ih:=Zkv st ar os h.2
  cases a with
  | pt i v off=>cases off <;> exact ih
  | _=>exact ih
theorem Zmg:∀(outs:List AV),outs.all isTop=true→hasSl.anyB (hasSl 6) outs=false
 | [],_=>rfl
 | o :: os,h=>by
  simp only[List.all_cons,Bool.and_eq_true] at h
  cases o <;> simp only[isTop] at h <;> first | (cases h.1;done) | skip
  simp only[hasSl.anyB,Zmg os h.2]
  rfl
theorem Zs8 {st:St} {id:Id} {r:AV} {n:Nat} (h:flatB r=true):imp (n+1) st id r=some (r,st):=by
 cases r <;> simp only[flatB] at h <;> first | (cases h;done) | (unfold imp;simp only[flatB,h];rfl)
theorem Zrn {cl:Cl} (hcl:DetC cl) {f:FuncId} {args:List AV} {dst:Option Nat} {st:St} {k:St→Option Ans} {y:Ans} (h:callD cl f args dst st k=some y):callA cl f args dst st k=some y:=by
 unfold callD at h
 unfold callA
 cases hg:allG (give st (takes cl f) 6) args with
 | none=>rw[hg] at h;cases h
 | some p=>
  obtain ⟨forms,is,os⟩:=p
  rw[hg] at h
  cases os with
  | cons x r=>cases h
  | nil=>
   simp only[nodupB,apartB,List.all_nil,Bool.and_true,cond_true] at h ⊢
   rcases hcl f forms with hd | ⟨⟨r,outs⟩,hd⟩
   ·simp only[M.bind,hd] at h;cases h
   ·simp only[M.bind,hd] at h ⊢
    cases hc:(flatB r&& !(hasSl 6 r)&&outs.all isTop) with
    | false=>rw[hc] at h;cases h
    | true=>
     rw[hc] at h
     simp only[Bool.and_eq_true,Bool.not_eq_true'] at hc
     obtain ⟨⟨h1,h2⟩,h3⟩:=hc
     simp only[h2,Zmg _ h3,Bool.or_self,cond_false,dropIds,Zkv _ _ _ h3]
     cases dst with
     | none=>exact h
     | some d=>simp only[Zs8 h1];exact h
theorem ZtY {st:St} {b:Bool} {i v:Nat} {x:Given} (h:give st b 6 (.pt i v 0)=some x):x.2.2≠ []:=by
 have e:give st b 6 (.pt i v 0)=(match st.obj i v with
  | some (.box T cs _)=>(allG (give st true 5) cs).map fun (vs,is,os)=>(.bx T vs,is,i :: os)
  | _=>none):=rfl
 rw[e] at h
 split at h
 ·generalize allG (give st true 5) _=z at h
  cases z with
  | none=>cases h
  | some p=>
   obtain ⟨p1,p2,p3⟩:=p
   cases h
   exact List.cons_ne_nil _ _
 ·cases h
theorem ZnW {st:St} {b:Bool} {args forms:List AV} {x:AV} {is os:List Id} (hs:same2 args=some x) (hg:allG (give st b 6) args=some (forms,is,os)):os≠ []:=by
 obtain ⟨i,v,rfl,rfl⟩:=Znu hs
 rw[allG] at hg
 obtain ⟨⟨y,i1,o1⟩,h1,h2⟩:=Option.bind_eq_some_iff.1 hg
 obtain ⟨⟨ys,i2,o2⟩,h3,h4⟩:=Option.map_eq_some_iff.1 h2
 have:=ZtY h1
 simp only[Prod.mk.injEq] at h4
 intro he
 rw[he] at h4
 simp at h4
 exact this h4.2.2.1
theorem Zq2 {cl:Cl} (hcl:DetC cl) {f:FuncId} {args:List AV} {dst:Option Nat} {st:St} {k:St→Option Ans} {y:Ans} (h:callD cl f args dst st k=some y):callX cl f args dst st k=some y:=by
 unfold callX
 cases hs:same2 args with
 | none=>exact Zrn hcl h
 | some x=>
  exfalso
  unfold callD at h
  cases hg:allG (give st (takes cl f) 6) args with
  | none=>rw[hg] at h;cases h
  | some p=>
   obtain ⟨forms,is,os⟩:=p
   rw[hg] at h
   cases os with
   | cons a b=>cases h
   | nil=>exact ZnW hs hg rfl
theorem Zt9 {P:Program} {cl:Cl} (hcl:DetC cl) {o:Oper} {st:St} {k:St→Option Ans} {y:Ans} (h:opD P cl o st k=some y):opA P cl o st k=some y:=by
 unfold opD at h
 cases hv:isV o.op with
 | true=>rw[hv] at h;exact h
 | false=>
  rw[hv] at h
  simp only[cond_false] at h
  cases hop:o.op <;> rw[hop] at h <;> first | (cases h;done) | skip
  case slice T x lo hi mx=>
   cases mx with
   | some m=>cases h
   | none=>
    simp only at h
    cases hs:slX (st.ev x) lo with
    | false=>rw[hs] at h;cases h
    | true=>rw[hs] at h;exact h
  rename_i c
  simp only at h
  cases hc:c.callee with
  | invoke r m=>rw[hc] at h;cases h
  | builtin b=>rw[hc] at h;cases b <;> first | exact h | (cases h;done)
  | value f=>
   rw[hc] at h
   simp only at h
   simp only[opA,hop,hc]
   cases hf:st.ev f with
   | cst u=>
    rw[hf] at h
    cases u with
    | func g first caps=>
     cases g with
     | func g=>
      simp only at h ⊢
      cases he:(first.isEmpty&&caps.isEmpty) with
      | false=>rw[he] at h;cases h
      | true=>rw[he] at h;exact Zq2 hcl h
     | _=>cases h
    | _=>cases h
   | _=>rw[hf] at h;cases h
section
variable {P:Program} {Mod F0:Nat→Prop} {w0:World} {cl:Cl} {ops:Array Oper} {st0:St} {vs:Nat→AV}
def dstOf (ops:Array Oper) (i:Nat):Option Nat:=(ops[i]?).bind (·.dst)
def acc (ops:Array Oper) (st0:St) (vs:Nat→AV) (S:Nat→Bool):Nat→St
 | 0=>st0
 | n+1=>if S n then (acc ops st0 vs S n).put (dstOf ops n) (vs n) else acc ops st0 vs S n
theorem Zud (st:St) (d:Option Nat) (v:AV):(st.put d v).ob=st.ob:=by cases d <;> rfl
theorem ZsX (st:St) (d:Option Nat) (v:AV):(st.put d v).tm.length=st.tm.length:=by cases d <;> simp[St.put]
theorem ZtN (S:Nat→Bool):∀n,(acc ops st0 vs S n).ob=st0.ob
 | 0=>rfl
 | n+1=>by unfold acc;split <;> simp[Zud,ZtN S n]
theorem ZlV (S:Nat→Bool):∀n,(acc ops st0 vs S n).tm.length=st0.tm.length
 | 0=>rfl
 | n+1=>by unfold acc;split <;> simp[ZsX,ZlV S n]
theorem Zqp {st:St} {d:Option Nat} {v:AV} {t:Nat} (h:d≠some t):(st.put d v).tm.getD t .top=st.tm.getD t .top:=by
 cases d with
 | none=>rfl
 | some e=>
  have:e≠t:=fun x=>h (by rw[x])
  simp[St.put,List.getD_eq_getElem?_getD,List.getElem?_set_ne this]
theorem ZrF {st st2:St} {v:AV} {t:Nat} (h:st.tm.length=st2.tm.length):(st.put (some t) v).tm.getD t .top=(st2.put (some t) v).tm.getD t .top:=by
 simp only[St.put,List.getD_eq_getElem?_getD,List.getElem?_set]
 simp[h]
theorem ZrB {S T:Nat→Bool} {t:Nat} :∀n,(∀j,j < n→dstOf ops j=some t→S j=T j)→(acc ops st0 vs S n).tm.getD t .top=(acc ops st0 vs T n).tm.getD t .top
 | 0,_=>rfl
 | n+1,h=>by
  have ih:=ZrB n fun j hj=>h j (by omega)
  unfold acc
  by_cases hd:dstOf ops n=some t
  ·rw[h n (by omega) hd,hd]
   split
   ·exact ZrF (by rw[ZlV,ZlV])
   ·exact ih
  ·split <;> split <;> simp only[Zqp hd,ih]
theorem ZhJ {S T:Nat→Bool} :∀n,(∀j,j < n→S j=T j)→acc ops st0 vs S n=acc ops st0 vs T n
 | 0,_=>rfl
 | n+1,h=>by
  unfold acc
  rw[h n (by omega),ZhJ n fun j hj=>h j (by omega)]
theorem St.put_comm {st:St} {d e:Option Nat} {u v:AV} (h:∀t,d=some t→e≠some t):(st.put d u).put e v=(st.put e v).put d u:=by
 cases d with
 | none=>cases e <;> rfl
 | some t=>
  cases e with
  | none=>rfl
  | some s=>
   have:t≠s:=fun x=>h t rfl (by rw[x])
   simp[St.put,List.set_comm _ _ this]
def addS (S:Nat→Bool) (i:Nat):Nat→Bool:=fun j=>j==i || S j
theorem Zso {S:Nat→Bool} {i:Nat} (hi:S i=false):∀n,i < n→(∀j,i < j→j < n→S j=true→∀t,dstOf ops i=some t→dstOf ops j≠some t)→
  (acc ops st0 vs S n).put (dstOf ops i) (vs i)=acc ops st0 vs (addS S i) n
 | 0,h,_=>by omega
 | n+1,h,hj=>by
  by_cases hin:i=n
  ·subst hin
   unfold acc
   rw[hi,if_neg (by simp),if_pos (by simp[addS]),ZhJ (T:=addS S i) i fun j hj=>by simp[addS];intro e;omega]
  ·have ih:=Zso hi n (by omega) fun j h1 h2=>hj j h1 (by omega)
   have hne:addS S i n=S n:=by simp[addS];intro e;omega
   unfold acc
   rw[hne]
   split
   ·rename_i hS
    rw[←ih,St.put_comm fun t ht=>hj n (by omega) (by omega) hS t ht]
   ·exact ih
def wantA (ops:Array Oper) (o:Oper) (st:St):Option Bool:=
 match o.guard with
 | none=>some true
 | some (j,want)=>match dstOf ops j with
  | none=>none
  | some t=>match st.tm.getD t .top with
   |.d .bool b=>some (b==want)
   |.cst u=>bif notBool u then some false else none
   | _=>none
def Step1 (P:Program) (cl:Cl) (ops:Array Oper) (o:Oper) (st:St) (v:AV):Prop:=
 (wantA ops o st=some true∧∀k,opD P cl o st k=k (st.put o.dst v))∨(wantA ops o st=some false∧v=sk)
def Chain (P:Program) (cl:Cl) (ops:Array Oper):List Oper→St→List AV→St→Prop
 | [],st,[],st'=>st'=st
 | o :: r,st,v :: vs,st'=>Step1 P cl ops o st v∧Chain P cl ops r (st.put o.dst v) vs st'
 | _,_,_,_=>False
theorem ZsL (hcl:DetC cl) (o:Oper) (st:St):(∀k,opD P cl o st k=none)∨∃v,∀k,opD P cl o st k=k (st.put o.dst v):=by
 rcases Zp5 (P:=P) hcl (o:=o) (tm:=st.tm) (tm2:=st.tm) (ob:=st.ob) (fun _ _=>rfl) with h | ⟨v,h,_⟩
 ·exact .inl h
 ·exact .inr ⟨v,h⟩
theorem ZkA (hcl:DetC cl) {k:St→Option Ans} {y:Ans} :∀(l:List Oper) (st:St),opsD P cl ops l st k=some y→∃vs st',Chain P cl ops l st vs st'∧k st'=some y
 | [],st,h=>⟨[],st,rfl,h⟩
 | o :: r,st,h=>by
  have run:wantA ops o st=some true→(opD P cl o st) (fun st=>opsD P cl ops r st k)=some y→∃vs st',Chain P cl ops (o :: r) st vs st'∧k st'=some y:=fun hw h=>by
   rcases ZsL (P:=P) hcl o st with hd | ⟨v,hd⟩
   ·rw[hd] at h;cases h
   ·rw[hd] at h
    obtain ⟨vs,st',hc,hk⟩:=ZkA hcl r _ h
    exact ⟨v :: vs,st',⟨.inl ⟨hw,hd⟩,hc⟩,hk⟩
  have skip:wantA ops o st=some false→opsD P cl ops r (st.put o.dst sk) k=some y→∃vs st',Chain P cl ops (o :: r) st vs st'∧k st'=some y:=fun hw h=>by
   obtain ⟨vs,st',hc,hk⟩:=ZkA hcl r _ h
   exact ⟨sk :: vs,st',⟨.inr ⟨hw,rfl⟩,hc⟩,hk⟩
  cases hg:o.guard with
  | none=>
   simp only[opsD,hg] at h
   exact run (by simp[wantA,hg]) h
  | some jw=>
   obtain ⟨j,want⟩:=jw
   cases ht:(ops[j]?).bind (·.dst) with
   | none=>simp only[opsD,hg,ht] at h;cases h
   | some t=>
    cases hb:st.tm.getD t .top with
    | d T b=>
     cases T with
     | bool=>
      have hset:({ st with tm:=st.tm.set t (.d .bool b) } :St)=st:=by
       cases st with
       | mk tmm obb=>simp only[St.mk.injEq,and_true];exact ZnY (st:=⟨tmm,obb⟩) hb (by simp)
      have hw:wantA ops o st=some (b==want):=by simp only[wantA,hg,dstOf,ht,hb]
      simp only[opsD,hg,ht,hb] at h
      cases b <;> cases want <;> simp only[M.bind,branch,cond_true,cond_false] at h <;> rw[hset] at h
      ·exact run hw h
      ·exact skip hw h
      ·exact skip hw h
      ·exact run hw h
     | _=>simp only[opsD,hg,ht,hb] at h;cases h
    | cst u=>
     simp only[opsD,hg,ht,hb] at h
     cases hn:notBool u with
     | false=>rw[hn] at h;cases h
     | true=>
      rw[hn] at h
      exact skip (by simp only[wantA,hg,dstOf,ht,hb,hn,cond_true]) h
    | _=>simp only[opsD,hg,ht,hb] at h;cases h
theorem Zl7 {us0:List AV} :∀(l:List Oper) (i:Nat) (us:List AV) (st st':St),i≤ops.size→ops.toList.drop i=l→us0.drop i=us→Chain P cl ops l st us st'→st=acc ops st0 (fun j=>us0.getD j .top) (fun _=>true) i→
  st'=acc ops st0 (fun j=>us0.getD j .top) (fun _=>true) ops.size∧∀j o,i≤j→ops[j]? =some o→Step1 P cl ops o (acc ops st0 (fun j=>us0.getD j .top) (fun _=>true) j) (us0.getD j .top)
 | [],i,us,st,st',hi,hl,_,hc,hst=>by
  have hsz:ops.size=i:=by
   have:=congrArg List.length hl
   simp at this
   omega
  cases us with
  | nil=>
   simp only[Chain] at hc
   subst hc
   exact ⟨by rw[hsz];exact hst,fun j o hij ho=>by
    have:=(Array.getElem?_eq_some_iff.1 ho).1
    omega⟩
  | cons u us=>exact hc.elim
 | o :: r,i,[],st,st',_,hl,_,hc,hst=>hc.elim
 | o :: r,i,u :: us,st,st',hi,hl,hu,hc,hst=>by
  obtain ⟨h1,h2⟩:=hc
  have ho:ops[i]? =some o:=by
   have:(ops.toList.drop i)[0]? =some o:=by rw[hl];rfl
   simpa using this
  have hl':ops.toList.drop (i+1)=r:=by rw[←List.tail_drop,hl];rfl
  have hu':us0.drop (i+1)=us:=by rw[←List.tail_drop,hu];rfl
  have hui:us0.getD i .top=u:=by
   have:(us0.drop i)[0]? =some u:=by rw[hu];rfl
   rw[List.getElem?_drop] at this
   simp only[Nat.add_zero] at this
   rw[List.getD_eq_getElem?_getD,this];rfl
  have hst':st.put o.dst u=acc ops st0 (fun j=>us0.getD j .top) (fun _=>true) (i+1):=by
   unfold acc
   rw[if_pos rfl,←hst]
   simp only[hui,dstOf,ho,Option.bind_some]
  have hlt:=(Array.getElem?_eq_some_iff.1 ho).1
  obtain ⟨k1,k2⟩:=Zl7 r (i+1) us _ st' (by omega) hl' hu' h2 hst'
  refine ⟨k1,fun j o' hij ho'=>?_⟩
  by_cases hji:i=j
  ·subst hji
   rw[ho] at ho'
   cases ho'
   rw[←hst,hui]
   exact h1
  ·exact k2 j o' (by omega) ho'
theorem Zki:∀(l:List Oper) (a:List Nat) (j:Nat),j < a.length→(aheads l a).getD j 0=a.getD j 0
 | [],_,_,_=>rfl
 | o :: r,a,j,h=>by
  unfold aheads
  rw[Zki r _ j (by simp;omega)]
  simp[List.getD_eq_getElem?_getD,List.getElem?_append_left h]
theorem ZrN {acc:List Nat} {i:Nat} :∀(es:List Edge) (s:Nat),Nat.testBit (es.foldl (fun s e=>bif Region.binds .any e then s ||| 2 ^ e.on ||| acc.getD e.on 0 else s) s) i=true→
  Nat.testBit s i=true∨∃e∈es,Region.binds .any e=true∧(e.on=i∨Nat.testBit (acc.getD e.on 0) i=true)
 | [],s,h=>.inl h
 | e :: es,s,h=>by
  rw[List.foldl_cons] at h
  rcases ZrN es _ h with h | ⟨e',he',h⟩
  ·cases hb:Region.binds .any e with
   | false=>rw[hb] at h;exact .inl h
   | true=>
    rw[hb] at h
    simp only[cond_true,Nat.testBit_or,Bool.or_eq_true] at h
    rcases h with (h | h) | h
    ·exact .inl h
    ·refine .inr ⟨e,by simp,hb,.inl ?_⟩
     rw[Nat.testBit_two_pow] at h
     simpa using h
    ·exact .inr ⟨e,by simp,hb,.inr h⟩
  ·exact .inr ⟨e',by simp[he'],h⟩
theorem Zin:∀(l:List Oper) (a:List Nat) (j i:Nat),a.length≤j→Nat.testBit ((aheads l a).getD j 0) i=true→
  ∃o,l[j - a.length]? =some o∧∃e∈o.after.toList,Region.binds .any e=true∧(e.on=i∨(e.on < j∧Nat.testBit ((aheads l a).getD e.on 0) i=true))
 | [],a,j,i,hj,h=>by
  simp only[aheads] at h
  rw[List.getD_eq_getElem?_getD,List.getElem?_eq_none hj] at h
  simp at h
 | o :: r,a,j,i,hj,h=>by
  unfold aheads at h ⊢
  by_cases hja:j=a.length
  ·subst hja
   rw[Zki r _ _ (by simp)] at h
   have hget:(a++[o.after.toList.foldl (fun s e=>bif Region.binds .any e then s ||| 2 ^ e.on ||| a.getD e.on 0 else s) 0]).getD a.length 0=o.after.toList.foldl (fun s e=>bif Region.binds .any e then s ||| 2 ^ e.on ||| a.getD e.on 0 else s) 0:=by
    simp[List.getD_eq_getElem?_getD]
   rw[hget] at h
   rcases ZrN _ _ h with h | ⟨e,he,hb,h⟩
   ·simp at h
   ·refine ⟨o,by simp,e,he,hb,h.imp id fun h=>?_⟩
    have hlt:e.on < a.length:=by
     rcases Nat.lt_or_ge e.on a.length with h' | h'
     ·exact h'
     ·rw[List.getD_eq_getElem?_getD,List.getElem?_eq_none h'] at h;simp at h
    refine ⟨hlt,?_⟩
    rw[Zki r _ _ (by simp;omega)]
    simpa[List.getD_eq_getElem?_getD,List.getElem?_append_left hlt] using h
  ·obtain ⟨o',h1,h2⟩:=Zin r _ j i (by simp;omega) h
   refine ⟨o',?_,h2⟩
   rw[show j - a.length=(j - (a.length+1))+1 by omega]
   simpa using h1
def Closed (ops:Array Oper) (S:Nat→Bool):Prop:=∀j o,ops[j]? =some o→S j=true→∀e∈o.after,Region.binds .any e=true→S e.on=true
theorem ZbH {S:Nat→Bool} (hS:Closed ops S):∀(j i:Nat),S j=true→Nat.testBit ((aheads ops.toList []).getD j 0) i=true→S i=true:=by
 intro j
 induction j using Nat.strongRecOn with
 | _ j ih=>
  intro i hj h
  obtain ⟨o,ho,e,he,hb,h⟩:=Zin ops.toList [] j i (by simp) h
  have ho':ops[j]? =some o:=by simpa using ho
  have hon:=hS j o ho' hj e (by simpa using he) hb
  rcases h with h | ⟨hlt,h⟩
  ·rw[←h];exact hon
  ·exact ih e.on hlt i hon h
theorem ZbW (h:drawOK ops=true):∀j o,ops[j]? =some o→(∀e∈o.after,Region.binds .any e=true→e.on < j)∧
  ∀i p,i < j→ops[i]? =some p→Nat.testBit ((aheads ops.toList []).getD j 0) i=true∨p.apart ops o=true:=by
 intro j o ho
 have hlt:=(Array.getElem?_eq_some_iff.1 ho).1
 have h1:=List.all_eq_true.1 h j (by simp[hlt])
 rw[ho] at h1
 simp only[Bool.and_eq_true] at h1
 obtain ⟨h2,h3⟩:=h1
 refine ⟨fun e he hb=>?_,fun i p hij hp=>?_⟩
 ·have:=List.all_eq_true.1 h2 e (by simpa using he)
  rw[hb] at this
  simp only[Bool.not_true,Bool.false_or] at this
  exact Nat.le_of_ble_eq_true this
 ·have:=List.all_eq_true.1 h3 i (by simp[hij])
  rw[hp] at this
  simpa using this
end
end Go.Ev
end

section
namespace Go.Ev
variable [Tabs] [Orgs]
open Go
theorem ZlF {p p':Nat→Bool} {i:Nat} (hp:∀j,p' j=true→p j=true) (h1:p i=true) (h2:p' i=false):∀l:List Nat,i∈l→l.countP p' < l.countP p
 | [],h=>by cases h
 | x :: r,h=>by
  have hle:r.countP p'≤r.countP p:=List.countP_mono_left fun j _=>hp j
  by_cases hx:x=i
  ·subst hx
   rw[List.countP_cons_of_pos h1,List.countP_cons_of_neg (by simp[h2])]
   omega
  ·have ih:=ZlF hp h1 h2 r ((List.mem_cons.1 h).resolve_left fun e=>hx e.symm)
   rw[List.countP_cons,List.countP_cons]
   cases hpx:p' x with
   | true=>rw[hp x hpx];simpa using ih
   | false=>cases p x <;> simp <;> omega
section
variable {P:Program} {Mod F0:Nat→Prop} {w0:World} {cl:Cl} {ops:Array Oper} {st0:St} {vs:Nat→AV}
theorem ZjJ {st:St} {a:Act} {w:World} {o:Oper} {b:Bool} (hr:Rel Mod F0 w0 st a w) (h:wantA ops o st=some b):Region.wanted o (yielded ops a.tmps)=b:=by
 unfold wantA at h
 unfold Region.wanted
 cases hg:o.guard with
 | none=>rw[hg] at h;cases h;rfl
 | some jw=>
  obtain ⟨j,want⟩:=jw
  rw[hg] at h
  simp only at h ⊢
  cases ht:dstOf ops j with
  | none=>rw[ht] at h;cases h
  | some t=>
   rw[ht] at h
   simp only at h
   split at h
   ·rename_i c hc
    cases h
    obtain ⟨_,F,ρ,hR,_⟩:=hr
    have h1:=Zv hR (.tmp t)
    simp only[St.ev] at h1
    rw[hc] at h1
    have h2:=Zdb h1
    simp only[Act.eval] at h2
    have hy:yielded ops a.tmps j=some c:=by
     unfold yielded
     rw[show (ops[j]?).bind (·.dst)=some t from ht]
     simp only[Option.bind_some]
     rw[Array.getD_eq_getD_getElem?] at h2
     cases he:a.tmps[t]? with
     | none=>rw[he] at h2;simp[undef] at h2
     | some v=>rw[he] at h2;simp only[Option.getD_some] at h2;rw[h2]
    rw[hy]
    cases c <;> cases want <;> rfl
   ·rename_i u hc
    cases hn:notBool u with
    | false=>rw[hn] at h;cases h
    | true=>
     rw[hn] at h
     cases h
     obtain ⟨_,F,ρ,hR,_⟩:=hr
     have h1:=Zv hR (.tmp t)
     simp only[St.ev] at h1
     rw[hc] at h1
     have h2:=ZqP h1
     simp only[Act.eval] at h2
     have hy:yielded ops a.tmps j=none:=by
      unfold yielded
      rw[show (ops[j]?).bind (·.dst)=some t from ht]
      simp only[Option.bind_some]
      rw[Array.getD_eq_getD_getElem?] at h2
      cases he:a.tmps[t]? with
      | none=>rfl
      | some v=>
       rw[he] at h2
       simp only[Option.getD_some] at h2
       subst h2
       cases v <;> first | rfl | (simp[notBool] at hn)
     rw[hy]
     cases want <;> rfl
   ·cases h
theorem ZtP {i:Nat} :∀n,i≤n→acc ops st0 vs (fun j=>decide (j < i)) n=acc ops st0 vs (fun _=>true) i
 | 0,h=>by
  obtain rfl:i=0:=by omega
  rfl
 | n+1,h=>by
  by_cases hi:i=n+1
  ·subst hi
   exact ZhJ _ fun j hj=>by simpa using hj
  ·rw[←ZtP n (by omega)]
   conv=>lhs;unfold acc
   rw[if_neg (by simp;omega)]
theorem ZtQ {st st2:St} {d:Option Nat} {u v:AV} (h:st.put d u=st.put d v) (hl:st.tm.length=st2.tm.length):st2.put d u=st2.put d v:=by
 cases d with
 | none=>rfl
 | some t=>
  by_cases ht:t < st.tm.length
  ·have:u=v:=by
    have h1:(st.put (some t) u).tm[t]? =(st.put (some t) v).tm[t]?:=by rw[h]
    simpa[St.put,ht] using h1
   rw[this]
  ·have h2:¬t < st2.tm.length:=by omega
   simp[St.put,List.set_eq_of_length_le (Nat.le_of_not_lt h2)]
open Classical in
theorem Zt4 (hcl:Spec P cl) (hdet:DetC cl) {y:Ans} {k:St→Option Ans} {Q:Exit→Act→World→Prop} (hQ:∀st a w,Rel Mod F0 w0 st a w→k st=some y→Q .normal a w)
  (hok:drawOK ops=true) (hsteps:∀j o,ops[j]? =some o→Step1 P cl ops o (acc ops st0 vs (fun _=>true) j) (vs j)) (hk:k (acc ops st0 vs (fun _=>true) ops.size)=some y):
  ∀(fuel:Nat) (listed:Array Bool) (a:Act) (w:World),listed.size=ops.size→Closed ops (fun j=>listed.getD j false)→(List.range ops.size).countP (fun j=>!listed.getD j true)≤fuel→
   Rel Mod F0 w0 (acc ops st0 vs (fun j=>listed.getD j false) ops.size) a w→wpAny P .any ops Q fuel listed a w:=by
 have hget:∀(listed:Array Bool) j,j < listed.size→listed.getD j true=listed.getD j false:=fun listed j hj=>by simp[hj]
 have allDone:∀(listed:Array Bool) a w,listed.size=ops.size→(∀j,j < ops.size→listed.getD j false=true)→Rel Mod F0 w0 (acc ops st0 vs (fun j=>listed.getD j false) ops.size) a w→Q .normal a w:=by
  intro listed a w hs hall hr
  rw[ZhJ (T:=fun _=>true) ops.size hall] at hr
  exact hQ _ a w hr hk
 have ofReady:∀(listed:Array Bool),listed.size=ops.size→Region.ready .any ops listed=[]→∀j,j < ops.size→listed.getD j false=true:=by
  intro listed hs hr j
  induction j using Nat.strongRecOn with
  | _ j ih=>
   intro hj
   cases hl:listed.getD j false with
   | true=>rfl
   | false=>
    have:j∈Region.ready .any ops listed:=by
     rw[mem_ready]
     refine ⟨by rw[hget listed j (by omega)];exact hl,ops[j],by simp[hj],fun e he hb=>?_⟩
     have:=((ZbW hok) j ops[j] (by simp[hj])).1 e he hb
     exact ih e.on this (by omega)
    rw[hr] at this
    cases this
 have step:∀(K:Array Bool→Act→World→Prop) (listed:Array Bool) (a:Act) (w:World) (i:Nat),listed.size=ops.size→Closed ops (fun j=>listed.getD j false)→
   Rel Mod F0 w0 (acc ops st0 vs (fun j=>listed.getD j false) ops.size) a w→i∈Region.ready .any ops listed→
   (∀a' w',Closed ops (fun j=>(listed.setIfInBounds i true).getD j false)→Rel Mod F0 w0 (acc ops st0 vs (fun j=>(listed.setIfInBounds i true).getD j false) ops.size) a' w'→K (listed.setIfInBounds i true) a' w')→
   wpOp P ops Q i (K (listed.setIfInBounds i true)) a w:=by
  intro K listed a w i hs hcld hr hi hK
  obtain ⟨hun,o,ho,hpre⟩:=mem_ready.1 hi
  have hlt:=(Array.getElem?_eq_some_iff.1 ho).1
  have hSi:listed.getD i false=false:=by rw[←hget listed i (by omega)];exact hun
  have hdi:dstOf ops i=o.dst:=by simp[dstOf,ho]
  have hslot:∀t∈o.looksAt ops,(acc ops st0 vs (fun j=>listed.getD j false) ops.size).tm.getD t .top=(acc ops st0 vs (fun _=>true) i).tm.getD t .top:=by
   intro t ht
   rw[←ZtP (i:=i) ops.size (by omega)]
   refine ZrB ops.size fun j hj hdj=>?_
   obtain ⟨p,hp⟩:∃p,ops[j]? =some p:=⟨ops[j],by simp[hj]⟩
   have hpd:p.dst=some t:=by simpa[dstOf,hp] using hdj
   rcases Nat.lt_trichotomy j i with hji | hji | hji
   ·rw[decide_eq_true hji]
    rcases (ZbW hok i o ho).2 j p hji hp with hb | hap
    ·obtain ⟨o2,ho2,e,he,hbnd,h⟩:=Zin ops.toList [] i j (by simp) hb
     have:o2=o:=by
      simp only[List.length_nil,Nat.sub_zero,Array.getElem?_toList] at ho2
      rw[ho] at ho2
      cases ho2;rfl
     subst this
     have hon:=hpre e (by simpa using he) hbnd
     rcases h with h | ⟨_,h⟩
     ·rw[←h];exact hon
     ·exact ZbH hcld e.on j hon h
    ·exact absurd ht ((Oper.apart_spec hap).1 t hpd)
   ·subst hji
    rw[hSi]
    simp
   ·rw[decide_eq_false (by omega)]
    cases hSj:listed.getD j false with
    | false=>rfl
    | true=>
     rcases (ZbW hok j p hp).2 i o hji ho with hb | hap
     ·have:listed.getD i false=true:=ZbH hcld j i hSj hb
      rw[hSi] at this
      cases this
     ·exact absurd ht ((Oper.apart_spec hap).2.2 t hpd)
  have hev:∀x∈o.op.operands,(acc ops st0 vs (fun j=>listed.getD j false) ops.size).ev x=(acc ops st0 vs (fun _=>true) i).ev x:=by
   intro x hx
   cases x with
   | tmp t=>exact hslot t (List.mem_append_left _ (List.mem_filterMap.2 ⟨.tmp t,by simpa using hx,rfl⟩))
   | _=>rfl
  have hwant:wantA ops o (acc ops st0 vs (fun j=>listed.getD j false) ops.size)=wantA ops o (acc ops st0 vs (fun _=>true) i):=by
   unfold wantA
   cases hg:o.guard with
   | none=>rfl
   | some jw=>
    obtain ⟨g,want⟩:=jw
    simp only
    cases ht:dstOf ops g with
    | none=>rfl
    | some t=>
     simp only
     rw[hslot t (by
      unfold Oper.looksAt
      rw[hg]
      refine List.mem_append_right _ ?_
      simp only
      rw[show (ops[g]?).bind (·.dst)=some t from ht]
      simp)]
  have hadd:(acc ops st0 vs (fun j=>listed.getD j false) ops.size).put o.dst (vs i)=acc ops st0 vs (fun j=>(listed.setIfInBounds i true).getD j false) ops.size:=by
   rw[←hdi,Zso hSi ops.size hlt fun j hij hj hSj t ht hdj=>?_]
   ·refine ZhJ _ fun j hj=>?_
    simp only[addS]
    by_cases hji:j=i
    ·subst hji;simp[hs,hlt]
    ·rw[getD_set_ne false (Ne.symm hji)];simp[hji]
   ·obtain ⟨p,hp⟩:∃p,ops[j]? =some p:=⟨ops[j],by simp[hj]⟩
    rcases (ZbW hok j p hp).2 i o hij ho with hb | hap
    ·have:listed.getD i false=true:=ZbH hcld j i hSj hb
     rw[hSi] at this
     cases this
    ·exact (Oper.apart_spec hap).2.1 t (by rw[←hdi];exact ht) (by simpa[dstOf,hp] using hdj)
  have hcld':Closed ops (fun j=>(listed.setIfInBounds i true).getD j false):=by
   intro j p hp hj e he hb
   by_cases hji:j=i
   ·subst hji
    rw[ho] at hp
    cases hp
    exact getD_set_true (hpre e he hb)
   ·simp only at hj
    rw[getD_set_ne false (Ne.symm hji)] at hj
    exact getD_set_true (hcld j p hp hj e he hb)
  unfold wpOp
  simp only[ho]
  rcases hsteps i o ho with ⟨hw,hop⟩ | ⟨hw,hv⟩
  ·rw[if_pos (ZjJ hr (by rw[hwant];exact hw))]
   refine .inl ?_
   have hob:∀S n,(acc ops st0 vs S n)=⟨(acc ops st0 vs S n).tm,st0.ob⟩:=fun S n=>by
    have:=ZtN (ops:=ops) (st0:=st0) (vs:=vs) S n
    cases h:acc ops st0 vs S n with
    | mk tm ob=>rw[h] at this;simp only at this;rw[this]
   have hfr:=Zp5 (P:=P) hdet (o:=o) (tm:=(acc ops st0 vs (fun _=>true) i).tm) (tm2:=(acc ops st0 vs (fun j=>listed.getD j false) ops.size).tm) (ob:=st0.ob) (by rw[←hob,←hob];exact hev)
   rw[←hob,←hob] at hfr
   rcases hfr with hn | ⟨v,h1,h2⟩
   ·have:=hop fun _=>some y
    rw[hn] at this
    cases this
   ·have e1:(acc ops st0 vs (fun _=>true) i).put o.dst v=(acc ops st0 vs (fun _=>true) i).put o.dst (vs i):=by
     have:=h1 fun s=>if s=(acc ops st0 vs (fun _=>true) i).put o.dst (vs i) then some y else none
     rw[hop,if_pos rfl] at this
     exact Classical.byContradiction fun hne=>by rw[if_neg hne] at this;cases this
    have e2:=ZtQ (st2:=acc ops st0 vs (fun j=>listed.getD j false) ops.size) e1 (by rw[ZlV,ZlV])
    have h3:=h2 fun s=>if s=(acc ops st0 vs (fun j=>listed.getD j false) ops.size).put o.dst (vs i) then some y else none
    rw[e2,if_pos rfl] at h3
    refine Oper.wp_mono (fun a' w' h'=>?_) (ZsK hcl (Zt9 hdet h3) hr Q)
    obtain ⟨st',hr',hst'⟩:=h'
    have:st'=(acc ops st0 vs (fun j=>listed.getD j false) ops.size).put o.dst (vs i):=Classical.byContradiction fun hne=>by rw[if_neg hne] at hst';cases hst'
    subst this
    rw[hadd] at hr'
    exact hK a' w' hcld' hr'
  ·have hwn:=ZjJ hr (by rw[hwant];exact hw)
   rw[if_neg (by rw[hwn];decide)]
   have hr':=ZqF hr o.dst
   rw[←hv,hadd] at hr'
   exact hK _ w hcld' hr'
 intro fuel
 induction fuel with
 | zero=>
  intro listed a w hs hcld hcnt hr
  have hall:∀j,j < ops.size→listed.getD j false=true:=fun j hj=>by
   have:=List.countP_eq_zero.1 (Nat.le_zero.1 hcnt) j (by simp[hj])
   rw[hget listed j (by omega)] at this
   simpa using this
  refine ⟨List.eq_nil_iff_forall_not_mem.2 fun j hj=>?_,allDone listed a w hs hall hr⟩
  obtain ⟨h1,o,ho,_⟩:=mem_ready.1 hj
  have hlt:=(Array.getElem?_eq_some_iff.1 ho).1
  rw[hget listed j (by omega),hall j hlt] at h1
  cases h1
 | succ fuel ih=>
  intro listed a w hs hcld hcnt hr
  refine ⟨fun h=>allDone listed a w hs (ofReady listed hs h) hr,fun i hi=>step (fun listed=>wpAny P .any ops Q fuel listed) listed a w i hs hcld hr hi fun a' w' hc' hr'=>?_⟩
  refine ih _ a' w' (by simpa using hs) hc' ?_ hr'
  obtain ⟨hun,o,ho,_⟩:=mem_ready.1 hi
  have hlt:=(Array.getElem?_eq_some_iff.1 ho).1
  have:=ZlF (p:=fun j=>!listed.getD j true) (p':=fun j=>!(listed.setIfInBounds i true).getD j true) (i:=i) (fun j hj=>by
   by_cases hji:i=j
   ·subst hji;simp[hs,hlt] at hj
   ·rw[getD_set_ne true hji] at hj;exact hj) (by simpa using hun) (by simp[hs,hlt]) (List.range ops.size) (by simp[hlt])
  omega
theorem Ztd (hcl:Spec P cl) (hdet:DetC cl) {id:Nat} {y:Ans} {k:St→Option Ans} {Q:Exit→Act→World→Prop} (hQ:∀st a w,Rel Mod F0 w0 st a w→k st=some y→Q .normal a w)
  (hm:P.follows .mixedOrders=true) (hok:drawOK ops=true) {st:St} {a:Act} {w:World} (h:opsD P cl ops ops.toList st k=some y) (hr:Rel Mod F0 w0 st a w):(Code.region id ops true).wp P Q a w:=by
 obtain ⟨us,st',hc,hk⟩:=ZkA hdet ops.toList st h
 obtain ⟨h1,h2⟩:=Zl7 (st0:=st) (us0:=us) ops.toList 0 us st st' (Nat.zero_le _) rfl rfl hc rfl
 subst h1
 refine wp_region_any hm (Zt4 hcl hdet hQ hok (fun j o ho=>h2 j o (Nat.zero_le _) ho) hk ops.size (Array.replicate ops.size false) a _ (by simp) ?_ (Nat.le_trans List.countP_le_length (by simp)) ?_)
 ·intro j o ho hj
  by_cases hlt:j < ops.size <;> simp[hlt] at hj
 ·have:acc ops st (fun j=>us.getD j .top) (fun j=>(Array.replicate ops.size false).getD j false) ops.size=st:=by
   have:∀n,acc ops st (fun j=>us.getD j .top) (fun j=>(Array.replicate ops.size false).getD j false) n=st:=by
    intro n
    induction n with
    | zero=>rfl
    | succ n ih=>
     unfold acc
     rw[if_neg,ih]
     by_cases hlt:n < ops.size <;> simp[hlt]
   exact this _
  rw[this]
  obtain ⟨hd,F,ρ,hR,hE⟩:=hr
  have hE':Evo (fun _=>False) F w F { w with drawn:=w.drawn+1 } :=⟨rfl,rfl,rfl,Nat.le_refl _,fun _ h=>h,fun _ h=>.inl h,fun _ _ _=>rfl⟩
  obtain ⟨hR',hE2⟩:=hR.world hE' (fun _ h=>h.elim) (fun _ _ h=>h) hR.low
  exact ⟨hd,F,ρ,hR',hE.trans hE2⟩
end
end Go.Ev
end

section
namespace Go.Ev
variable [Tabs] [Orgs]
open Go
theorem ZfC (id:Nat) (p:Nat×Obj) (x:Nat) (u:Nat×Obj) (r:List (Nat×Nat×Obj)):ins id p ((x,u) :: r)=if x=id then (id,p) :: r else if id≤x then (id,p) :: (x,u) :: r else (x,u) :: ins id p r:=by
 simp only[ins]
 by_cases h1:x=id
 ·subst h1;simp
 ·rw[ZiN h1,if_neg h1]
  by_cases h2:id≤x
  ·rw[Nat.ble_eq_true_of_le h2,if_pos h2];rfl
  ·rw[if_neg h2]
   have:Nat.ble id x=false:=by rw[Bool.eq_false_iff];intro e;exact h2 (Nat.le_of_ble_eq_true e)
   rw[this];rfl
theorem ZsQ {i j:Nat} (h:i < j) (p q:Nat×Obj):∀l:List (Nat×Nat×Obj),ins i p (ins j q l)=ins j q (ins i p l)
 | []=>by
  have a1:¬j=i:=by omega
  have a2:i≤j:=by omega
  have a3:¬i=j:=by omega
  have a4:¬j≤i:=by omega
  show ins i p [(j,q)]=ins j q [(i,p)]
  simp only[ZfC,a1,a2,a3,a4,if_true,if_false]
  rfl
 | (x,u) :: r=>by
  have ih:=ZsQ h p q r
  have b1:¬j=i:=by omega
  have b2:i≤j:=by omega
  have b3:¬i=j:=by omega
  have b4:¬j≤i:=by omega
  rcases Nat.lt_trichotomy x i with hx | hx | hx
  ·have a1:¬x=i:=by omega
   have a2:¬x=j:=by omega
   have a3:¬i≤x:=by omega
   have a4:¬j≤x:=by omega
   simp only[ZfC,a1,a2,a3,a4,if_false,ih]
  ·subst hx
   simp only[ZfC,b1,b2,b3,b4,if_false,if_true]
  ·have a1:¬x=i:=by omega
   have a3:i≤x:=by omega
   rcases Nat.lt_trichotomy x j with hy | hy | hy
   ·have a2:¬x=j:=by omega
    have a4:¬j≤x:=by omega
    simp only[ZfC,a1,a2,a3,a4,b1,b2,b3,b4,if_false,if_true]
   ·subst hy
    simp only[ZfC,a1,a3,b1,b2,b3,b4,if_false,if_true]
   ·have a2:¬x=j:=by omega
    have a4:j≤x:=by omega
    simp only[ZfC,a1,a2,a3,a4,b1,b2,b3,b4,if_false,if_true]
theorem Zs5 {i j:Nat} (h:i≠j) (p q:Nat×Obj) (l:List (Id×Nat×Obj)):ins i p (ins j q l)=ins j q (ins i p l):=by
 rcases Nat.lt_or_gt_of_ne h with h | h
 ·exact ZsQ h p q l
 ·exact (ZsQ h q p l).symm
abbrev Obs:=List (Id×Nat×Obj)
def insAll:Obs→Obs→Obs
 | [],l=>l
 | p :: r,l=>insAll r (ins p.1 p.2 l)
theorem ZnE {i:Id} {q:Nat×Obj} :∀ {o:Obs} {l:Obs},(∀p∈o,p.1≠i)→insAll o (ins i q l)=ins i q (insAll o l)
 | [],l,_=>rfl
 | p :: r,l,h=>by
  unfold insAll
  rw[Zs5 (h p (by simp)),ZnE fun x hx=>h x (by simp[hx])]
theorem Zmu:∀ {o o':Obs} {l:Obs},(∀p∈o,∀p'∈o',p.1≠p'.1)→insAll o (insAll o' l)=insAll o' (insAll o l)
 | [],o',l,_=>rfl
 | p :: r,o',l,h=>by
  show insAll r (ins p.1 p.2 (insAll o' l))=insAll o' (insAll r (ins p.1 p.2 l))
  rw[←ZnE (o:=o') fun x hx=>(h p (by simp) x hx).symm,Zmu fun x hx=>h x (by simp[hx])]
theorem ZaC:∀ {o o' l:Obs},insAll (o++o') l=insAll o' (insAll o l)
 | [],_,_=>rfl
 | p :: r,o',l=>by
  show insAll (r++o') _=insAll o' (insAll r _)
  exact ZaC
theorem Zcv {id:Id} :∀ {o l:Obs},(∀p∈o,p.1≠id)→find id (insAll o l)=find id l
 | [],_,_=>rfl
 | p :: r,l,h=>by
  unfold insAll
  rw[Zcv fun x hx=>h x (by simp[hx]),Zfn,if_neg (h p (by simp)).symm]
theorem ZaY {id:Id} :∀ {o l l':Obs},find id l=find id l'→find id (insAll o l)=find id (insAll o l')
 | [],_,_,h=>h
 | p :: r,l,l',h=>by
  unfold insAll
  refine ZaY ?_
  rw[Zfn,Zfn,h]
def app (o:Obs) (d:Option Nat) (v:AV) (st:St):St:=(⟨st.tm,insAll o st.ob⟩:St).put d v
theorem Znq {o:Obs} {d:Option Nat} {v:AV} {st:St} :(app o d v st).tm=(st.put d v).tm:=by cases d <;> rfl
theorem ZiH {o:Obs} {d:Option Nat} {v:AV} {st:St} :(app o d v st).ob=insAll o st.ob:=by cases d <;> rfl
theorem ZtS {d:Option Nat} {v:AV} {st:St} :app [] d v st=st.put d v:=rfl
theorem ZtH {o o':Obs} {d e:Option Nat} {u v:AV} {st:St} (h:∀p∈o,∀p'∈o',p.1≠p'.1) (hd:∀t,d=some t→e≠some t):app o d u (app o' e v st)=app o' e v (app o d u st):=by
 have e1:(app o d u (app o' e v st)).ob=(app o' e v (app o d u st)).ob:=by rw[ZiH,ZiH,ZiH,ZiH,Zmu h]
 have e2:(app o d u (app o' e v st)).tm=(app o' e v (app o d u st)).tm:=by
  cases d with
  | none=>cases e <;> rfl
  | some t=>
   cases e with
   | none=>rfl
   | some s=>
    have hts:t≠s:=fun x=>hd t rfl (by rw[x])
    show (st.tm.set s v).set t u=(st.tm.set t u).set s v
    exact (List.set_comm _ _ hts).symm
 cases h1:app o d u (app o' e v st) with
 | mk a b=>
  cases h2:app o' e v (app o d u st) with
  | mk a' b'=>rw[h1,h2] at e1 e2;simp only at e1 e2;rw[e1,e2]
def agr (X:List Id) (st st2:St):Prop:=∀id∈X,find id st2.ob=find id st.ob
theorem agr.obj {X:List Id} {st st2:St} (h:agr X st st2) {id:Id} (hi:id∈X) (ver:Nat):st2.obj id ver=st.obj id ver:=by unfold St.obj;rw[h id hi]
theorem agr.nextVer {X:List Id} {st st2:St} (h:agr X st st2) {id:Id} (hi:id∈X):st2.nextVer id=st.nextVer id:=by unfold St.nextVer;rw[h id hi]
theorem agr.sub {X Y:List Id} {st st2:St} (h:agr X st st2) (hs:∀id∈Y,id∈X):agr Y st st2:=fun id hi=>h id (hs id hi)
def Fr3 (m m2:M St) (W:List Id) (st st2:St) (d:Option Nat):Prop:=
 (∀k,m k=none)∨∃v o,(∀p∈o,p.1∈W)∧(∀k,m k=k (app o d v st))∧∀k,m2 k=k (app o d v st2)
section
variable {W:List Id} {st st2:St} {d:Option Nat}
theorem Fr3.of2 {m m2:M St} (h:Fr2 m m2 st st2 d):Fr3 m m2 W st st2 d:=h.imp id fun ⟨v,h1,h2⟩=>⟨v,[],fun p hp=>by simp at hp,h1,h2⟩
theorem Fr3.fail {m2:M St} :Fr3 fail m2 W st st2 d:=.inl fun _=>rfl
theorem Fr3.upd {o:Obs} {v:AV} (h:∀p∈o,p.1∈W):Fr3 (M.pure (app o d v st)) (M.pure (app o d v st2)) W st st2 d:=.inr ⟨v,o,h,fun _=>rfl,fun _=>rfl⟩
theorem Fr3.guard {b:Bool} {m m2:M St} (h:Fr3 m m2 W st st2 d):Fr3 (fun k=>bif b then m k else none) (fun k=>bif b then m2 k else none) W st st2 d:=by
 cases b
 ·exact .inl fun _=>rfl
 ·exact h
theorem Fr3.cond {b:Bool} {m n m2 n2:M St} (h:Fr3 m m2 W st st2 d) (h':Fr3 n n2 W st st2 d):Fr3 (bif b then m else n) (bif b then m2 else n2) W st st2 d:=by cases b <;> assumption
theorem Fr3.bind {α:Type} {m:M α} (h:Det m) {f g:α→M St} (hf:∀a,Fr3 (f a) (g a) W st st2 d):Fr3 (M.bind m f) (M.bind m g) W st st2 d:=by
 rcases h with h | ⟨a,h⟩
 ·exact .inl fun k=>h _
 ·rcases hf a with h' | ⟨v,o,h0,h1,h2⟩
  ·exact .inl fun k=>(h _).trans (h' k)
  ·exact .inr ⟨v,o,h0,fun k=>(h _).trans (h1 k),fun k=>(h _).trans (h2 k)⟩
end
theorem ZjW {x:AV} {id:Id} (h:id∈men1 x):id∈men x:=by cases x <;> first | exact h | (simp[men1] at h)
theorem Zik {x:AV} {id:Id} :∀ {l:List AV},x∈l→id∈men1 x→id∈menL l
 | y :: r,h,hi=>by
  unfold menL
  rcases List.mem_cons.1 h with rfl | h
  ·exact List.mem_append_left _ hi
  ·exact List.mem_append_right _ (Zik h hi)
theorem Zkx {st:St} {x:Operand} {id:Id} :∀ {l:List Operand},x∈l→id∈men (st.ev x)→id∈menOps st l
 | y :: r,h,hi=>by
  unfold menOps
  rcases List.mem_cons.1 h with rfl | h
  ·exact List.mem_append_left _ hi
  ·exact List.mem_append_right _ (Zkx h hi)
section
variable {P:Program} {cl:Cl} {o:Oper} {st st2:St} {X:List Id}
theorem Zr6 (h:agr X st st2) {x:AV} (hx:∀id∈men1 x,id∈X):behind st2 x=behind st x:=by
 cases x <;> first | rfl | (simp only[behind,h.obj (hx _ (List.mem_singleton.2 rfl))])
theorem Zti (h:agr X st st2) {x:AV} (hx:∀id∈men1 x,id∈X):live st2 x=live st x:=by
 cases x <;> first | rfl | (simp only[live,h.obj (hx _ (List.mem_singleton.2 rfl))])
theorem ZtI (h:agr X st st2) {x:AV} (hx:∀id∈men1 x,id∈X):lenA st2 x=lenA st x:=by
 cases x with
 | d t v=>cases t <;> rfl
 | own i v pre=>simp only[lenA,h.obj (hx _ (List.mem_singleton.2 rfl))]
 | mp i v=>simp only[lenA,h.obj (hx _ (List.mem_singleton.2 rfl))]
 | dn i v p=>simp only[lenA,h.obj (hx _ (List.mem_singleton.2 rfl))]
 | _=>rfl
theorem Zsi (h:agr X st st2) {T:TypeId} {x y:AV} (hx:∀id∈men1 x,id∈X):isNil P T st2 x y=isNil P T st x y:=by
 cases x with
 | pt i v off=>
  have hl:isNil.liveBox st2 i v=isNil.liveBox st i v:=by simp only[isNil.liveBox,h.obj (hx _ (List.mem_singleton.2 rfl))]
  unfold isNil
  cases P.underlying T with
  | none=>rfl
  | some D=>cases D <;> first | rfl | (cases y <;> first | rfl | (rename_i u;cases u <;> first | rfl | (rename_i a;cases a <;> first | rfl | (simp only[hl]))))
 | mp i v=>
  have hl:=h.obj (hx i (List.mem_singleton.2 rfl)) v
  unfold isNil
  cases P.underlying T with
  | none=>rfl
  | some D=>cases D <;> first | rfl | (cases y <;> first | rfl | (rename_i u;cases u <;> first | rfl | (rename_i a;cases a <;> first | rfl | (simp only[hl]))))
 | cst v=>unfold isNil;split <;> simp_all
 | _=>unfold isNil;split <;> simp_all
theorem Ztg (h:agr X st st2) {op:BinOp} {T:TypeId} {x y:AV} (hx:∀id∈men1 x,id∈X):binA P st2 op T x y=binA P st op T x y:=by
 unfold binA
 split <;> first | rfl | (rw[Zsi h hx])
theorem Zsd (h:agr X st st2) {x:AV} (hx:∀id∈men1 x,id∈X):toData st2 x=toData st x:=by
 cases x <;> first | rfl | (simp only[toData,h.obj (hx _ (List.mem_singleton.2 rfl))])
theorem ZgD (h:agr X st st2):∀ {l:List AV},(∀id∈menL l,id∈X)→toDatas st2 l=toDatas st l
 | [],_=>rfl
 | x :: r,hx=>by
  unfold toDatas
  rw[Zsd h (fun id hi=>hx id (by unfold menL;simp[hi])),ZgD h fun id hi=>hx id (by unfold menL;simp[hi])]
theorem Zgz:∀ {l:List AV} {cs:List AV} {is:List Id},toDatas st l=some (cs,is)→∀id∈is,id∈menL l
 | [],cs,is,h,id,hi=>by cases h;simp at hi
 | x :: r,cs,is,h,id,hi=>by
  unfold toDatas at h
  obtain ⟨⟨y,i⟩,h1,h⟩:=Option.bind_eq_some_iff.1 h
  obtain ⟨⟨ys,is'⟩,h2,h⟩:=Option.map_eq_some_iff.1 h
  simp only[Prod.mk.injEq] at h
  obtain ⟨_,rfl⟩:=h
  unfold menL
  rcases List.mem_append.1 hi with hi | hi
  ·refine List.mem_append_left _ ?_
   cases x with
   | own id' ver pre=>
    simp only[toData] at h1
    split at h1
    ·cases h1;simpa[men1] using hi
    ·cases h1
   | dn id' ver p=>
    simp only[toData] at h1
    split at h1
    ·split at h1
     ·cases h1;simpa[men1] using hi
     ·cases h1
    ·cases h1
   | _=>simp only[toData] at h1;cases h1;simp at hi
  ·exact List.mem_append_right _ (Zgz h2 id hi)
def lockU (st:St):List Id→Obs
 | []=>[]
 | id :: r=>match find id st.ob with
  | some (v,.row E t l _)=>(id,v,.row E t l true) :: lockU st r
  | some (v,.deep _ _ _)=>(id,v,.gone none) :: lockU st r
  | some (v,.gone tg)=>(id,v,.gone tg) :: lockU st r
  | _=>lockU st r
theorem Zd0 {st:St} :∀ {is:List Id},∀p∈lockU st is,p.1∈is
 | [],p,h=>by simp[lockU] at h
 | id :: r,p,h=>by
  unfold lockU at h
  split at h
  ·rcases List.mem_cons.1 h with rfl | h
   ·simp
   ·exact List.mem_cons_of_mem _ (Zd0 p h)
  ·rcases List.mem_cons.1 h with rfl | h
   ·simp
   ·exact List.mem_cons_of_mem _ (Zd0 p h)
  ·rcases List.mem_cons.1 h with rfl | h
   ·simp
   ·exact List.mem_cons_of_mem _ (Zd0 p h)
  ·exact List.mem_cons_of_mem _ (Zd0 p h)
theorem Zge (h:agr X st st2):∀ {is:List Id},(∀id∈is,id∈X)→lockU st2 is=lockU st is
 | [],_=>rfl
 | id :: r,hs=>by
  unfold lockU
  rw[h id (hs id (by simp)),Zge h fun x hx=>hs x (by simp[hx])]
theorem Zl3:∀ {is:List Id} {st st0:St},(∀id,(find id st.ob=find id st0.ob)∨(∃v E t l lk,find id st0.ob=some (v,.row E t l lk)∧find id st.ob=some (v,.row E t l true))∨∃v E d l,find id st0.ob=some (v,.deep E d l)∧find id st.ob=some (v,.gone none))→
  st.lock is=⟨st.tm,insAll (lockU st0 is) st.ob⟩
 | [],st,st0,_=>rfl
 | id :: r,st,st0,h=>by
  unfold St.lock lockU
  have ins_row:∀(v:Nat) (E:TypeId) (t:Ty) (l:List (El t)) (lk:Bool),find id st0.ob=some (v,.row E t l lk)→
    (st.setOb id v (.row E t l true)).lock r=⟨st.tm,insAll ((id,v,.row E t l true) :: lockU st0 r) st.ob⟩:=by
   intro v E t l lk h0
   rw[Zl3 (st0:=st0) fun i=>?_]
   ·rfl
   ·rw[Zq]
    by_cases hi:i=id
    ·subst hi
     exact .inr (.inl ⟨v,E,t,l,lk,h0,by rw[if_pos rfl]⟩)
    ·rw[if_neg hi];exact h i
  have ins_gone:∀(v:Nat) (tg:Option Nat),(find id st0.ob=some (v,.gone tg)∨tg=none∧∃E d l,find id st0.ob=some (v,.deep E d l))→
    (st.setOb id v (.gone tg)).lock r=⟨st.tm,insAll ((id,v,.gone tg) :: lockU st0 r) st.ob⟩:=by
   intro v tg h0
   rw[Zl3 (st0:=st0) fun i=>?_]
   ·rfl
   ·rw[Zq]
    by_cases hi:i=id
    ·subst hi
     rcases h0 with h0 | ⟨rfl,E,d,l,h0⟩
     ·exact .inl (by rw[if_pos rfl,h0])
     ·exact .inr (.inr ⟨v,E,d,l,h0,by rw[if_pos rfl]⟩)
    ·rw[if_neg hi];exact h i
  rcases h id with he | ⟨v,E,t,l,lk,h0,h1⟩ | ⟨v,E,d,l,h0,h1⟩
  ·rw[he]
   cases hf:find id st0.ob with
   | none=>simp only;exact Zl3 h
   | some p=>
    obtain ⟨v,ob⟩:=p
    cases ob with
    | row E t l lk=>simp only;exact ins_row v E t l lk hf
    | deep E d l=>simp only;exact ins_gone v none (.inr ⟨rfl,E,d,l,hf⟩)
    | gone tg=>simp only;exact ins_gone v tg (.inl hf)
    | _=>simp only;exact Zl3 h
  ·rw[h0,h1]
   simp only
   exact ins_row v E t l lk h0
  ·rw[h0,h1]
   simp only
   exact ins_gone v none (.inr ⟨rfl,E,d,l,h0⟩)
theorem ZgP {is:List Id} {st:St} :st.lock is=⟨st.tm,insAll (lockU st is) st.ob⟩:=Zl3 fun _=>.inl rfl
theorem Zlv {is:List Id} {st:St} {id:Id} :(st.lock is).nextVer id=st.nextVer id:=by
 induction is generalizing st with
 | nil=>rfl
 | cons i r ih=>
  unfold St.lock
  have one:∀(v:Nat) (o o':Obj),find i st.ob=some (v,o)→(st.setOb i v o').nextVer id=st.nextVer id:=fun v o o' hf=>by
   unfold St.nextVer
   rw[Zq]
   by_cases hi:id=i
   ·subst hi;rw[if_pos rfl,hf]
   ·rw[if_neg hi]
  split
  ·rename_i hf;rw[ih];exact one _ _ _ hf
  ·rename_i hf;rw[ih];exact one _ _ _ hf
  ·rename_i hf;rw[ih];exact one _ _ _ hf
  ·exact ih
theorem Zpu (h:agr X st st2) {t:Ty} {x:AV} (hx:∀id∈men1 x,id∈X):extra st2 t x=extra st t x:=by
 cases x with
 | own i v pre=>simp only[extra,h.obj (hx _ (List.mem_singleton.2 rfl))]
 | d t' l=>cases t' <;> rfl
 | _=>rfl
theorem Zsb {tm:List AV} (hv:isV o.op=true) (hagr:agr (touE o st) st st2) (hev:∀x∈o.op.operands,st2.ev x=st.ev x):
  Fr2 (opA P cl o st) (opA P cl o st2) st st2 o.dst:=by
 have hm:∀x∈o.op.operands,∀id∈men1 (st.ev x),id∈touE o st:=fun x hx id hi=>Zkx (by simpa using hx) (ZjW hi)
 have hbeh:∀x∈o.op.operands,behind st2 (st.ev x)=behind st (st.ev x):=fun x hx=>Zr6 hagr (hm x hx)
 have hlive:∀x∈o.op.operands,live st2 (st.ev x)=live st (st.ev x):=fun x hx=>Zti hagr (hm x hx)
 have hbin:∀x∈o.op.operands,∀op T y,binA P st2 op T (st.ev x) y=binA P st op T (st.ev x) y:=fun x hx op T y=>Ztg hagr (hm x hx)
 have hobj:∀x∈o.op.operands,∀id∈men1 (st.ev x),∀ver,st2.obj id ver=st.obj id ver:=fun x hx id hi ver=>hagr.obj (hm x hx id hi) ver
 have hext:∀x∈o.op.operands,∀t,extra st2 t (st.ev x)=extra st t (st.ev x):=fun x hx t=>Zpu hagr (hm x hx)
 cases h:o.op <;> rw[h] at hv hev hbeh hlive hbin hobj hext <;> simp only[isV] at hv <;> first | (cases hv;done) | skip
 case move x=>
  simp only[opA,h,hev x (by simp[Op.operands])]
  exact Fr2.pure _
 case assign x=>
  simp only[opA,h,hev x (by simp[Op.operands])]
  exact Fr2.pure _
 case pick c x y=>
  simp only[opA,h,hev c (by simp[Op.operands]),hev x (by simp[Op.operands]),hev y (by simp[Op.operands])]
  refine Fr2.bind Det.toB fun b=>Fr2.bind Det.branch fun b'=>?_
  cases b' <;> exact Fr2.pure _
 case load T x=>
  simp only[opA,h,hev x (by simp[Op.operands]),hbeh x (by simp[Op.operands])]
  split
  ·exact Fr2.cond (Fr2.pure _) Fr2.fail
  ·exact Fr2.opt
  ·exact Fr2.fail
 case nilCheck x=>
  simp only[opA,h,hev x (by simp[Op.operands]),hlive x (by simp[Op.operands])]
  exact Fr2.cond (Fr2.pure _) Fr2.fail
 case binOp op T x y T'=>
  simp only[opA,h,hev x (by simp[Op.operands]),hev y (by simp[Op.operands]),hbin x (by simp[Op.operands])]
  exact Fr2.bind Det.binA fun v=>Fr2.pure _
 case unOp op T x=>
  simp only[opA,h,hev x (by simp[Op.operands])]
  exact Fr2.bind Det.unA fun v=>Fr2.pure _
 case convert a b x=>
  have hx:=hext x (by simp[Op.operands])
  simp only[opA,h,hev x (by simp[Op.operands])]
  split <;> first | exact Fr2.pure _ | exact Fr2.fail | (split <;> first | exact Fr2.fail | (simp only[hx];split <;> first | exact Fr2.pure _ | exact Fr2.fail))
 case makeInterface T x=>
  simp only[opA,h,hev x (by simp[Op.operands])]
  split <;> first | exact Fr2.pure _ | exact Fr2.fail
 case fieldAddr S x j=>
  simp only[opA,h,hev x (by simp[Op.operands]),hlive x (by simp[Op.operands])]
  split
  ·exact Fr2.fail
  ·exact Fr2.cond (Fr2.pure _) Fr2.fail
 case field T x j=>
  simp only[opA,h,hev x (by simp[Op.operands])]
  split
  ·split
   ·exact Fr2.opt
   ·exact Fr2.fail
  ·exact Fr2.fail
 case indexAddr T x i=>
  have hl:=hlive x (by simp[Op.operands])
  have ho:=hobj x (by simp[Op.operands])
  simp only[opA,h,hev x (by simp[Op.operands]),hev i (by simp[Op.operands])]
  refine Fr2.bind Det.toI fun p=>?_
  generalize st.ev x=a at hl ho ⊢
  split
  ·split
   ·exact Fr2.cond (Fr2.bind Det.boundI fun n=>Fr2.pure _) Fr2.fail
   ·exact Fr2.fail
  ·rw[ho _ (by simp[men1])]
   split
   ·exact Fr2.cond (Fr2.bind Det.boundI fun n=>Fr2.pure _) Fr2.fail
   ·exact Fr2.fail
  ·rw[ho _ (by simp[men1])]
   split
   ·split
    ·exact Fr2.cond (Fr2.bind Det.boundI fun n=>Fr2.pure _) Fr2.fail
    ·exact Fr2.fail
   ·exact Fr2.fail
  ·rw[hl]
   refine Fr2.cond ?_ Fr2.fail
   split
   ·exact Fr2.bind Det.caseNat fun n=>Fr2.pure _
   ·exact Fr2.fail
  ·exact Fr2.fail
 case index T x i=>
  simp only[opA,h,hev x (by simp[Op.operands]),hev i (by simp[Op.operands])]
  refine Fr2.bind Det.toI fun p=>?_
  split
  ·exact Fr2.bind Det.boundI fun n=>Fr2.pure _
  ·split
   ·exact Fr2.bind Det.caseNat fun n=>Fr2.opt
   ·exact Fr2.fail
  ·exact Fr2.fail
 case extract x j=>
  simp only[opA,h,hev x (by simp[Op.operands])]
  split
  ·exact Fr2.opt
  ·exact Fr2.fail
 case lookup T x k ok=>
  have ho:=hobj x (by simp[Op.operands])
  simp only[opA,h,hev x (by simp[Op.operands]),hev k (by simp[Op.operands])]
  generalize st.ev x=a at ho ⊢
  split
  ·rw[ho _ (by simp[men1])]
   split
   ·split
    ·refine Fr2.cond (Fr2.cond ?_ (Fr2.pure _)) Fr2.fail
     rename_i kt vt l _ _ _ key z _ _
     cases mget key l
     ·exact Fr2.pure _
     ·exact Fr2.pure _
    ·exact Fr2.fail
   ·exact Fr2.fail
  ·exact Fr2.fail
 case typeAssert x T0 T ok=>
  simp only[opA,h,hev x (by simp[Op.operands])]
  split
  ·exact Fr2.fail
  ·exact Fr2.fail
  ·refine Fr2.cond (Fr2.pure _) (Fr2.cond ?_ Fr2.fail)
   split
   ·exact Fr2.pure _
   ·exact Fr2.fail
  ·exact Fr2.fail
end
end Go.Ev
end

section
namespace Go.Ev
variable [Tabs] [Orgs]
open Go
section
variable {P:Program} {cl:Cl} {o:Oper} {st st2:St} {X W:List Id}
theorem Zde {is:List Id} {d:Option Nat} {ob:Obj} {ref:Id→Nat→AV} (hr:∀e,d=some e→rootId e∈W∧rootId e∈X) (his:∀id∈is,id∈W∧id∈X) (hagr:agr X st st2):
  Fr3 (makeObj (st.lock is) d ob ref) (makeObj (st2.lock is) d ob ref) W st st2 d:=by
 cases d with
 | none=>exact Fr3.fail
 | some e=>
  have key:∀s:St,makeObj (s.lock is) (some e) ob ref=M.pure (app (lockU s is++[(rootId e,s.nextVer (rootId e),ob)]) (some e) (ref (rootId e) (s.nextVer (rootId e))) s):=fun s=>by
   unfold makeObj
   simp only[Zlv]
   rw[ZgP]
   unfold app
   rw[ZaC]
   rfl
  rw[key st,key st2,Zge hagr fun id hi=>(his id hi).2,hagr.nextVer (hr e rfl).2]
  refine Fr3.upd fun p hp=>?_
  rcases List.mem_append.1 hp with hp | hp
  ·exact (his _ (Zd0 p hp)).1
  ·simp only[List.mem_singleton] at hp
   subst hp
   exact (hr e rfl).1
theorem ZrY (v:Value):men1 (ofVal v)=[]:=by
 unfold ofVal
 split <;> rfl
theorem ZrD:∀ {l:List AV},(∀x∈l,men1 x=[])→menL l=[]
 | [],_=>rfl
 | x :: r,h=>by
  unfold menL
  rw[h x (by simp),ZrD fun y hy=>h y (by simp[hy])]
  rfl
theorem Zq3 {l:List AV} {id:Id} (h:id∈menL l):∃x∈l,id∈men1 x:=by
 induction l with
 | nil=>simp[menL] at h
 | cons y r ih=>
  unfold menL at h
  rcases List.mem_append.1 h with h | h
  ·exact ⟨y,by simp,h⟩
  ·obtain ⟨x,hx,hi⟩:=ih h
   exact ⟨x,by simp[hx],hi⟩
theorem ZlJ {v:AV} {vs:List AV} (h:v.cells=some vs) {x:AV} (hx:x∈vs) {id:Id} (hi:id∈men1 x):id∈men v:=by
 unfold AV.cells at h
 split at h
 ·cases h;exact Zik hx hi
 ·split at h
  ·cases h
   simp only[List.mem_singleton] at hx
   subst hx
   exact ZjW hi
  ·cases h
theorem Zqh {place:Nat→Option (Nat×Nat)} {id:Id} :∀ {ps:List (Nat×AV)} {cs cs':List AV},fillA place cs ps=some cs'→id∈menL cs'→id∈menL cs∨∃p∈ps,id∈men p.2
 | [],cs,cs',h,hi=>by cases h;exact .inl hi
 | (i,v) :: r,cs,cs',h,hi=>by
  unfold fillA at h
  obtain ⟨⟨off,size⟩,_,h⟩:=Option.bind_eq_some_iff.1 h
  obtain ⟨vs,hvs,h⟩:=Option.bind_eq_some_iff.1 h
  split at h
  ·cases h
  ·rcases Zqh h hi with h1 | ⟨p,hp,h1⟩
   ·obtain ⟨x,hx,hix⟩:=Zq3 h1
    unfold setRange at hx
    rcases List.mem_append.1 hx with hx | hx
    ·exact .inl (Zik (List.mem_of_mem_take hx) hix)
    ·rcases List.mem_append.1 hx with hx | hx
     ·exact .inr ⟨(i,v),by simp,ZlJ hvs hx hix⟩
     ·exact .inl (Zik (List.mem_of_mem_drop hx) hix)
   ·exact .inr ⟨p,by simp[hp],h1⟩
theorem ZrJ (hagr:agr X st st2) {is:List Id} (his:∀id∈is,id∈X) {id:Id} (hi:id∈X) (ver:Nat):(st2.lock is).obj id ver=(st.lock is).obj id ver:=by
 rw[ZgP,ZgP,Zge hagr his]
 unfold St.obj
 rw[ZaY (hagr id hi)]
theorem Zke {d:Nat} {E:TypeId} {t:Ty} {bytes:Nat} {s:AV} {ys:List (El t)} (hr:rootId d∈W∧rootId d∈X) (hs:∀id∈men1 s,id∈W∧id∈X) (hagr:agr X st st2):
  Fr3 (appendB st d E t bytes s ys) (appendB st2 d E t bytes s ys) W st st2 (some d):=by
 unfold appendB
 split
 ·refine Fr3.guard ?_
  rw[hagr.nextVer hr.2]
  exact Fr3.upd (o:=[(rootId d,st.nextVer (rootId d),.row E t ys false)]) (v:=.own (rootId d) (st.nextVer (rootId d)) none) fun p hp=>by
   simp only[List.mem_singleton] at hp
   subst hp
   exact hr.1
 ·rename_i id ver pre
  have hid:=hs id (List.mem_singleton.2 rfl)
  rw[hagr.obj hid.2]
  split
  ·rename_i E' t' l _
   split
   ·split
    ·rename_i h1 h2
     subst h1
     refine Fr3.guard ?_
     exact Fr3.upd (o:=[(id,ver+1,.row E t' (preL pre l++ys) false)]) (v:=.own id (ver+1) none) fun p hp=>by
      simp only[List.mem_singleton] at hp
      subst hp
      exact hid.1
    ·exact Fr3.fail
   ·exact Fr3.fail
  ·exact Fr3.fail
 ·exact Fr3.fail
theorem ZqG {d:Nat} {T:TypeId} {s x:AV} (hr:rootId d∈W∧rootId d∈X) (hs:∀id∈men1 s,id∈W∧id∈X) (hx:∀id∈men1 x,id∈X) (hagr:agr X st st2):
  Fr3 (appendA P st d T s x) (appendA P st2 d T s x) W st st2 (some d):=by
 unfold appendA
 split
 ·exact Fr3.fail
 ·rw[Zpu hagr hx]
  split
  ·exact Fr3.fail
  ·exact Zke hr hs hagr
theorem Zn3 {d:Nat} {T:TypeId} {s:AV} {n:Int} (hr:rootId d∈W∧rootId d∈X) (hs:∀id∈men1 s,id∈W∧id∈X) (hagr:agr X st st2):
  Fr3 (appendZ P st d T s n) (appendZ P st2 d T s n) W st st2 (some d):=by
 unfold appendZ
 split
 ·exact Fr3.fail
 ·split
  ·exact Fr3.fail
  ·exact Fr3.guard (Zke hr hs hagr)
theorem Ze7 (h:agr X st st2) {n:Nat} {rows:Bool} {x:AV} (ha:argE1 x=true) (hx:∀id∈men1 x,id∈X):give st2 rows (n+1) x=give st rows (n+1) x:=by
 cases x with
 | own i v pre=>simp only[give,h.obj (hx _ (List.mem_singleton.2 rfl))]
 | dn i v p=>simp only[give,h.obj (hx _ (List.mem_singleton.2 rfl))]
 | d t v=>rfl
 | nil=>rfl
 | cst v=>rfl
 | ifc t y=>rfl
 | _=>simp[argE1,flatB] at ha
theorem Zky {g g2:AV→Option Given} :∀ {l:List AV},(∀x∈l,g2 x=g x)→allG g2 l=allG g l
 | [],_=>rfl
 | x :: r,h=>by
  unfold allG
  rw[h x (by simp),Zky fun y hy=>h y (by simp[hy])]
theorem Zte (h:agr X st st2) {n:Nat} {rows:Bool} {x:AV} (ha:argE x=true) (hx:∀id∈men x,id∈X):give st2 rows (n+2) x=give st rows (n+2) x:=by
 cases x with
 | ag cs=>
  simp only[argE,List.all_eq_true] at ha
  exact congrArg (Option.map fun (vs,is,os)=>(AV.ag vs,is,os)) (Zky (g:=give st rows (n+1)) (g2:=give st2 rows (n+1)) fun y hy=>Ze7 h (ha y hy) fun id hi=>hx id (Zik hy hi))
 | tu cs=>simp[argE,argE1,flatB] at ha
 | own i v pre=>exact Ze7 h ha hx
 | dn i v p=>exact Ze7 h ha hx
 | d t v=>exact Ze7 h ha hx
 | nil=>exact Ze7 h ha hx
 | cst v=>exact Ze7 h ha hx
 | ifc t y=>exact Ze7 h ha hx
 | _=>simp[argE,argE1,flatB] at ha
theorem Ze3 {n:Nat} {rows:Bool} {x y:AV} {is os:List Id} (ha:argE1 x=true) (h:give st rows (n+1) x=some (y,is,os)):∀id∈is,id∈men1 x:=by
 intro id hi
 cases x with
 | own i v pre=>
  simp only[give] at h
  split at h
  ·rename_i E t l lock _
   cases hb:(rows&& !lock) with
   | true=>rw[hb] at h;cases h;simp at hi
   | false=>rw[hb] at h;cases h;simpa[men1] using hi
  ·cases h
 | dn i v p=>
  simp only[give] at h
  split at h
  ·cases p with
   | nil=>cases rows <;> cases h <;> first | (simp at hi;done) | simpa[men1] using hi
   | cons e r=>
    cases rows with
    | true=>cases h
    | false=>
     simp only[cond_false] at h
     split at h
     ·cases h;simpa[men1] using hi
     ·cases h
  ·cases h
 | d t v=>simp only[give,flatB,cond_true] at h;cases h;simp at hi
 | nil=>simp only[give,flatB,cond_true] at h;cases h;simp at hi
 | cst v=>simp only[give,flatB,cond_true] at h;cases h;simp at hi
 | ifc t z=>
  have hf:flatB (.ifc t z)=true:=by simpa[argE1] using ha
  simp only[give,hf,cond_true] at h
  cases h
  simp at hi
 | _=>simp[argE1,flatB] at ha
theorem Zo7 {g:AV→Option Given} {Y:AV→List Id} :∀ {l:List AV} {ys:List AV} {is os:List Id},(∀x∈l,∀y i o,g x=some (y,i,o)→∀id∈i,id∈Y x)→allG g l=some (ys,is,os)→∀id∈is,∃x∈l,id∈Y x
 | [],ys,is,os,_,h,id,hi=>by cases h;simp at hi
 | x :: r,ys,is,os,hg,h,id,hi=>by
  unfold allG at h
  obtain ⟨⟨y,i,o⟩,h1,h⟩:=Option.bind_eq_some_iff.1 h
  obtain ⟨⟨ys',is',os'⟩,h2,h⟩:=Option.map_eq_some_iff.1 h
  simp only[Prod.mk.injEq] at h
  obtain ⟨_,rfl,_⟩:=h
  rcases List.mem_append.1 hi with hi | hi
  ·exact ⟨x,by simp,hg x (by simp) y i o h1 id hi⟩
  ·obtain ⟨z,hz,hm⟩:=Zo7 (fun z hz=>hg z (by simp[hz])) h2 id hi
   exact ⟨z,by simp[hz],hm⟩
theorem ZtG {n:Nat} {rows:Bool} {x y:AV} {is os:List Id} (ha:argE x=true) (h:give st rows (n+2) x=some (y,is,os)):∀id∈is,id∈men x:=by
 cases x with
 | ag cs=>
  simp only[argE,List.all_eq_true] at ha
  unfold give at h
  obtain ⟨⟨ys,i,o⟩,h1,h⟩:=Option.map_eq_some_iff.1 h
  simp only[Prod.mk.injEq] at h
  obtain ⟨_,rfl,_⟩:=h
  intro id hi
  obtain ⟨z,hz,hm⟩:=Zo7 (Y:=men1) (fun z hz y i o hg=>Ze3 (ha z hz) hg) h1 id hi
  exact Zik hz hm
 | tu cs=>simp[argE,argE1,flatB] at ha
 | own i v pre=>exact Ze3 (x:=.own i v pre) (n:=n+1) ha h
 | dn i v p=>exact Ze3 (x:=.dn i v p) (n:=n+1) ha h
 | d t v=>exact Ze3 (x:=.d t v) (n:=n+1) ha h
 | nil=>exact Ze3 (x:=.nil) (n:=n+1) ha h
 | cst v=>exact Ze3 (x:=.cst v) (n:=n+1) ha h
 | ifc t y=>exact Ze3 (x:=.ifc t y) (n:=n+1) ha h
 | _=>simp[argE,argE1,flatB] at ha
def impU1 (nv:Id→Nat) (id:Id) (x:AV):AV×Obs:=match x with
 |.rw E t l=>(.own id (nv id) none,[(id,nv id,.row E t l false)])
 |.mv kt vt l=>(.mp id (nv id),[(id,nv id,.map kt vt l)])
 |.dw E d l=>(.dn id (nv id) [],[(id,nv id,.deep E d l)])
 | x=>(x,[])
def impUL (nv:Id→Nat) (id:Id):Nat→List AV→List AV×Obs
 | _,[]=>([],[])
 | j,x :: r=>((impU1 nv (childId id j) x).1 :: (impUL nv id (j+1) r).1,(impU1 nv (childId id j) x).2++(impUL nv id (j+1) r).2)
def impU (nv:Id→Nat) (id:Id) (x:AV):AV×Obs:=match x with
 |.ag cs=>(.ag (impUL nv id 0 cs).1,(impUL nv id 0 cs).2)
 | x=>impU1 nv id x
def impUM (nv:Id→Nat) (id:Id):Nat→List AV→List AV×Obs
 | _,[]=>([],[])
 | j,x :: r=>((impU nv (childId id j) x).1 :: (impUM nv id (j+1) r).1,(impU nv (childId id j) x).2++(impUM nv id (j+1) r).2)
def impUT (nv:Id→Nat) (id:Id) (x:AV):AV×Obs:=match x with
 |.tu cs=>(.tu (impUM nv id 0 cs).1,(impUM nv id 0 cs).2)
 |.bx T cs=>(.pt id (nv id) 0,(impUL nv id 0 cs).2++[(id,nv id,.box T (impUL nv id 0 cs).1 none)])
 | x=>impU nv id x
theorem Z2 {n:Nat} {s:St} {id:Id} {x:AV} {nv:Id→Nat} (hx:ansE1 x=true) (hn:s.nextVer id=nv id):imp (n+1) s id x=some ((impU1 nv id x).1,⟨s.tm,insAll (impU1 nv id x).2 s.ob⟩):=by
 cases x with
 | rw E t l=>
  unfold imp impU1
  simp only[hn]
  rfl
 | mv kt vt l=>
  unfold imp impU1
  simp only[hn]
  rfl
 | dw E d l=>
  unfold imp impU1
  simp only[hn]
  rfl
 | d t v=>rfl
 | nil=>rfl
 | cst v=>rfl
 | ifc t y=>
  have hf:flatB (.ifc t y)=true:=by simpa[ansE1] using hx
  unfold imp impU1
  simp only[hf,cond_true]
  rfl
 | _=>simp[ansE1,flatB] at hx
theorem ZlX {nv:Id→Nat} {id:Id} {x:AV} :∀p∈(impU1 nv id x).2,p.1=id:=by
 intro p hp
 cases x <;> simp only[impU1] at hp <;> first | (simp at hp;done) | (simp only[List.mem_singleton] at hp;subst hp;rfl)
theorem Zmb {id j k:Nat} (h:childId id j=childId id k):j=k:=by
 have h':(id*1024+(j+1):Nat)=id*1024+(k+1):=h
 omega
theorem Zkh {n:Nat} {id:Id} {nv:Id→Nat} :∀ {cs:List AV} {j:Nat} {s:St},cs.all ansE1=true→(∀k,j≤k→k < j+cs.length→s.nextVer (childId id k)=nv (childId id k))→
  impA (imp (n+1)) s id j cs=some ((impUL nv id j cs).1,⟨s.tm,insAll (impUL nv id j cs).2 s.ob⟩)
 | [],j,s,_,_=>rfl
 | x :: r,j,s,hc,hn=>by
  simp only[List.all_cons,Bool.and_eq_true] at hc
  unfold impA impUL
  rw[Z2 hc.1 (hn j (Nat.le_refl _) (by simp))]
  simp only[Option.bind_some]
  rw[Zkh (nv:=nv) hc.2 fun k hk hk2=>?_]
  ·simp only[Option.map_some,ZaC]
  ·have:(⟨s.tm,insAll (impU1 nv (childId id j) x).2 s.ob⟩:St).nextVer (childId id k)=s.nextVer (childId id k):=by
    unfold St.nextVer
    rw[Zcv fun p hp e=>?_]
    rw[ZlX p hp] at e
    have:=Zmb e
    omega
   rw[this]
   exact hn k (by omega) (by simp;omega)
theorem ZpI {n:Nat} {s:St} {id:Id} {x:AV} {nv:Id→Nat} (hx:ansE2 x=true) (hn:s.nextVer id=nv id) (hk:∀k,k < 16→s.nextVer (childId id k)=nv (childId id k)):imp (n+2) s id x=some ((impU nv id x).1,⟨s.tm,insAll (impU nv id x).2 s.ob⟩):=by
 cases x with
 | ag cs=>
  simp only[ansE2,Bool.and_eq_true] at hx
  have hl:=Nat.le_of_ble_eq_true hx.2
  show Option.map _ (impA (imp (n+1)) s id 0 cs)=_
  rw[Zkh (nv:=nv) hx.1 fun k _ h2=>hk k (by omega)]
  rfl
 | rw E t l=>exact Z2 hx hn
 | mv kt vt l=>exact Z2 hx hn
 | dw E d l=>exact Z2 hx hn
 | d t v=>exact Z2 hx hn
 | nil=>exact Z2 hx hn
 | cst v=>exact Z2 hx hn
 | ifc t y=>exact Z2 hx hn
 | _=>simp[ansE2,ansE1,flatB] at hx
theorem ZjN {nv:Id→Nat} {id:Id} :∀ {cs:List AV} {j:Nat},∀p∈(impUL nv id j cs).2,∃k,k < j+cs.length∧p.1=childId id k
 | [],j,p,h=>by simp[impUL] at h
 | x :: r,j,p,h=>by
  unfold impUL at h
  rcases List.mem_append.1 h with h | h
  ·exact ⟨j,by simp,ZlX p h⟩
  ·obtain ⟨k,hk,e⟩:=ZjN p h
   exact ⟨k,by simp at hk ⊢;omega,e⟩
theorem Zje {nv nv2:Id→Nat} {id:Id} :∀ {cs:List AV} {j:Nat},(∀k,k < j+cs.length→nv2 (childId id k)=nv (childId id k))→impUL nv2 id j cs=impUL nv id j cs
 | [],j,_=>rfl
 | x :: r,j,h=>by
  have h0:impU1 nv2 (childId id j) x=impU1 nv (childId id j) x:=by
   cases x <;> simp only[impU1,h j (by simp)]
  unfold impUL
  rw[h0,Zje fun k hk=>h k (by simp;omega)]
theorem Zkz {nv nv2:Id→Nat} {id:Id} {x:AV} (hx:ansE2 x=true) (hn:nv2 id=nv id) (hk:∀k,k < 16→nv2 (childId id k)=nv (childId id k)):
  impU nv2 id x=impU nv id x∧∀p∈(impU nv id x).2,p.1=id∨∃k,k < 16∧p.1=childId id k:=by
 have one:∀y,impU1 nv2 id y=impU1 nv id y:=fun y=>by cases y <;> simp only[impU1,hn]
 have other:∀y,(∀n,impU n id y=impU1 n id y)→(impU nv2 id y=impU nv id y∧∀p∈(impU nv id y).2,p.1=id∨∃k,k < 16∧p.1=childId id k):=fun y h=>by
  rw[h,h]
  exact ⟨one y,fun p hp=>.inl (ZlX p hp)⟩
 cases x with
 | ag cs=>
  simp only[ansE2,Bool.and_eq_true] at hx
  have hl:=Nat.le_of_ble_eq_true hx.2
  refine ⟨by unfold impU;simp only[Zje (nv:=nv) (nv2:=nv2) (id:=id) (cs:=cs) (j:=0) fun k h=>hk k (by omega)],fun p hp=>.inr ?_⟩
  obtain ⟨k,h,e⟩:=ZjN p hp
  exact ⟨k,by omega,e⟩
 | _=>exact other _ fun _=>rfl
theorem Zs4 {id j k:Nat} (h:j≠k):childId id j≠childId id k:=fun e=>h (Zmb e)
theorem Zp8 {id i j k:Nat} (hk:k < 16):childId id k≠childId (childId id i) j:=by
 have h:(id*1024+(k+1):Nat)≠(id*1024+(i+1))*1024+(j+1):=by omega
 exact h
theorem ZsS {id i j k m:Nat} (hi:i≠k) (hj:j < 16) (hm:m < 16):childId (childId id i) j≠childId (childId id k) m:=by
 have h:((id*1024+(i+1))*1024+(j+1):Nat)≠(id*1024+(k+1))*1024+(m+1):=by omega
 exact h
theorem ZnH {n:Nat} {id:Id} {nv:Id→Nat} :∀ {cs:List AV} {j:Nat} {s:St},cs.all ansE2=true→j+cs.length≤4→(∀k,j≤k→k < 4→s.nextVer (childId id k)=nv (childId id k)∧∀m,m < 16→s.nextVer (childId (childId id k) m)=nv (childId (childId id k) m))→
  impA (imp (n+2)) s id j cs=some ((impUM nv id j cs).1,⟨s.tm,insAll (impUM nv id j cs).2 s.ob⟩)
 | [],j,s,_,_,_=>rfl
 | x :: r,j,s,hc,hl,hn=>by
  simp only[List.all_cons,Bool.and_eq_true] at hc
  rw[List.length_cons] at hl
  have h0:=hn j (Nat.le_refl _) (by omega)
  unfold impA impUM
  rw[ZpI (nv:=nv) hc.1 h0.1 h0.2]
  simp only[Option.bind_some]
  have hids:=(Zkz (nv:=nv) (nv2:=nv) (id:=childId id j) hc.1 rfl fun _ _=>rfl).2
  have same:∀i:Id,i≠childId id j→(∀k,k < 16→i≠childId (childId id j) k)→(⟨s.tm,insAll (impU nv (childId id j) x).2 s.ob⟩:St).nextVer i=s.nextVer i:=fun i h1 h2=>by
   unfold St.nextVer
   rw[Zcv fun p hp e=>?_]
   rcases hids p hp with h | ⟨k,hk,h⟩
   ·exact h1 (e.symm.trans h)
   ·exact h2 k hk (e.symm.trans h)
  rw[ZnH (nv:=nv) hc.2 (by omega) fun k hk hk4=>?_]
  ·simp only[Option.map_some,ZaC]
  ·have hk':=hn k (by omega) hk4
   refine ⟨?_,fun m hm=>?_⟩
   ·rw[same _ (Zs4 (by omega)) fun q hq=>Zp8 (by omega)]
    exact hk'.1
   ·rw[same _ (fun e=>Zp8 (id:=id) (i:=k) (j:=m) (k:=j) (by omega) e.symm) fun q hq=>ZsS (by omega) hm hq]
    exact hk'.2 m hm
theorem Zsa (i k:Nat):i*1024+(k+1)≠i:=by omega
theorem ZrZ {n:Nat} {s:St} {id:Id} {x:AV} {nv:Id→Nat} (hx:ansE x=true) (hn:s.nextVer id=nv id) (hk:∀k,s.nextVer (childId id k)=nv (childId id k)) (hk2:∀k m,s.nextVer (childId (childId id k) m)=nv (childId (childId id k) m)):
  imp (n+3) s id x=some ((impUT nv id x).1,⟨s.tm,insAll (impUT nv id x).2 s.ob⟩):=by
 cases x with
 | tu cs=>
  simp only[ansE,Bool.and_eq_true] at hx
  have hl:=Nat.le_of_ble_eq_true hx.2
  show Option.map _ (impA (imp (n+2)) s id 0 cs)=_
  rw[ZnH (nv:=nv) hx.1 (by omega) fun k _ _=>⟨hk k,fun m _=>hk2 k m⟩]
  rfl
 | bx T cs=>
  simp only[ansE,Bool.and_eq_true] at hx
  have hl:=Nat.le_of_ble_eq_true hx.2
  show Option.map _ (impA (imp (n+2)) s id 0 cs)=_
  rw[Zkh (n:=n+1) (nv:=nv) hx.1 fun k _ _=>hk k]
  have hv:(⟨s.tm,insAll (impUL nv id 0 cs).2 s.ob⟩:St).nextVer id=nv id:=by
   rw[←hn]
   unfold St.nextVer
   rw[Zcv fun p hp e=>?_]
   obtain ⟨k,_,e2⟩:=ZjN p hp
   rw[e] at e2
   exact Zsa id k e2.symm
  simp only[Option.map_some,hv]
  unfold impUT
  rw[ZaC]
  rfl
 | ag cs=>exact ZpI (n:=n+1) (x:=.ag cs) hx hn fun k _=>hk k
 | mv kt vt l=>exact Z2 (n:=n+2) hx hn
 | dw E d l=>exact Z2 (n:=n+2) hx hn
 | rw E t l=>exact Z2 (n:=n+2) hx hn
 | d t v=>exact Z2 (n:=n+2) hx hn
 | nil=>exact Z2 (n:=n+2) hx hn
 | cst v=>exact Z2 (n:=n+2) hx hn
 | ifc t y=>exact Z2 (n:=n+2) hx hn
 | _=>simp[ansE,ansE1,flatB] at hx
theorem Zmp {nv nv2:Id→Nat} {id:Id} :∀ {cs:List AV} {j:Nat},cs.all ansE2=true→j+cs.length≤4→(∀k,k < 4→nv2 (childId id k)=nv (childId id k)∧∀m,m < 16→nv2 (childId (childId id k) m)=nv (childId (childId id k) m))→
  impUM nv2 id j cs=impUM nv id j cs∧∀p∈(impUM nv id j cs).2,∃k,k < 4∧(p.1=childId id k∨∃m,m < 16∧p.1=childId (childId id k) m)
 | [],j,_,_,_=>⟨rfl,fun p h=>by simp[impUM] at h⟩
 | x :: r,j,hc,hl,hn=>by
  simp only[List.all_cons,Bool.and_eq_true] at hc
  rw[List.length_cons] at hl
  have h0:=hn j (by omega)
  obtain ⟨f1,f2⟩:=Zkz (nv:=nv) (nv2:=nv2) (id:=childId id j) hc.1 h0.1 h0.2
  obtain ⟨i1,i2⟩:=Zmp (nv:=nv) (nv2:=nv2) (id:=id) (j:=j+1) hc.2 (by omega) hn
  refine ⟨by unfold impUM;rw[f1,i1],fun p hp=>?_⟩
  unfold impUM at hp
  rcases List.mem_append.1 hp with hp | hp
  ·exact ⟨j,by omega,f2 p hp⟩
  ·exact i2 p hp
theorem Zq6 {nv nv2:Id→Nat} {d:Nat} {x:AV} (hx:ansE x=true) (hn:nv2 (rootId d)=nv (rootId d)) (hk:∀k,k < 16→nv2 (childId (rootId d) k)=nv (childId (rootId d) k))
  (hk2:∀k,k < 4→∀m,m < 16→nv2 (childId (childId (rootId d) k) m)=nv (childId (childId (rootId d) k) m)):
  impUT nv2 (rootId d) x=impUT nv (rootId d) x∧∀p∈(impUT nv (rootId d) x).2,p.1=rootId d∨(∃k,k < 16∧p.1=childId (rootId d) k)∨∃k,k < 4∧∃m,m < 16∧p.1=childId (childId (rootId d) k) m:=by
 have other:ansE2 x=true→(∀n,impUT n (rootId d) x=impU n (rootId d) x)→(impUT nv2 (rootId d) x=impUT nv (rootId d) x∧∀p∈(impUT nv (rootId d) x).2,p.1=rootId d∨(∃k,k < 16∧p.1=childId (rootId d) k)∨∃k,k < 4∧∃m,m < 16∧p.1=childId (childId (rootId d) k) m):=fun h2 h=>by
  rw[h,h]
  obtain ⟨f1,f2⟩:=Zkz (nv:=nv) (nv2:=nv2) h2 hn hk
  exact ⟨f1,fun p hp=>(f2 p hp).imp id .inl⟩
 cases x with
 | tu cs=>
  simp only[ansE,Bool.and_eq_true] at hx
  have hl:=Nat.le_of_ble_eq_true hx.2
  obtain ⟨f1,f2⟩:=Zmp (nv:=nv) (nv2:=nv2) (id:=rootId d) (j:=0) hx.1 (by omega) fun k h4=>⟨hk k (by omega),hk2 k h4⟩
  refine ⟨by unfold impUT;simp only[f1],fun p hp=>?_⟩
  obtain ⟨k,h4,h | ⟨m,hm,h⟩⟩:=f2 p hp
  ·exact .inr (.inl ⟨k,by omega,h⟩)
  ·exact .inr (.inr ⟨k,h4,m,hm,h⟩)
 | bx T cs=>
  simp only[ansE,Bool.and_eq_true] at hx
  have hl:=Nat.le_of_ble_eq_true hx.2
  refine ⟨by unfold impUT;simp only[Zje (nv:=nv) (nv2:=nv2) (id:=rootId d) (cs:=cs) (j:=0) fun k h=>hk k (by omega),hn],fun p hp=>?_⟩
  unfold impUT at hp
  rcases List.mem_append.1 hp with hp | hp
  ·obtain ⟨k,h,e⟩:=ZjN p hp
   exact .inr (.inl ⟨k,by omega,e⟩)
  ·simp only[List.mem_singleton] at hp
   subst hp
   exact .inl rfl
 | ag cs=>exact other hx fun _=>rfl
 | mv kt vt l=>exact other hx fun _=>rfl
 | dw E d l=>exact other hx fun _=>rfl
 | rw E t l=>exact other hx fun _=>rfl
 | d t v=>exact other hx fun _=>rfl
 | nil=>exact other hx fun _=>rfl
 | cst v=>exact other hx fun _=>rfl
 | ifc t y=>exact other hx fun _=>rfl
 | _=>simp[ansE,ansE1,flatB] at hx
theorem Zq4 (hcl:DetC cl) {f:FuncId} {args:List AV} {d:Option Nat} (hr:∀e,d=some e→(rootId e∈W∧rootId e∈X)∧(∀k,k < 16→childId (rootId e) k∈W∧childId (rootId e) k∈X)∧∀k,k < 4→∀m,m < 16→childId (childId (rootId e) k) m∈W∧childId (childId (rootId e) k) m∈X)
  (hx:∀x∈args,∀id∈men x,id∈W∧id∈X) (hagr:agr X st st2):Fr3 (callE cl f args d st) (callE cl f args d st2) W st st2 d:=by
 cases ha:args.all argE with
 | false=>
  refine .inl fun k=>?_
  unfold callE
  rw[ha]
  cases allG (give st (takes cl f) 6) args with
  | none=>rfl
  | some p=>
   obtain ⟨a,b,c⟩:=p
   cases c <;> rfl
 | true=>
  have ha':=List.all_eq_true.1 ha
  unfold callE
  rw[ha,Zky (g:=give st (takes cl f) 6) (g2:=give st2 (takes cl f) 6) fun x h=>Zte hagr (ha' x h) fun id hi=>(hx x h id hi).2]
  cases hg:allG (give st (takes cl f) 6) args with
  | none=>exact Fr3.fail
  | some p=>
   obtain ⟨forms,is,os⟩:=p
   cases os with
   | cons a b=>exact Fr3.fail
   | nil=>
    simp only[cond_true]
    have his:∀id∈is,id∈W∧id∈X:=fun id hi=>by
     obtain ⟨x,hxm,hm⟩:=Zo7 (Y:=men) (fun x h y i o hgx=>ZtG (ha' x h) hgx) hg id hi
     exact hx x hxm id hm
    refine Fr3.bind (hcl _ _) fun ans=>?_
    cases hb:(ansE ans.1&&ans.2.all isTop) with
    | false=>exact Fr3.fail
    | true=>
     simp only[cond_true]
     rw[Bool.and_eq_true] at hb
     have hlk:∀s:St,(bif hasSl 6 ans.1 then s.lock is else s)=s.lock (bif hasSl 6 ans.1 then is else []):=fun s=>by cases hasSl 6 ans.1 <;> rfl
     have hL:∀id∈(bif hasSl 6 ans.1 then is else []),id∈W∧id∈X:=fun id hi=>by
      cases h:hasSl 6 ans.1 with
      | true=>rw[h] at hi;exact his id hi
      | false=>rw[h] at hi;simp at hi
     rw[hlk st,hlk st2]
     generalize (bif hasSl 6 ans.1 then is else [])=L at hL
     have hlu:lockU st2 L=lockU st L:=Zge hagr fun id hi=>(hL id hi).2
     have hlw:∀p∈lockU st L,p.1∈W:=fun p hp=>(hL _ (Zd0 p hp)).1
     cases d with
     | none=>
      have key:∀s:St,s.lock L=app (lockU s L) none .top s:=fun s=>ZgP
      simp only
      rw[key st,key st2,hlu]
      exact Fr3.upd hlw
     | some e=>
      obtain ⟨hroot,hkids,hkids2⟩:=hr e rfl
      obtain ⟨hc,hids⟩:=Zq6 (nv:=st.nextVer) (nv2:=st2.nextVer) (d:=e) hb.1 (hagr.nextVer hroot.2) (fun k hk=>hagr.nextVer (hkids k hk).2) fun k hk m hm=>hagr.nextVer (hkids2 k hk m hm).2
      have key:∀s:St,imp 6 (s.lock L) (rootId e) ans.1=some ((impUT s.nextVer (rootId e) ans.1).1,⟨s.tm,insAll (lockU s L++(impUT s.nextVer (rootId e) ans.1).2) s.ob⟩):=fun s=>by
       rw[ZrZ (n:=3) (nv:=s.nextVer) hb.1 Zlv (fun k=>Zlv) fun k m=>Zlv,ZgP,ZaC]
      simp only
      rw[key st,key st2,hc,hlu]
      simp only
      refine Fr3.upd (o:=lockU st L++(impUT st.nextVer (rootId e) ans.1).2) (v:=(impUT st.nextVer (rootId e) ans.1).1) fun p hp=>?_
      rcases List.mem_append.1 hp with hp | hp
      ·exact hlw p hp
      ·rcases hids p hp with h | ⟨k,hk,h⟩ | ⟨k,hk,m,hm,h⟩
       ·rw[h];exact hroot.1
       ·rw[h];exact (hkids k hk).1
       ·rw[h];exact (hkids2 k hk m hm).1
end
end Go.Ev
end

section
namespace Go.Ev
variable [Tabs] [Orgs]
open Go
section
variable {P:Program} {cl:Cl} {o:Oper} {st st2:St}
theorem Zjr {st:St} {x:AV} :∀ {l:List Operand},x∈asArg st l→∃y∈l,x=st.ev y
 | y :: r,h=>by
  unfold asArg at h
  rcases List.mem_cons.1 h with rfl | h
  ·exact ⟨y,by simp,rfl⟩
  ·obtain ⟨z,hz,e⟩:=Zjr h
   exact ⟨z,by simp[hz],e⟩
theorem Zqd (hcl:DetC cl) (hagr:agr (touE o st++wrE o st) st st2) (hev:∀x∈o.op.operands,st2.ev x=st.ev x):
  Fr3 (opE P cl o st) (opE P cl o st2) (wrE o st) st st2 o.dst:=by
 have hagrT:agr (touE o st) st st2:=hagr.sub fun id hi=>List.mem_append_left _ hi
 unfold opE
 cases hv:isV o.op with
 | true=>exact Fr3.of2 (Zsb (tm:=st.tm) hv hagrT hev)
 | false=>
  simp only[cond_false]
  have hm:∀x∈o.op.operands,∀id∈men (st.ev x),id∈touE o st:=fun x hx id hi=>Zkx (by simpa using hx) hi
  have hW:isE o.op=true→∀id,id∈rootE o∨id∈touE o st→id∈wrE o st∧id∈touE o st++wrE o st:=fun he id hi=>by
   have:id∈wrE o st:=by
    unfold wrE
    rw[he]
    simpa using hi
   exact ⟨this,List.mem_append_right _ this⟩
  have hroot:isE o.op=true→∀e,o.dst=some e→rootId e∈wrE o st∧rootId e∈touE o st++wrE o st:=fun he e hd=>hW he _ (.inl (by unfold rootE;rw[hd];simp))
  split
  ·-- a call
   rename_i c h
   rw[h] at hev hm
   split
   ·rename_i f hc
    have he:isE o.op=true:=by rw[h];simp only[isE,hc]
    rw[hev f (by simp[Op.operands,Call.operands,hc])]
    split
    ·refine Fr3.cond ?_ Fr3.fail
     rw[ZaP (st:=st) (st2:=st2) c.args.toList (fun x hx=>hev x (by
      simp only[Op.operands,Call.operands,hc]
      simp at hx ⊢
      exact .inr hx))]
     refine Zq4 hcl (fun e hd=>⟨hroot he e hd,fun k hk=>hW he _ (.inl ?_),fun k hk m hm=>hW he _ (.inl ?_)⟩) (fun x hx id hi=>?_) hagr
     ·unfold rootE kids
      rw[hd,h]
      simp only[hc]
      exact List.mem_cons_of_mem _ (List.mem_append_left _ (List.mem_map.2 ⟨k,by simpa using hk,rfl⟩))
     ·unfold rootE kids
      rw[hd,h]
      simp only[hc]
      exact List.mem_cons_of_mem _ (List.mem_append_right _ (List.mem_flatMap.2 ⟨k,by simpa using hk,List.mem_map.2 ⟨m,by simpa using hm,rfl⟩⟩))
     ·obtain ⟨y,hy,rfl⟩:=Zjr hx
      exact hW he id (.inr (hm y (by
       simp only[Op.operands,Call.operands,hc]
       simp at hy ⊢
       exact .inr hy) id hi))
    ·exact Fr3.fail
   ·rename_i hc
    simp only[opA,h,hc]
    rw[ZaP (st:=st) (st2:=st2) c.args.toList (fun x hx=>hev x (by
      simp only[Op.operands,Call.operands,hc]
      simpa using hx))]
    split
    ·rename_i x T hargs _
     refine Fr3.of2 (Fr2.cond ?_ Fr2.fail)
     have hx:∀id∈men1 x,id∈touE o st:=fun id hi=>by
      obtain ⟨y,hy,e⟩:=Zjr (st:=st) (x:=x) (l:=c.args.toList) (by rw[hargs];simp)
      exact hm y (by simp only[Op.operands,Call.operands,hc];simpa using hy) id (by rw[←e];exact ZjW hi)
     rw[ZtI hagrT hx]
     exact Fr2.bind Det.lenA fun v=>Fr2.pure _
    ·exact Fr3.fail
   ·rename_i hc
    have he:isE o.op=true:=by rw[h];simp only[isE,hc]
    simp only[opA,h,hc]
    rw[ZaP (st:=st) (st2:=st2) c.args.toList (fun x hx=>hev x (by
      simp only[Op.operands,Call.operands,hc]
      simpa using hx))]
    split
    ·rename_i s x T T' d hargs _ hd
     have hmem:∀z,z∈[s,x]→∀id∈men1 z,id∈touE o st:=fun z hz id hi=>by
      obtain ⟨y,hy,e⟩:=Zjr (st:=st) (x:=z) (l:=c.args.toList) (by rw[hargs];exact hz)
      exact hm y (by simp only[Op.operands,Call.operands,hc];simpa using hy) id (by rw[←e];exact ZjW hi)
     rw[hd]
     refine Fr3.cond (ZqG (hroot he d hd) (fun id hi=>hW he id (.inr (hmem s (by simp) id hi))) (fun id hi=>(hW he id (.inr (hmem x (by simp) id hi))).2) hagr) ?_
     split
     ·exact Zn3 (hroot he d hd) (fun id hi=>hW he id (.inr (hmem s (by simp) id hi))) hagr
     ·exact Fr3.fail
    ·exact Fr3.fail
   ·rename_i hc
    simp only[opA,h,hc]
    rw[ZaP (st:=st) (st2:=st2) c.args.toList (fun x hx=>hev x (by
      simp only[Op.operands,Call.operands,hc]
      simpa using hx))]
    refine Fr3.of2 ?_
    split
    ·exact Fr2.bind Det.toI fun p=>Fr2.bind Det.toI fun q=>Fr2.pure _
    ·exact Fr2.fail
   ·rename_i hc
    simp only[opA,h,hc]
    rw[ZaP (st:=st) (st2:=st2) c.args.toList (fun x hx=>hev x (by
      simp only[Op.operands,Call.operands,hc]
      simpa using hx))]
    refine Fr3.of2 ?_
    split
    ·exact Fr2.bind Det.toI fun p=>Fr2.bind Det.toI fun q=>Fr2.pure _
    ·exact Fr2.fail
   ·exact Fr3.fail
  ·-- slice
   rename_i T x lo hi h
   have hx:x∈o.op.operands:=by rw[h];simp[Op.operands]
   rw[hev x hx]
   cases hs:slX (st.ev x) lo with
   | false=>exact Fr3.fail
   | true=>exact Fr3.of2 (Zma h hs hev fun id hi ver=>hagrT.obj (hm x hx id (ZjW hi)) ver)
  ·-- alloc
   rename_i T h
   have he:isE o.op=true:=by rw[h];rfl
   simp only[opA,h]
   split
   ·exact Zde (is:=[]) (fun e hd=>hroot he e hd) (fun id hi=>by simp at hi) hagr
   ·exact Fr3.fail
  ·-- box
   rename_i T x h
   have he:isE o.op=true:=by rw[h];rfl
   rw[h] at hev
   simp only[opA,h,hev x (by simp[Op.operands])]
   split
   ·exact Zde (is:=[]) (fun e hd=>hroot he e hd) (fun id hi=>by simp at hi) hagr
   ·exact Fr3.fail
  ·-- build
   rename_i T parts h
   rw[h] at hev
   have hp:parts.toList.map (fun p=>(p.1,st2.ev p.2))=parts.toList.map (fun p=>(p.1,st.ev p.2)):=List.map_congr_left fun p hp=>by
    rw[hev p.2 (by simp only[Op.operands];simp;exact ⟨p.1,by simpa using hp⟩)]
   simp only[opA,h,hp]
   refine Fr3.of2 ?_
   split
   ·exact Fr2.cond Fr2.fail Fr2.opt
   ·split
    ·exact Fr2.opt
    ·exact Fr2.fail
   ·exact Fr2.fail
  ·-- buildSlice
   rename_i T len parts h
   have he:isE o.op=true:=by rw[h];rfl
   rw[h] at hev hm
   have hmem:∀p∈parts.toList,p.2∈(Op.buildSlice T len parts).operands:=fun p hp=>by simp only[Op.operands];simp;exact ⟨p.1,by simpa using hp⟩
   have hp:parts.toList.map (fun p=>(p.1,st2.ev p.2))=parts.toList.map (fun p=>(p.1,st.ev p.2)):=List.map_congr_left fun p hp=>by rw[hev p.2 (hmem p hp)]
   simp only[opA,h,hp]
   split
   ·exact Fr3.fail
   ·split
    ·rename_i sz z hs hz
     refine Fr3.cond ?_ Fr3.fail
     split
     ·exact Fr3.fail
     ·rename_i cs hcs
      have hids:∀id∈menL cs,id∈touE o st:=fun id hi=>by
       rcases Zqh hcs hi with h0 | ⟨p,hp,hi⟩
       ·exfalso
        rw[ZrD fun x hx=>?_] at h0
        ·simp at h0
        ·obtain ⟨i,_,rfl⟩:=List.mem_map.1 hx
         rw[List.getD_eq_getElem?_getD]
         cases hg:z[i % z.length]? with
         | none=>rfl
         | some y=>
          have hy:y∈z:=List.mem_of_getElem? hg
          unfold zeroAV at hz
          obtain ⟨u,_,rfl⟩:=Option.map_eq_some_iff.1 hz
          obtain ⟨v,_,rfl⟩:=List.mem_map.1 hy
          exact ZrY v
       ·obtain ⟨q,hq,rfl⟩:=List.mem_map.1 hp
        exact hm q.2 (hmem q hq) id hi
      rw[ZgD hagrT hids]
      split
      ·exact Fr3.fail
      ·rename_i cs2 is hd
       split
       ·exact Fr3.fail
       ·exact Zde (fun e hd=>hroot he e hd) (fun id hi=>hW he id (.inr (hids id (Zgz hd id hi)))) hagr
    ·exact Fr3.fail
  ·-- store
   rename_i T x v h
   have he:isE o.op=true:=by rw[h];rfl
   rw[h] at hev hm
   have hmx:=hm x (by simp[Op.operands])
   have hmv:=hm v (by simp[Op.operands])
   simp only[opA,h,hev x (by simp[Op.operands]),hev v (by simp[Op.operands])]
   split
   ·rename_i vs z hvs hz
    refine Fr3.cond ?_ Fr3.fail
    generalize st.ev x=a at hmx ⊢
    split
    ·rename_i id ver off
     have hid:=hW he id (.inr (hmx id (List.mem_singleton.2 rfl)))
     rw[hagr.obj hid.2]
     split
     ·rename_i T' cs tg _
      refine Fr3.cond ?_ Fr3.fail
      exact Fr3.upd (o:=[(id,ver,.box T' (setRange cs off vs) tg)]) (v:=.top) fun p hp=>by
       simp only[List.mem_singleton] at hp
       subst hp
       exact hid.1
     ·exact Fr3.fail
    ·rename_i id ver i j
     have hid:=hW he id (.inr (hmx id (List.mem_singleton.2 rfl)))
     have hids:∀id∈menL vs,id∈touE o st:=fun id hi=>by
      obtain ⟨y,hy,hi⟩:=Zq3 hi
      exact hmv id (ZlJ hvs hy hi)
     rw[ZgD hagrT hids]
     split
     ·exact Fr3.fail
     ·rename_i vs2 is hd
      have his:∀i∈is,i∈wrE o st∧i∈touE o st++wrE o st:=fun i hi=>hW he i (.inr (hids i (Zgz hd i hi)))
      rw[ZrJ hagr (fun i hi=>(his i hi).2) hid.2]
      split
      ·rename_i E t l _
       refine Fr3.cond ?_ Fr3.fail
       split
       ·rename_i e _
        have key:∀s:St,((s.lock is).setOb id ver (.row E t (l.set i e) false)).put o.dst .top=app (lockU s is++[(id,ver,.row E t (l.set i e) false)]) o.dst .top s:=fun s=>by
         rw[ZgP]
         unfold app
         rw[ZaC]
         rfl
        rw[key st,key st2,Zge hagr fun i hi=>(his i hi).2]
        refine Fr3.upd fun p hp=>?_
        rcases List.mem_append.1 hp with hp | hp
        ·exact (his _ (Zd0 p hp)).1
        ·simp only[List.mem_singleton] at hp
         subst hp
         exact hid.1
       ·exact Fr3.fail
      ·exact Fr3.fail
    ·rename_i id ver p i j
     have hid:=hW he id (.inr (hmx id (List.mem_singleton.2 rfl)))
     have hids:∀id∈menL vs,id∈touE o st:=fun id hi=>by
      obtain ⟨y,hy,hi⟩:=Zq3 hi
      exact hmv id (ZlJ hvs hy hi)
     rw[ZgD hagrT hids]
     split
     ·exact Fr3.fail
     ·rename_i vs2 is hd
      have his:∀i∈is,i∈wrE o st∧i∈touE o st++wrE o st:=fun i hi=>hW he i (.inr (hids i (Zgz hd i hi)))
      rw[ZrJ hagr (fun i hi=>(his i hi).2) hid.2]
      split
      ·rename_i E d l _
       split
       ·refine Fr3.cond ?_ Fr3.fail
        split
        ·rename_i l2 _
         have key:∀s:St,((s.lock is).setOb id ver (.deep E d l2)).put o.dst .top=app (lockU s is++[(id,ver,.deep E d l2)]) o.dst .top s:=fun s=>by
          rw[ZgP]
          unfold app
          rw[ZaC]
          rfl
         rw[key st,key st2,Zge hagr fun i hi=>(his i hi).2]
         refine Fr3.upd fun p hp=>?_
         rcases List.mem_append.1 hp with hp | hp
         ·exact (his _ (Zd0 p hp)).1
         ·simp only[List.mem_singleton] at hp
          subst hp
          exact hid.1
        ·exact Fr3.fail
       ·exact Fr3.fail
      ·exact Fr3.fail
    ·exact Fr3.fail
   ·exact Fr3.fail
  ·-- makeSlice
   rename_i T n c h
   have he:isE o.op=true:=by rw[h];rfl
   simp only[opA,h,hev n (by rw[h];simp[Op.operands]),hev c (by rw[h];simp[Op.operands])]
   refine Fr3.bind Det.toI fun p=>Fr3.bind Det.toI fun q=>?_
   split
   ·exact Fr3.fail
   ·split
    ·exact Fr3.fail
    ·exact Fr3.guard (Zde (is:=[]) (fun e hd=>hroot he e hd) (fun id hi=>by simp at hi) hagr)
  ·-- makeMap
   rename_i T n h
   have he:isE o.op=true:=by rw[h];rfl
   cases n with
   | some n=>simp only[opA,h];exact Fr3.fail
   | none=>
    simp only[opA,h]
    split
    ·split
     ·exact Fr3.cond (Zde (is:=[]) (fun e hd=>hroot he e hd) (fun id hi=>by simp at hi) hagr) Fr3.fail
     ·exact Fr3.fail
    ·exact Fr3.fail
  ·exact Fr3.fail
end
end Go.Ev
namespace Go.Ev
variable [Tabs] [Orgs]
open Go
theorem Zq7 {cl:Cl} (hcl:DetC cl) {f:FuncId} {args:List AV} {dst:Option Nat} {st:St} {k:St→Option Ans} {y:Ans} (h:callE cl f args dst st k=some y):callA cl f args dst st k=some y:=by
 unfold callE at h
 unfold callA
 cases hg:allG (give st (takes cl f) 6) args with
 | none=>rw[hg] at h;cases h
 | some p=>
  obtain ⟨forms,is,os⟩:=p
  rw[hg] at h
  cases os with
  | cons x r=>cases h
  | nil=>
   simp only at h
   cases ha:args.all argE with
   | false=>rw[ha] at h;cases h
   | true=>
    rw[ha] at h
    simp only[nodupB,apartB,List.all_nil,Bool.and_true,cond_true] at h ⊢
    rcases hcl f forms with hd | ⟨⟨r,outs⟩,hd⟩
    ·simp only[M.bind,hd] at h;cases h
    ·simp only[M.bind,hd] at h ⊢
     cases hc:(ansE r&&outs.all isTop) with
     | false=>rw[hc] at h;cases h
     | true=>
      rw[hc] at h
      simp only[Bool.and_eq_true] at hc
      simp only[Zmg _ hc.2,Bool.or_false,dropIds,Zkv _ _ _ hc.2]
      exact h
theorem Zq8 {cl:Cl} (hcl:DetC cl) {f:FuncId} {args:List AV} {dst:Option Nat} {st:St} {k:St→Option Ans} {y:Ans} (h:callE cl f args dst st k=some y):callX cl f args dst st k=some y:=by
 unfold callX
 cases hs:same2 args with
 | none=>exact Zq7 hcl h
 | some x=>
  exfalso
  unfold callE at h
  cases hg:allG (give st (takes cl f) 6) args with
  | none=>rw[hg] at h;cases h
  | some p=>
   obtain ⟨forms,is,os⟩:=p
   rw[hg] at h
   cases os with
   | cons a b=>cases h
   | nil=>exact ZnW hs hg rfl
theorem Zub {P:Program} {cl:Cl} (hcl:DetC cl) {o:Oper} {st:St} {k:St→Option Ans} {y:Ans} (h:opE P cl o st k=some y):opA P cl o st k=some y:=by
 unfold opE at h
 cases hv:isV o.op with
 | true=>rw[hv] at h;exact h
 | false=>
  rw[hv] at h
  simp only[cond_false] at h
  cases hop:o.op <;> rw[hop] at h <;> first | exact h | (cases h;done) | skip
  case slice T x lo hi mx=>
   cases mx with
   | some m=>cases h
   | none=>
    simp only at h
    cases hs:slX (st.ev x) lo with
    | false=>rw[hs] at h;cases h
    | true=>rw[hs] at h;exact h
  rename_i c
  simp only at h
  cases hc:c.callee with
  | invoke r m=>rw[hc] at h;cases h
  | builtin b=>rw[hc] at h;cases b <;> first | exact h | (cases h;done)
  | value f=>
   rw[hc] at h
   simp only at h
   simp only[opA,hop,hc]
   cases hf:st.ev f with
   | cst u=>
    rw[hf] at h
    cases u with
    | func g first caps=>
     cases g with
     | func g=>
      simp only at h ⊢
      cases he:(first.isEmpty&&caps.isEmpty) with
      | false=>rw[he] at h;cases h
      | true=>rw[he] at h;exact Zq8 hcl h
     | _=>cases h
    | _=>cases h
   | _=>rw[hf] at h;cases h
section
variable {P:Program} {Mod F0:Nat→Prop} {w0:World} {cl:Cl} {ops:Array Oper} {st0:St}
structure Up where
 v:AV
 o:Obs
def accE (ops:Array Oper) (st0:St) (us:Nat→Up) (S:Nat→Bool):Nat→St
 | 0=>st0
 | n+1=>if S n then app (us n).o (dstOf ops n) (us n).v (accE ops st0 us S n) else accE ops st0 us S n
variable {us:Nat→Up}
theorem ZjA (S:Nat→Bool):∀n,(accE ops st0 us S n).tm.length=st0.tm.length
 | 0=>rfl
 | n+1=>by unfold accE;split <;> simp[Znq,ZsX,ZjA S n]
theorem Zs0 {o:Obs} {st:St} {d:Option Nat} {v:AV} {t:Nat} (h:d≠some t):(app o d v st).tm.getD t .top=st.tm.getD t .top:=by rw[Znq];exact Zqp h
theorem Ztv {o:Obs} {st st2:St} {v:AV} {t:Nat} (h:st.tm.length=st2.tm.length):(app o (some t) v st).tm.getD t .top=(app o (some t) v st2).tm.getD t .top:=by rw[Znq,Znq];exact ZrF h
theorem ZpW {S T:Nat→Bool} {t:Nat} :∀n,(∀j,j < n→dstOf ops j=some t→S j=T j)→(accE ops st0 us S n).tm.getD t .top=(accE ops st0 us T n).tm.getD t .top
 | 0,_=>rfl
 | n+1,h=>by
  have ih:=ZpW n fun j hj=>h j (by omega)
  unfold accE
  by_cases hd:dstOf ops n=some t
  ·rw[h n (by omega) hd,hd]
   split
   ·exact Ztv (by rw[ZjA,ZjA])
   ·exact ih
  ·split <;> split <;> simp only[Zs0 hd,ih]
theorem Zpy {S T:Nat→Bool} {id:Id} :∀n,(∀j,j < n→(∃p∈(us j).o,p.1=id)→S j=T j)→find id (accE ops st0 us S n).ob=find id (accE ops st0 us T n).ob
 | 0,_=>rfl
 | n+1,h=>by
  have ih:=Zpy n fun j hj=>h j (by omega)
  unfold accE
  by_cases hd:∃p∈(us n).o,p.1=id
  ·rw[h n (by omega) hd]
   split
   ·rw[ZiH,ZiH];exact ZaY ih
   ·exact ih
  ·have hne:∀p∈(us n).o,p.1≠id:=fun p hp e=>hd ⟨p,hp,e⟩
   split <;> split <;> simp only[ZiH,Zcv hne,ih]
theorem Zgf {S T:Nat→Bool} :∀n,(∀j,j < n→S j=T j)→accE ops st0 us S n=accE ops st0 us T n
 | 0,_=>rfl
 | n+1,h=>by
  unfold accE
  rw[h n (by omega),Zgf n fun j hj=>h j (by omega)]
theorem Zrx {S:Nat→Bool} {i:Nat} (hi:S i=false):∀n,i < n→(∀j,i < j→j < n→S j=true→(∀t,dstOf ops i=some t→dstOf ops j≠some t)∧∀p∈(us i).o,∀p'∈(us j).o,p.1≠p'.1)→
  app (us i).o (dstOf ops i) (us i).v (accE ops st0 us S n)=accE ops st0 us (addS S i) n
 | 0,h,_=>by omega
 | n+1,h,hj=>by
  by_cases hin:i=n
  ·subst hin
   unfold accE
   rw[hi,if_neg (by simp),if_pos (by simp[addS]),Zgf (T:=addS S i) i fun j hj=>by simp[addS];intro e;omega]
  ·have ih:=Zrx hi n (by omega) fun j h1 h2=>hj j h1 (by omega)
   have hne:addS S i n=S n:=by simp[addS];intro e;omega
   unfold accE
   rw[hne]
   split
   ·rename_i hS
    obtain ⟨h1,h2⟩:=hj n (by omega) (by omega) hS
    rw[←ih,ZtH h2 fun t ht=>h1 t ht]
   ·exact ih
def StepE (P:Program) (cl:Cl) (ops:Array Oper) (o:Oper) (st:St) (u:Up) (lg:List Id×List Id):Prop:=
 (wantA ops o st=some true∧lg=(wrE o st,touE o st)∧(∀p∈u.o,p.1∈wrE o st)∧∀k,opE P cl o st k=k (app u.o o.dst u.v st))∨(wantA ops o st=some false∧u=⟨sk,[]⟩∧lg=([],[]))
def ChainE (P:Program) (cl:Cl) (ops:Array Oper):List Oper→St→List Up→LogE→St→Prop
 | [],st,[],[],st'=>st'=st
 | o :: r,st,u :: us,g :: gs,st'=>StepE P cl ops o st u g∧ChainE P cl ops r (app u.o o.dst u.v st) us gs st'
 | _,_,_,_,_=>False
theorem Ztr (X:List Id) (st:St):agr X st st:=fun _ _=>rfl
theorem Zss (hcl:DetC cl) (o:Oper) (st:St):(∀k,opE P cl o st k=none)∨∃u:Up,(∀p∈u.o,p.1∈wrE o st)∧∀k,opE P cl o st k=k (app u.o o.dst u.v st):=by
 rcases Zqd (P:=P) hcl (Ztr _ st) (fun _ _=>rfl) with h | ⟨v,ob,h0,h1,_⟩
 ·exact .inl h
 ·exact .inr ⟨⟨v,ob⟩,h0,h1⟩
theorem Zkl (hcl:DetC cl) {k:St×LogE→Option Ans} {y:Ans} :∀(l:List Oper) (st:St) (log:LogE),opsE P cl ops l st log k=some y→
  ∃us gs st',ChainE P cl ops l st us gs st'∧us.length=l.length∧gs.length=l.length∧k (st',log++gs)=some y
 | [],st,log,h=>⟨[],[],st,rfl,rfl,rfl,by simpa[opsE,M.pure] using h⟩
 | o :: r,st,log,h=>by
  have run:wantA ops o st=some true→(opE P cl o st) (fun st'=>opsE P cl ops r st' (log++[(wrE o st,touE o st)]) k)=some y→∃us gs st',ChainE P cl ops (o :: r) st us gs st'∧us.length=(o :: r).length∧gs.length=(o :: r).length∧k (st',log++gs)=some y:=fun hw h=>by
   rcases Zss (P:=P) hcl o st with hd | ⟨u,h0,hd⟩
   ·rw[hd] at h;cases h
   ·rw[hd] at h
    obtain ⟨us,gs,st',hc,l1,l2,hk⟩:=Zkl hcl r _ _ h
    exact ⟨u :: us,(wrE o st,touE o st) :: gs,st',⟨.inl ⟨hw,rfl,h0,hd⟩,hc⟩,by simp[l1],by simp[l2],by simpa using hk⟩
  have skip:wantA ops o st=some false→opsE P cl ops r (st.put o.dst sk) (log++[([],[])]) k=some y→∃us gs st',ChainE P cl ops (o :: r) st us gs st'∧us.length=(o :: r).length∧gs.length=(o :: r).length∧k (st',log++gs)=some y:=fun hw h=>by
   obtain ⟨us,gs,st',hc,l1,l2,hk⟩:=Zkl hcl r _ _ h
   exact ⟨⟨sk,[]⟩ :: us,([],[]) :: gs,st',⟨.inr ⟨hw,rfl,rfl⟩,hc⟩,by simp[l1],by simp[l2],by simpa using hk⟩
  cases hg:o.guard with
  | none=>
   simp only[opsE,hg] at h
   exact run (by simp[wantA,hg]) h
  | some jw=>
   obtain ⟨j,want⟩:=jw
   cases ht:(ops[j]?).bind (·.dst) with
   | none=>simp only[opsE,hg,ht] at h;cases h
   | some t=>
    cases hb:st.tm.getD t .top with
    | d T b=>
     cases T with
     | bool=>
      have hset:({ st with tm:=st.tm.set t (.d .bool b) } :St)=st:=by
       cases st with
       | mk tmm obb=>simp only[St.mk.injEq,and_true];exact ZnY (st:=⟨tmm,obb⟩) hb (by simp)
      have hw:wantA ops o st=some (b==want):=by simp only[wantA,hg,dstOf,ht,hb]
      simp only[opsE,hg,ht,hb] at h
      cases b <;> cases want <;> simp only[M.bind,branch,cond_true,cond_false] at h <;> rw[hset] at h
      ·exact run hw h
      ·exact skip hw h
      ·exact skip hw h
      ·exact run hw h
     | _=>simp only[opsE,hg,ht,hb] at h;cases h
    | cst u=>
     simp only[opsE,hg,ht,hb] at h
     cases hn:notBool u with
     | false=>rw[hn] at h;cases h
     | true=>
      rw[hn] at h
      exact skip (by simp only[wantA,hg,dstOf,ht,hb,hn,cond_true]) h
    | _=>simp only[opsE,hg,ht,hb] at h;cases h
theorem ZkE {us0:List Up} {gs0:LogE} :∀(l:List Oper) (i:Nat) (us:List Up) (gs:LogE) (st st':St),i≤ops.size→ops.toList.drop i=l→us0.drop i=us→gs0.drop i=gs→ChainE P cl ops l st us gs st'→
  st=accE ops st0 (fun j=>us0.getD j ⟨.top,[]⟩) (fun _=>true) i→
  st'=accE ops st0 (fun j=>us0.getD j ⟨.top,[]⟩) (fun _=>true) ops.size∧∀j o,i≤j→ops[j]? =some o→StepE P cl ops o (accE ops st0 (fun j=>us0.getD j ⟨.top,[]⟩) (fun _=>true) j) (us0.getD j ⟨.top,[]⟩) (gs0.getD j ([],[]))
 | [],i,us,gs,st,st',hi,hl,_,_,hc,hst=>by
  have hsz:ops.size=i:=by
   have:=congrArg List.length hl
   simp at this
   omega
  cases us with
  | nil=>
   cases gs with
   | nil=>
    simp only[ChainE] at hc
    subst hc
    exact ⟨by rw[hsz];exact hst,fun j o hij ho=>by
     have:=(Array.getElem?_eq_some_iff.1 ho).1
     omega⟩
   | cons g gs=>exact hc.elim
  | cons u us=>cases gs <;> exact hc.elim
 | o :: r,i,[],gs,st,st',_,hl,_,_,hc,hst=>hc.elim
 | o :: r,i,u :: us,[],st,st',_,hl,_,_,hc,hst=>hc.elim
 | o :: r,i,u :: us,g :: gs,st,st',hi,hl,hu,hgs,hc,hst=>by
  obtain ⟨h1,h2⟩:=hc
  have ho:ops[i]? =some o:=by
   have:(ops.toList.drop i)[0]? =some o:=by rw[hl];rfl
   simpa using this
  have hl':ops.toList.drop (i+1)=r:=by rw[←List.tail_drop,hl];rfl
  have hu':us0.drop (i+1)=us:=by rw[←List.tail_drop,hu];rfl
  have hg':gs0.drop (i+1)=gs:=by rw[←List.tail_drop,hgs];rfl
  have hui:us0.getD i ⟨.top,[]⟩=u:=by
   have:(us0.drop i)[0]? =some u:=by rw[hu];rfl
   rw[List.getElem?_drop] at this
   simp only[Nat.add_zero] at this
   rw[List.getD_eq_getElem?_getD,this];rfl
  have hgi:gs0.getD i ([],[])=g:=by
   have:(gs0.drop i)[0]? =some g:=by rw[hgs];rfl
   rw[List.getElem?_drop] at this
   simp only[Nat.add_zero] at this
   rw[List.getD_eq_getElem?_getD,this];rfl
  have hst':app u.o o.dst u.v st=accE ops st0 (fun j=>us0.getD j ⟨.top,[]⟩) (fun _=>true) (i+1):=by
   unfold accE
   rw[if_pos rfl,←hst]
   simp only[hui,dstOf,ho,Option.bind_some]
  have hlt:=(Array.getElem?_eq_some_iff.1 ho).1
  obtain ⟨k1,k2⟩:=ZkE r (i+1) us gs _ st' (by omega) hl' hu' hg' h2 hst'
  refine ⟨k1,fun j o' hij ho'=>?_⟩
  by_cases hji:i=j
  ·subst hji
   rw[ho] at ho'
   cases ho'
   rw[←hst,hui,hgi]
   exact h1
  ·exact k2 j o' (by omega) ho'
theorem ZnN {a b:List Id} (h:disjB a b=true):∀x∈a,x∉b:=by
 intro x hx hb
 have:=List.all_eq_true.1 h x hx
 simp only[Bool.not_eq_true',List.any_eq_false] at this
 exact this x hb (Nat.beq_refl x)
theorem ZrS {log:LogE} (h:okLog ops log=true) {i j:Nat} (hij:i < j) (hj:j < ops.size):
  Nat.testBit ((aheads ops.toList []).getD j 0) i=true∨(∀x∈(log.getD i ([],[])).1,x∉(log.getD j ([],[])).1∧x∉(log.getD j ([],[])).2)∧∀x∈(log.getD j ([],[])).1,x∉(log.getD i ([],[])).2:=by
 have h1:=List.all_eq_true.1 h j (by simp[hj])
 have h2:=List.all_eq_true.1 h1 i (by simp[hij])
 rw[Bool.or_eq_true] at h2
 refine h2.imp id fun h2=>?_
 cases hi:log[i]? with
 | none=>rw[hi] at h2;cases h2
 | some p=>
  cases hj:log[j]? with
  | none=>rw[hi,hj] at h2;cases h2
  | some q=>
   rw[hi,hj] at h2
   obtain ⟨wi,ti⟩:=p
   obtain ⟨wj,tj⟩:=q
   simp only[Bool.and_eq_true] at h2
   rw[List.getD_eq_getElem?_getD,List.getD_eq_getElem?_getD,hi,hj]
   simp only[Option.getD_some]
   refine ⟨fun x hx=>?_,fun x hx=>ZnN h2.2 x hx⟩
   have:=ZnN h2.1 x hx
   simpa using this
end
end Go.Ev
end

section
namespace Go.Ev
variable [Tabs] [Orgs]
open Go
def lb (x:Nat) (l:Obs):Prop:=∀p∈l,x < p.1
theorem Zdy {x:Nat} {p:Nat×Obj} {r:Obs} :sortedB ((x,p) :: r)=true↔lb x r∧sortedB r=true:=by
 induction r generalizing x p with
 | nil=>exact ⟨fun _=>⟨fun q hq=>by simp at hq,rfl⟩,fun _=>rfl⟩
 | cons q r ih=>
  obtain ⟨y,q⟩:=q
  have e:sortedB ((x,p) :: (y,q) :: r)=(Nat.blt x y&&sortedB ((y,q) :: r)):=rfl
  rw[e,Bool.and_eq_true]
  constructor
  ·rintro ⟨h1,h2⟩
   have h1':x < y:=Nat.le_of_ble_eq_true h1
   refine ⟨fun z hz=>?_,h2⟩
   rcases List.mem_cons.1 hz with rfl | hz
   ·exact h1'
   ·exact Nat.lt_trans h1' ((ih.1 h2).1 z hz)
  ·rintro ⟨h1,h2⟩
   exact ⟨Nat.ble_eq_true_of_le (h1 (y,q) (by simp)),h2⟩
theorem ZsE {id:Nat} {p:Nat×Obj} :∀ {l:List (Nat×Nat×Obj)} {q:Nat×Nat×Obj},q∈ins id p l→q.1=id∨q∈l
 | [],q,h=>by simp[ins] at h;subst h;exact .inl rfl
 | (x,u) :: r,q,h=>by
  rw[ZfC] at h
  split at h
  ·rcases List.mem_cons.1 h with rfl | h
   ·exact .inl rfl
   ·exact .inr (by simp[h])
  ·split at h
   ·rcases List.mem_cons.1 h with rfl | h
    ·exact .inl rfl
    ·exact .inr h
   ·rcases List.mem_cons.1 h with rfl | h
    ·exact .inr (by simp)
    ·exact (ZsE h).imp (fun e=>e) fun h=>by simp[h]
theorem ZnS {id:Nat} {p:Nat×Obj} :∀ {l:List (Nat×Nat×Obj)},sortedB l=true→sortedB (ins id p l)=true
 | [],_=>rfl
 | (x,u) :: r,h=>by
  obtain ⟨h1,h2⟩:=Zdy.1 h
  rw[ZfC]
  split
  ·rename_i e
   exact Zdy.2 ⟨fun q hq=>by rw[←e];exact h1 q hq,h2⟩
  ·split
   ·rename_i h3 h4
    refine Zdy.2 ⟨fun q hq=>?_,h⟩
    have hlt:id < x:=by omega
    rcases List.mem_cons.1 hq with rfl | hq
    ·exact hlt
    ·exact Nat.lt_trans hlt (h1 q hq)
   ·rename_i h3 h4
    refine Zdy.2 ⟨fun q hq=>?_,ZnS h2⟩
    rcases ZsE hq with e | hq
    ·rw[e];omega
    ·exact h1 q hq
theorem Zeq:∀ {o l:Obs},sortedB l=true→sortedB (insAll o l)=true
 | [],_,h=>h
 | p :: r,l,h=>by unfold insAll;exact Zeq (ZnS h)
theorem ZbN (x:Nat) (p:Nat×Obj) (r:Obs) (id:Nat):find id ((x,p) :: r)=if x=id then some p else find id r:=by
 simp only[find]
 by_cases h:x=id
 ·subst h;simp
 ·rw[ZiN h,if_neg h];rfl
theorem Zl8 {x:Nat} :∀ {l:Obs},lb x l→find x l=none
 | [],_=>rfl
 | (y,p) :: r,h=>by
  have:=h (y,p) (by simp)
  simp only at this
  rw[ZbN,if_neg (by omega)]
  exact Zl8 fun q hq=>h q (by simp[hq])
theorem Znw:∀ {l l':Obs},sortedB l=true→sortedB l'=true→(∀id,find id l=find id l')→l=l'
 | [],[],_,_,_=>rfl
 | [],(y,q) :: r',_,_,h=>by
  have:=h y
  rw[ZbN,if_pos rfl] at this
  cases this
 | (x,p) :: r,[],_,_,h=>by
  have:=h x
  rw[ZbN,if_pos rfl] at this
  cases this
 | (x,p) :: r,(y,q) :: r',h1,h2,h=>by
  obtain ⟨l1,s1⟩:=Zdy.1 h1
  obtain ⟨l2,s2⟩:=Zdy.1 h2
  have hxy:x=y:=by
   rcases Nat.lt_trichotomy x y with hlt | e | hlt
   ·have:=h x
    rw[ZbN,if_pos rfl,ZbN,if_neg (by omega),Zl8 fun z hz=>Nat.lt_trans hlt (l2 z hz)] at this
    cases this
   ·exact e
   ·have:=h y
    rw[ZbN,if_neg (by omega),ZbN,if_pos rfl,Zl8 fun z hz=>Nat.lt_trans hlt (l1 z hz)] at this
    cases this
  subst hxy
  have hp:p=q:=by
   have:=h x
   rw[ZbN,if_pos rfl,ZbN,if_pos rfl] at this
   exact Option.some.inj this
  subst hp
  have hr:r=r':=Znw s1 s2 fun id=>by
   by_cases hid:x=id
   ·subst hid;rw[Zl8 l1,Zl8 l2]
   ·have:=h id
    rwa[ZbN,if_neg hid,ZbN,if_neg hid] at this
  rw[hr]
section
variable {P:Program} {Mod F0:Nat→Prop} {w0:World} {cl:Cl} {ops:Array Oper} {st0:St} {us:Nat→Up}
theorem Zji (h:sortedB st0.ob=true) {S:Nat→Bool} :∀n,sortedB (accE ops st0 us S n).ob=true
 | 0=>h
 | n+1=>by
  unfold accE
  split
  ·rw[ZiH];exact Zeq (Zji h n)
  ·exact Zji h n
theorem Zsc {X:List Id} {st st2:St} {o o':Obs} {d:Option Nat} {v v':AV} (hagr:agr X st st2) (ho:∀p∈o,p.1∈X) (ho':∀p∈o',p.1∈X) (hl:st.tm.length=st2.tm.length) (hs:sortedB st2.ob=true)
  (h:app o d v st=app o' d v' st):app o d v st2=app o' d v' st2:=by
 have h1:insAll o st.ob=insAll o' st.ob:=by rw[←ZiH (d:=d) (v:=v),←ZiH (d:=d) (v:=v'),h]
 have h2:st.put d v=st.put d v':=by
  have:=congrArg St.tm h
  rw[Znq,Znq] at this
  have e:∀u,st.put d u=⟨(st.put d u).tm,st.ob⟩:=fun u=>by cases d <;> rfl
  rw[e v,e v',this]
 have h3:insAll o st2.ob=insAll o' st2.ob:=Znw (Zeq hs) (Zeq hs) fun id=>by
  by_cases hid:id∈X
  ·rw[ZaY (hagr id hid),ZaY (o:=o') (hagr id hid),h1]
  ·rw[Zcv fun p hp e=>hid (by rw[←e];exact ho p hp),Zcv fun p hp e=>hid (by rw[←e];exact ho' p hp)]
 have h4:=ZtQ h2 hl
 unfold app
 rw[h3]
 have e:∀u,(⟨st2.tm,insAll o' st2.ob⟩:St).put d u=⟨(st2.put d u).tm,insAll o' st2.ob⟩:=fun u=>by cases d <;> rfl
 rw[e v,e v',h4]
theorem ZqZ {i:Nat} :∀n,i≤n→accE ops st0 us (fun j=>decide (j < i)) n=accE ops st0 us (fun _=>true) i
 | 0,h=>by
  obtain rfl:i=0:=by omega
  rfl
 | n+1,h=>by
  by_cases hi:i=n+1
  ·subst hi
   exact Zgf _ fun j hj=>by simpa using hj
  ·rw[←ZqZ n (by omega)]
   conv=>lhs;unfold accE
   rw[if_neg (by simp;omega)]
open Classical in
theorem Zth (hcl:Spec P cl) (hdet:DetC cl) {y:Ans} {k:St→Option Ans} {Q:Exit→Act→World→Prop} (hQ:∀st a w,Rel Mod F0 w0 st a w→k st=some y→Q .normal a w)
  (hok:drawOK ops=true) (hsort:sortedB st0.ob=true) {gs:Nat→List Id×List Id}
  (hlog:∀i j,i < j→j < ops.size→Nat.testBit ((aheads ops.toList []).getD j 0) i=true∨(∀x∈(gs i).1,x∉(gs j).1∧x∉(gs j).2)∧∀x∈(gs j).1,x∉(gs i).2)
  (hsteps:∀j o,ops[j]? =some o→StepE P cl ops o (accE ops st0 us (fun _=>true) j) (us j) (gs j)) (hk:k (accE ops st0 us (fun _=>true) ops.size)=some y):
  ∀(fuel:Nat) (listed:Array Bool) (a:Act) (w:World),listed.size=ops.size→Closed ops (fun j=>listed.getD j false)→(List.range ops.size).countP (fun j=>!listed.getD j true)≤fuel→
   Rel Mod F0 w0 (accE ops st0 us (fun j=>listed.getD j false) ops.size) a w→wpAny P .any ops Q fuel listed a w:=by
 have hwr:∀j o,ops[j]? =some o→∀p∈(us j).o,p.1∈(gs j).1:=fun j o ho p hp=>by
  rcases hsteps j o ho with ⟨_,hg,hid,_⟩ | ⟨_,hu,_⟩
  ·rw[hg];exact hid p hp
  ·rw[hu] at hp;simp at hp
 have hget:∀(listed:Array Bool) j,j < listed.size→listed.getD j true=listed.getD j false:=fun listed j hj=>by simp[hj]
 have allDone:∀(listed:Array Bool) a w,listed.size=ops.size→(∀j,j < ops.size→listed.getD j false=true)→Rel Mod F0 w0 (accE ops st0 us (fun j=>listed.getD j false) ops.size) a w→Q .normal a w:=by
  intro listed a w hs hall hr
  rw[Zgf (T:=fun _=>true) ops.size hall] at hr
  exact hQ _ a w hr hk
 have ofReady:∀(listed:Array Bool),listed.size=ops.size→Region.ready .any ops listed=[]→∀j,j < ops.size→listed.getD j false=true:=by
  intro listed hs hr j
  induction j using Nat.strongRecOn with
  | _ j ih=>
   intro hj
   cases hl:listed.getD j false with
   | true=>rfl
   | false=>
    have:j∈Region.ready .any ops listed:=by
     rw[mem_ready]
     refine ⟨by rw[hget listed j (by omega)];exact hl,ops[j],by simp[hj],fun e he hb=>?_⟩
     have:=((ZbW hok) j ops[j] (by simp[hj])).1 e he hb
     exact ih e.on this (by omega)
    rw[hr] at this
    cases this
 have step:∀(K:Array Bool→Act→World→Prop) (listed:Array Bool) (a:Act) (w:World) (i:Nat),listed.size=ops.size→Closed ops (fun j=>listed.getD j false)→
   Rel Mod F0 w0 (accE ops st0 us (fun j=>listed.getD j false) ops.size) a w→i∈Region.ready .any ops listed→
   (∀a' w',Closed ops (fun j=>(listed.setIfInBounds i true).getD j false)→Rel Mod F0 w0 (accE ops st0 us (fun j=>(listed.setIfInBounds i true).getD j false) ops.size) a' w'→K (listed.setIfInBounds i true) a' w')→
   wpOp P ops Q i (K (listed.setIfInBounds i true)) a w:=by
  intro K listed a w i hs hcld hr hi hK
  obtain ⟨hun,o,ho,hpre⟩:=mem_ready.1 hi
  have hlt:=(Array.getElem?_eq_some_iff.1 ho).1
  have hSi:listed.getD i false=false:=by rw[←hget listed i (by omega)];exact hun
  have hdi:dstOf ops i=o.dst:=by simp[dstOf,ho]
  have hbefore:∀j,Nat.testBit ((aheads ops.toList []).getD i 0) j=true→listed.getD j false=true:=by
   intro j hb
   obtain ⟨o2,ho2,e,he,hbnd,h⟩:=Zin ops.toList [] i j (by simp) hb
   have:o2=o:=by
    simp only[List.length_nil,Nat.sub_zero,Array.getElem?_toList] at ho2
    rw[ho] at ho2
    cases ho2;rfl
   subst this
   have hon:=hpre e (by simpa using he) hbnd
   rcases h with h | ⟨_,h⟩
   ·rw[←h];exact hon
   ·exact ZbH hcld e.on j hon h
  have hslot:∀t∈o.looksAt ops,(accE ops st0 us (fun j=>listed.getD j false) ops.size).tm.getD t .top=(accE ops st0 us (fun _=>true) i).tm.getD t .top:=by
   intro t ht
   rw[←ZqZ (i:=i) ops.size (by omega)]
   refine ZpW ops.size fun j hj hdj=>?_
   obtain ⟨p,hp⟩:∃p,ops[j]? =some p:=⟨ops[j],by simp[hj]⟩
   have hpd:p.dst=some t:=by simpa[dstOf,hp] using hdj
   rcases Nat.lt_trichotomy j i with hji | hji | hji
   ·rw[decide_eq_true hji]
    rcases (ZbW hok i o ho).2 j p hji hp with hb | hap
    ·exact hbefore j hb
    ·exact absurd ht ((Oper.apart_spec hap).1 t hpd)
   ·subst hji
    rw[hSi]
    simp
   ·rw[decide_eq_false (by omega)]
    cases hSj:listed.getD j false with
    | false=>rfl
    | true=>
     rcases (ZbW hok j p hp).2 i o hji ho with hb | hap
     ·have:listed.getD i false=true:=ZbH hcld j i hSj hb
      rw[hSi] at this
      cases this
     ·exact absurd ht ((Oper.apart_spec hap).2.2 t hpd)
  have hfind:∀id,id∈(gs i).1∨id∈(gs i).2→find id (accE ops st0 us (fun j=>listed.getD j false) ops.size).ob=find id (accE ops st0 us (fun _=>true) i).ob:=by
   intro id hid
   rw[←ZqZ (i:=i) ops.size (by omega)]
   refine Zpy ops.size fun j hj ⟨p,hp,hpe⟩=>?_
   obtain ⟨q,hq⟩:∃q,ops[j]? =some q:=⟨ops[j],by simp[hj]⟩
   have hw:id∈(gs j).1:=by rw[←hpe];exact hwr j q hq p hp
   rcases Nat.lt_trichotomy j i with hji | hji | hji
   ·rw[decide_eq_true hji]
    rcases hlog j i hji hlt with hb | ⟨h1,_⟩
    ·exact hbefore j hb
    ·rcases hid with hid | hid
     ·exact absurd hid (h1 id hw).1
     ·exact absurd hid (h1 id hw).2
   ·subst hji
    rw[hSi]
    simp
   ·rw[decide_eq_false (by omega)]
    cases hSj:listed.getD j false with
    | false=>rfl
    | true=>
     rcases hlog i j hji hj with hb | ⟨h1,h2⟩
     ·have:listed.getD i false=true:=ZbH hcld j i hSj hb
      rw[hSi] at this
      cases this
     ·rcases hid with hid | hid
      ·exact absurd hw (h1 id hid).1
      ·exact absurd hid (h2 id hw)
  have hev:∀x∈o.op.operands,(accE ops st0 us (fun j=>listed.getD j false) ops.size).ev x=(accE ops st0 us (fun _=>true) i).ev x:=by
   intro x hx
   cases x with
   | tmp t=>exact hslot t (List.mem_append_left _ (List.mem_filterMap.2 ⟨.tmp t,by simpa using hx,rfl⟩))
   | _=>rfl
  have hwant:wantA ops o (accE ops st0 us (fun j=>listed.getD j false) ops.size)=wantA ops o (accE ops st0 us (fun _=>true) i):=by
   unfold wantA
   cases hg:o.guard with
   | none=>rfl
   | some jw=>
    obtain ⟨g,want⟩:=jw
    simp only
    cases ht:dstOf ops g with
    | none=>rfl
    | some t=>
     simp only
     rw[hslot t (by
      unfold Oper.looksAt
      rw[hg]
      refine List.mem_append_right _ ?_
      simp only
      rw[show (ops[g]?).bind (·.dst)=some t from ht]
      simp)]
  have hadd:app (us i).o o.dst (us i).v (accE ops st0 us (fun j=>listed.getD j false) ops.size)=accE ops st0 us (fun j=>(listed.setIfInBounds i true).getD j false) ops.size:=by
   rw[←hdi,Zrx hSi ops.size hlt fun j hij hj hSj=>?_]
   ·refine Zgf _ fun j hj=>?_
    simp only[addS]
    by_cases hji:j=i
    ·subst hji;simp[hs,hlt]
    ·rw[getD_set_ne false (Ne.symm hji)];simp[hji]
   ·obtain ⟨p,hp⟩:∃p,ops[j]? =some p:=⟨ops[j],by simp[hj]⟩
    have hnb:¬Nat.testBit ((aheads ops.toList []).getD j 0) i=true:=fun hb=>by
     have:listed.getD i false=true:=ZbH hcld j i hSj hb
     rw[hSi] at this
     cases this
    refine ⟨fun t ht hdj=>?_,fun q hq q' hq' e=>?_⟩
    ·rcases (ZbW hok j p hp).2 i o hij ho with hb | hap
     ·exact hnb hb
     ·exact (Oper.apart_spec hap).2.1 t (by rw[←hdi];exact ht) (by simpa[dstOf,hp] using hdj)
    ·rcases hlog i j hij hj with hb | ⟨h1,_⟩
     ·exact hnb hb
     ·exact (h1 _ (hwr i o ho q hq)).1 (by rw[e];exact hwr j p hp q' hq')
  have hcld':Closed ops (fun j=>(listed.setIfInBounds i true).getD j false):=by
   intro j p hp hj e he hb
   by_cases hji:j=i
   ·subst hji
    rw[ho] at hp
    cases hp
    exact getD_set_true (hpre e he hb)
   ·simp only at hj
    rw[getD_set_ne false (Ne.symm hji)] at hj
    exact getD_set_true (hcld j p hp hj e he hb)
  unfold wpOp
  simp only[ho]
  rcases hsteps i o ho with ⟨hw,hg,hids,hop⟩ | ⟨hw,hu,hg⟩
  ·rw[if_pos (ZjJ hr (by rw[hwant];exact hw))]
   refine .inl ?_
   have hagr:agr (touE o (accE ops st0 us (fun _=>true) i)++wrE o (accE ops st0 us (fun _=>true) i)) (accE ops st0 us (fun _=>true) i) (accE ops st0 us (fun j=>listed.getD j false) ops.size):=fun id hid=>by
    refine hfind id ?_
    rw[hg]
    rcases List.mem_append.1 hid with h | h
    ·exact .inr h
    ·exact .inl h
   rcases Zqd (P:=P) hdet hagr hev with hn | ⟨v,o',h0,h1,h2⟩
   ·have:=hop fun _=>some y
    rw[hn] at this
    cases this
   ·have e1:app o' o.dst v (accE ops st0 us (fun _=>true) i)=app (us i).o o.dst (us i).v (accE ops st0 us (fun _=>true) i):=by
     have:=h1 fun s=>if s=app (us i).o o.dst (us i).v (accE ops st0 us (fun _=>true) i) then some y else none
     rw[hop,if_pos rfl] at this
     exact Classical.byContradiction fun hne=>by rw[if_neg hne] at this;cases this
    have e2:=Zsc hagr (fun p hp=>List.mem_append_right _ (h0 p hp)) (fun p hp=>List.mem_append_right _ (hids p hp)) (by rw[ZjA,ZjA]) (Zji hsort _) e1
    have h3:=h2 fun s=>if s=app (us i).o o.dst (us i).v (accE ops st0 us (fun j=>listed.getD j false) ops.size) then some y else none
    rw[e2,if_pos rfl] at h3
    refine Oper.wp_mono (fun a' w' h'=>?_) (ZsK hcl (Zub hdet h3) hr Q)
    obtain ⟨st',hr',hst'⟩:=h'
    have:st'=app (us i).o o.dst (us i).v (accE ops st0 us (fun j=>listed.getD j false) ops.size):=Classical.byContradiction fun hne=>by rw[if_neg hne] at hst';cases hst'
    subst this
    rw[hadd] at hr'
    exact hK a' w' hcld' hr'
  ·have hwn:=ZjJ hr (by rw[hwant];exact hw)
   rw[if_neg (by rw[hwn];decide)]
   have hr':=ZqF hr o.dst
   rw[hu] at hadd
   rw[←ZtS,hadd] at hr'
   exact hK _ w hcld' hr'
 intro fuel
 induction fuel with
 | zero=>
  intro listed a w hs hcld hcnt hr
  have hall:∀j,j < ops.size→listed.getD j false=true:=fun j hj=>by
   have:=List.countP_eq_zero.1 (Nat.le_zero.1 hcnt) j (by simp[hj])
   rw[hget listed j (by omega)] at this
   simpa using this
  refine ⟨List.eq_nil_iff_forall_not_mem.2 fun j hj=>?_,allDone listed a w hs hall hr⟩
  obtain ⟨h1,o,ho,_⟩:=mem_ready.1 hj
  have hlt:=(Array.getElem?_eq_some_iff.1 ho).1
  rw[hget listed j (by omega),hall j hlt] at h1
  cases h1
 | succ fuel ih=>
  intro listed a w hs hcld hcnt hr
  refine ⟨fun h=>allDone listed a w hs (ofReady listed hs h) hr,fun i hi=>step (fun listed=>wpAny P .any ops Q fuel listed) listed a w i hs hcld hr hi fun a' w' hc' hr'=>?_⟩
  refine ih _ a' w' (by simpa using hs) hc' ?_ hr'
  obtain ⟨hun,o,ho,_⟩:=mem_ready.1 hi
  have hlt:=(Array.getElem?_eq_some_iff.1 ho).1
  have:=ZlF (p:=fun j=>!listed.getD j true) (p':=fun j=>!(listed.setIfInBounds i true).getD j true) (i:=i) (fun j hj=>by
   by_cases hji:i=j
   ·subst hji;simp[hs,hlt] at hj
   ·rw[getD_set_ne true hji] at hj;exact hj) (by simpa using hun) (by simp[hs,hlt]) (List.range ops.size) (by simp[hlt])
  omega
theorem Zs1 (hcl:Spec P cl) (hdet:DetC cl) {id:Nat} {y:Ans} {k:St→Option Ans} {Q:Exit→Act→World→Prop} (hQ:∀st a w,Rel Mod F0 w0 st a w→k st=some y→Q .normal a w)
  (hm:P.follows .mixedOrders=true) (hok:drawOK ops=true) {st:St} {a:Act} {w:World} (h:runE P cl ops st k=some y) (hr:Rel Mod F0 w0 st a w):(Code.region id ops true).wp P Q a w:=by
 unfold runE at h
 obtain ⟨us,gs,st',hc,l1,l2,hk⟩:=Zkl hdet ops.toList st [] h
 rw[List.nil_append] at hk
 simp only at hk
 cases hb:(sortedB st.ob&&okLog ops gs) with
 | false=>rw[hb] at hk;cases hk
 | true=>
  rw[hb] at hk
  rw[Bool.and_eq_true] at hb
  have hk':k st'=some y:=hk
  obtain ⟨h1,h2⟩:=ZkE (st0:=st) (us0:=us) (gs0:=gs) ops.toList 0 us gs st st' (Nat.zero_le _) rfl rfl rfl hc rfl
  subst h1
  refine wp_region_any hm (Zth (gs:=fun j=>gs.getD j ([],[])) hcl hdet hQ hok hb.1 (fun i j hij hj=>ZrS hb.2 hij hj) (fun j o ho=>h2 j o (Nat.zero_le _) ho) hk' ops.size (Array.replicate ops.size false) a _ (by simp) ?_ (Nat.le_trans List.countP_le_length (by simp)) ?_)
  ·intro j o ho hj
   by_cases hlt:j < ops.size <;> simp[hlt] at hj
  ·have:accE ops st (fun j=>us.getD j ⟨.top,[]⟩) (fun j=>(Array.replicate ops.size false).getD j false) ops.size=st:=by
    have:∀n,accE ops st (fun j=>us.getD j ⟨.top,[]⟩) (fun j=>(Array.replicate ops.size false).getD j false) n=st:=by
     intro n
     induction n with
     | zero=>rfl
     | succ n ih=>
      unfold accE
      rw[if_neg,ih]
      by_cases hlt:n < ops.size <;> simp[hlt]
    exact this _
   rw[this]
   obtain ⟨hd,F,ρ,hR,hE⟩:=hr
   have hE':Evo (fun _=>False) F w F { w with drawn:=w.drawn+1 } :=⟨rfl,rfl,rfl,Nat.le_refl _,fun _ h=>h,fun _ h=>.inl h,fun _ _ _=>rfl⟩
   obtain ⟨hR',hE2⟩:=hR.world hE' (fun _ h=>h.elim) (fun _ _ h=>h) hR.low
   exact ⟨hd,F,ρ,hR',hE.trans hE2⟩
end
end Go.Ev
end

section
namespace Go.Ev
variable [Tabs] [Orgs]
open Go
section
variable {P:Program} {Mod F0:Nat→Prop} {w0:World} {cl:Cl} {tb:Tb} {y:Ans} {ps:List (Nat×(Lt→Kt))}
def Good (Mod F0:Nat→Prop) (w0:World) (y:Ans) (ps:List (Nat×(Lt→Kt))) (n:Nat) (k:Lt→Kt) (a:Act) (w:World):Prop:=
 ∃m st,m≤n∧Rel Mod F0 w0 st a w∧k (Ls ps m) st=some y
def QC (Mod F0:Nat→Prop) (w0:World) (y:Ans) (ps:List (Nat×(Lt→Kt))) (n:Nat) (k:Lt→Kt) (x:Lt→Nat→Kt) (r:Lt→Kt):Exit→Act→World→Prop
 |.normal,a,w=>Good Mod F0 w0 y ps n k a w
 |.exit j,a,w=>Good Mod F0 w0 y ps n (fun L=>x L j) a w
 |.ret,a,w=>Good Mod F0 w0 y ps n r a w
 | _,_,_=>False
theorem Good.le {n n':Nat} (h:n≤n') {k:Lt→Kt} {a:Act} {w:World} (hg:Good Mod F0 w0 y ps n k a w):Good Mod F0 w0 y ps n' k a w:=
 let ⟨m,st,hm,hr⟩:=hg;⟨m,st,Nat.le_trans hm h,hr⟩
theorem QC.le {n n':Nat} (h:n≤n') {k:Lt→Kt} {x:Lt→Nat→Kt} {r:Lt→Kt} :∀e a w,QC Mod F0 w0 y ps n k x r e a w→QC Mod F0 w0 y ps n' k x r e a w
 |.normal,_,_,hg=>Good.le h hg
 |.exit j,_,_,hg=>Good.le h (k:=fun L=>x L j) hg
 |.ret,_,_,hg=>Good.le h hg
 |.goto _,_,_,hg=>hg
 |.panic _,_,_,hg=>hg
 |.outgrown,_,_,hg=>hg
theorem ZkU {p:Nat→Prop} :∀n,p n→∃m,p m∧∀j,p j→m≤j:=by
 intro n
 induction n using Nat.strongRecOn with
 | _ n ih=>
  intro hn
  by_cases h:∃m,m < n∧p m
  ·obtain ⟨m,hm,hp⟩:=h
   exact ih m hm hp
  ·exact ⟨n,hn,fun j hj=>Nat.le_of_not_lt fun hlt=>h ⟨j,hlt,hj⟩⟩
open Classical in
noncomputable def least (p:Nat→Prop):Nat:=if h:∃n,p n then Classical.choose (let ⟨n,hn⟩:=h;ZkU n hn) else 0
theorem ZnL {p:Nat→Prop} {n:Nat} (h:p n):p (least p)∧∀j,p j→least p≤j:=by
 have he:∃n,p n:=⟨n,h⟩
 unfold least
 rw[dif_pos he]
 exact Classical.choose_spec (let ⟨n,hn⟩:=he;ZkU n hn)
theorem Zta {c:Operand} {st:St} {a:Act} {w:World} {k:Bool→Option Ans} (hr:Rel Mod F0 w0 st a w) (h:M.bind (toB (st.ev c)) branch k=some y):∃t,a.eval c=.bool t∧k t=some y:=by
 obtain ⟨t,hb,h⟩:=(Sat.bind (q:=fun t=>st.ev c=.d .bool t) Sat.toB (fun b hb=>Sat.mono Sat.branch (fun t ht=>by rw[ht];exact hb))) k y h
 obtain ⟨_,F,ρ,hR,_⟩:=hr
 have:=Zv hR c
 rw[hb] at this
 exact ⟨t,Zdb this,h⟩
theorem Zsy {n i:Nat} {st:St} (h:Ls ps n i st=some y):∃m,n=m+1∧procOf ps i (Ls ps m) st=some y:=by
 cases n with
 | zero=>cases h
 | succ m=>exact ⟨m,rfl,h⟩
def Has (ps:List (Nat×(Lt→Kt))) (qs:List (Nat×(Lt→Kt))):Prop:=∀j p,(j,p)∈qs→∀L st,procOf ps j L st=p L st
theorem Has.left {qs rs:List (Nat×(Lt→Kt))} (h:Has ps (qs++rs)):Has ps qs:=fun j p hj=>h j p (by simp[hj])
theorem Has.right {qs rs:List (Nat×(Lt→Kt))} (h:Has ps (qs++rs)):Has ps rs:=fun j p hj=>h j p (by simp[hj])
theorem Zcf (hcl:Spec P cl) (hdet:DetC cl):∀(c:Code) (i:Nat) (k:Lt→Kt) (x:Lt→Nat→Kt) (r:Lt→Kt),Has ps (procs P cl tb c i k x r)→
  ∀(n:Nat) (st:St) (a:Act) (w:World),evC P cl tb (Ls ps n) c i (k (Ls ps n)) (x (Ls ps n)) (r (Ls ps n)) st=some y→Rel Mod F0 w0 st a w→c.wp P (QC Mod F0 w0 y ps n k x r) a w
 |.skip,i,k,x,r,_,n,st,a,w,h,hr=>wp_skip ⟨n,st,Nat.le_refl _,hr,h⟩
 |.region id ops draw,i,k,x,r,_,n,st,a,w,h,hr=>by
  cases draw with
  | true=>
   simp only[evC,cond_true] at h
   cases hc:(P.follows .mixedOrders&&drawOK ops) with
   | false=>rw[hc] at h;cases h
   | true=>
    rw[hc] at h
    rw[Bool.and_eq_true] at hc
    simp only[cond_true] at h
    cases hD:ops.toList.all (isD P) with
    | true=>
     rw[hD] at h
     exact Ztd hcl hdet (fun st a w hr hk=>⟨n,st,Nat.le_refl _,hr,hk⟩) hc.1 hc.2 h hr
    | false=>
     rw[hD] at h
     exact Zs1 hcl hdet (fun st a w hr hk=>⟨n,st,Nat.le_refl _,hr,hk⟩) hc.1 hc.2 h hr
  | false=>
   refine wp_region ?_
   cases hl:labOf tb ownK with
   | none=>
    have h':opsA P cl ops ops.toList st (k (Ls ps n))=some y:=by simpa[evC,hl] using h
    have:=Ztp (Q:=QC Mod F0 w0 y ps n k x r) hcl (fun st a w hr hk=>⟨n,st,Nat.le_refl _,hr,hk⟩) ops.toList 0 st a w rfl h' hr
    simpa[List.range_eq_range'] using this
   | some lab=>
    have h':opsG (opX P (ownOf lab.live) cl) ops ops.toList st (k (Ls ps n))=some y:=by simpa[evC,hl] using h
    have:=Zih (Mod:=Mod) (Q:=QC Mod F0 w0 y ps n k x r) (fun o st=>ZtU (own:=ownOf lab.live) hcl) (fun st a w hr hk=>⟨n,st,Nat.le_refl _,hr,hk⟩) ops.toList 0 st a w rfl h' hr
    simpa[List.range_eq_range'] using this
 |.seq a b,i,k,x,r,hps,n,st,ac,w,h,hr=>by
  refine wp_seq ?_
  cases hl:labOf tb i with
  | none=>
   simp only[procs,hl,List.nil_append] at hps
   simp only[evC,hl] at h
   refine wp_mono (Zcf hcl hdet a (i+1) (fun L=>evC P cl tb L b (i+1+nn a) (k L) (x L) (r L)) x r hps.left n st ac w h hr) fun e a' w' he=>?_
   cases e with
   | normal=>
    obtain ⟨m,st',hm,hr',hk⟩:=he
    exact wp_mono (Zcf hcl hdet b (i+1+nn a) k x r hps.right m st' a' w' hk hr') (QC.le hm)
   | _=>exact he
  | some lab=>
   simp only[procs,hl] at hps
   simp only[evC,hl] at h
   refine wp_mono (Zcf hcl hdet a (i+1) (fun L st=>L i (normL P lab st)) x r hps.left.right n st ac w h hr) fun e a' w' he=>?_
   cases e with
   | normal=>
    obtain ⟨m,st',hm,hr',hk⟩:=he
    obtain ⟨m',rfl,hk⟩:=Zsy hk
    have hk:procOf ps i (Ls ps m') (normL P lab st')=some y:=hk
    rw[hps.left.left i _ (List.mem_singleton.2 rfl)] at hk
    exact wp_mono (Zcf hcl hdet b (i+1+nn a) k x r hps.right m' _ a' w' hk (ZlD hr')) (QC.le (by omega))
   | _=>exact he
 |.cond c a b,i,k,x,r,hps,n,st,ac,w,h,hr=>by
  simp only[procs] at hps
  simp only[evC] at h
  obtain ⟨t,ht,h⟩:=Zta hr h
  refine wp_cond ht ?_
  cases t with
  | true=>exact Zcf hcl hdet a i k x r hps.left n st ac w h hr
  | false=>exact Zcf hcl hdet b (i+nn a) k x r hps.right n st ac w h hr
 |.block id c,i,k,x,r,hps,n,st,a,w,h,hr=>by
  simp only[procs] at hps
  simp only[evC] at h
  refine wp_block (wp_mono (Zcf hcl hdet c i k _ r hps n st a w h hr) fun e a' w' he=>?_)
  cases e with
  | exit j=>
   obtain ⟨m,st',hm,hr',hk⟩:=he
   simp only[Exit.inBlock]
   split
   ·rename_i hj
    subst hj
    simp only[Nat.beq_refl,cond_true] at hk
    exact ⟨m,st',hm,hr',hk⟩
   ·rename_i hj
    simp only[ZiN hj,cond_false] at hk
    exact ⟨m,st',hm,hr',hk⟩
  | _=>exact he
 |.loop c,i,k,x,r,hps,n,st,a,w,h,hr=>by
  cases hl:labOf tb i with
  | none=>simp[evC,hl] at h
  | some lab=>
   simp only[procs,hl] at hps
   simp only[evC,hl] at h
   have hbody:∀m st,Ls ps m i st=some y→∃m',m=m'+1∧evC P cl tb (Ls ps m') c (i+1) (fun st=>Ls ps m' i (normL P lab st)) (x (Ls ps m')) (r (Ls ps m')) st=some y:=by
    intro m st hm
    obtain ⟨m',rfl,hk⟩:=Zsy hm
    rw[hps i _ (List.mem_cons_self ..)] at hk
    exact ⟨m',rfl,hk⟩
   let B:Act→World→Nat→Prop:=fun a w m=>∃st,m≤n∧Rel Mod F0 w0 st a w∧evC P cl tb (Ls ps m) c (i+1) (fun st=>Ls ps m i (normL P lab st)) (x (Ls ps m)) (r (Ls ps m)) st=some y
   obtain ⟨n',hn',hb1⟩:=hbody n _ h
   refine wp_loop (fun a w=>∃m,B a w m) (fun a w=>least (B a w)) ⟨n',_,by omega,ZlD hr,hb1⟩ fun a w ⟨m0,hm0⟩=>?_
   obtain ⟨hB,hmin⟩:=ZnL hm0
   obtain ⟨st1,hle,hr1,h1⟩:=hB
   refine wp_mono (Zcf hcl hdet c (i+1) (fun L st=>L i (normL P lab st)) x r (fun j p hj=>hps j p (by simp[hj])) (least (B a w)) st1 a w h1 hr1) fun e a' w' he=>?_
   cases e with
   | normal=>
    obtain ⟨m,st',hm,hr',hk⟩:=he
    obtain ⟨m',hm',hk1⟩:=hbody m _ hk
    have hB':B a' w' m':=⟨_,by omega,ZlD hr',hk1⟩
    exact ⟨⟨m',hB'⟩,by have:=(ZnL hB').2 m' hB';omega⟩
   | exit j=>exact QC.le hle (.exit j) a' w' he
   | ret=>exact QC.le hle .ret a' w' he
   | _=>exact he
 |.exit id,i,k,x,r,_,n,st,a,w,h,hr=>wp_exit ⟨n,st,Nat.le_refl _,hr,h⟩
 |.ret,i,k,x,r,_,n,st,a,w,h,hr=>wp_ret ⟨n,st,Nat.le_refl _,hr,h⟩
 |.rangeFunc _ _ _ _,_,_,_,_,_,_,_,_,_,h,_=>by simp[evC] at h
 |.scope _,_,_,_,_,_,_,_,_,_,h,_=>by simp[evC] at h
 |.label _,_,_,_,_,_,_,_,_,_,h,_=>by simp[evC] at h
 |.goto _,_,_,_,_,_,_,_,_,_,h,_=>by simp[evC] at h
theorem ZtR (h:nodupB (ps.map (·.1))=true):Has ps ps:=by
 intro j p hj L st
 have hn:=ZeN h
 clear h
 induction ps with
 | nil=>cases hj
 | cons q r ih=>
  obtain ⟨j',p'⟩:=q
  simp only[List.map_cons,List.nodup_cons] at hn
  unfold procOf
  rcases List.mem_cons.1 hj with e | hj
  ·cases e
   rw[Nat.beq_refl];rfl
  ·have hne:j'≠j:=fun e=>hn.1 (by subst e;exact List.mem_map.2 ⟨(j',p),hj,rfl⟩)
   rw[ZiN hne]
   exact ih hj hn.2
end
end Go.Ev
end

section
namespace Go.Ev
variable [Tabs] [Orgs]
open Go
section
variable {P:Program} {Mod F:Nat→Prop} {ρ:Rho} {w:World} {st:St} {cl:Cl} {tb:Tb}
theorem Zqj:∀(xs:List AV) (i:Nat) (st:St) (ρ:Rho) (ys:List AV) (vs:List Value) (st':St) (L:List Nat),initA st i xs=some (ys,st')→R Mod F ρ w st #[]→TReps F w xs vs L→Fr Mod F ρ w st L→(∀k v,vs[k]? =some v→v=Orgs.org (i+k))→
  ∃ρ',R Mod F ρ' w st' #[]∧CsRep F ρ' w st' ys vs∧Came st ρ st' ρ' L
 | [],j,st,ρ,ys,vs,st',L,h,hR,hT,hF,_=>by
  simp only[initA,Option.some.injEq,Prod.mk.injEq] at h
  obtain ⟨rfl,rfl⟩:=h
  cases hT
  exact ⟨ρ,hR,.nil,Came.refl⟩
 | x :: xs,j,st,ρ,ys,vs,st',L,h,hR,hT,hF,hv=>by
  simp only[initA] at h
  obtain ⟨⟨y,st1⟩,h1,h⟩:=Option.bind_eq_some_iff.1 h
  obtain ⟨⟨zs,st2⟩,h2,h⟩:=Option.map_eq_some_iff.1 h
  simp only[Prod.mk.injEq] at h
  obtain ⟨rfl,rfl⟩:=h
  obtain ⟨v,us,L1,L2,rfl,rfl,t1,t2⟩:=hT.split
  obtain ⟨ρ1,r1,a1,c1⟩:=Ztk h1 hR t1 hF.left (hv 0 v rfl)
  obtain ⟨ρ2,r2,a2,c2⟩:=Zqj xs (j+1) st1 ρ1 zs us st2 L2 h2 r1 t2 (hF.right c1) (fun k v hk=>by rw[show j+1+k=j+(k+1) by omega];exact hv (k+1) v (by simpa using hk))
  exact ⟨ρ2,r2,.cons (a1.mono (Keeps.refl _ _) c2.ref) a2,c1.trans c2 (fun b hb=>by simp[hb]) (fun b hb=>by simp[hb])⟩
def resM (tm:Array Value):ResultVar→Sem Value
 |.tmp t=>pure (tm.getD t undef)
 |.cell a t=>do loadVar t (←asAddr (tm.getD a undef))
theorem ZrW {fn:Func} {tm:Array Value} :results fn tm=(do
  let vs ←fn.results.mapM (resM tm)
  pure (if h:vs.size=1 then vs[0] else .tuple vs)):=by
 unfold results
 congr 1
theorem ZtL {tm:Array Value} (hR:R Mod F ρ w st tm) {r:ResultVar} {x:AV} (h:resA P st r=some x):
  ∃v,(resM tm r).run P w=.ok v w∧ARep F ρ w st x v:=by
 have hev:∀t,ARep F ρ w st (st.tm.getD t .top) (tm.getD t undef):=fun t=>by
  rw[List.getD_eq_getElem?_getD,Array.getD_eq_getD_getElem?]
  cases h:st.tm[t]? with
  | none=>exact .top _
  | some y=>
   obtain ⟨v,hv,ha⟩:=hR.tms t y h
   rw[hv]
   exact ha
 cases r with
 | tmp t=>
  simp only[resA,Option.some.injEq] at h
  subst h
  exact ⟨_,by simp[resM],hev t⟩
 | cell a T=>
  simp only[resA] at h
  split at h
  ·rename_i cs z hb ha hz
   split at h
   ·rename_i hle
    cases h
    obtain ⟨ad,vs,hv,hcs,hat⟩:=Zii hR hb (hev a)
    have hle':z≤vs.length:=by rw[←hcs.1];exact hle
    have hl:(vs.take z).length=z:=by simp[Nat.min_eq_left hle']
    have hload:=run_loadCells_list (P:=P) w ad (vs.take z) (fun j u hu=>hat j u (by
     rw[List.getElem?_take] at hu
     split at hu
     ·exact hu
     ·cases hu))
    rw[hl] at hload
    refine ⟨.agg (vs.take z).toArray,?_,.ag _ _ (by simp[hl,hcs.1,Nat.min_eq_left hle']) fun i c u h1 h2=>(hcs.take z).2 i c u h1 (by simpa using h2)⟩
    simp[resM,hv,asAddr,loadVar,Zgh ha,ZM hz,hload]
   ·cases h
  ·rename_i cs z hb ha hz
   obtain ⟨ad,vs,hv,hcs,hat⟩:=Zii hR hb (hev a)
   have hlt:0 < vs.length:=by rw[←hcs.1];exact (List.getElem?_eq_some_iff.1 h).1
   have h0:=hat 0 vs[0] (by simp[hlt])
   have e0:ad.add 0=ad:=by simp[Addr.add]
   rw[e0] at h0
   refine ⟨vs[0],?_,hcs.2 0 x _ h (by simp[hlt])⟩
   simp[resM,hv,asAddr,loadVar,Zgh ha,load,Sem.run,h0]
  ·cases h
theorem ZnG {tm:Array Value} (hR:R Mod F ρ w st tm):∀(rs:List ResultVar) (xs:List AV),resAll P st rs=some xs→
  ∃vs,(rs.mapM (resM tm)).run P w=.ok vs w∧CsRep F ρ w st xs vs
 | [],xs,h=>by
  simp only[resAll,Option.some.injEq] at h
  subst h
  exact ⟨[],by simp,.nil⟩
 | r :: rs,xs,h=>by
  simp only[resAll] at h
  obtain ⟨x,h1,h⟩:=Option.bind_eq_some_iff.1 h
  obtain ⟨ys,h2,rfl⟩:=Option.map_eq_some_iff.1 h
  obtain ⟨v,hv,ha⟩:=ZtL (P:=P) hR h1
  obtain ⟨vs,hvs,hc⟩:=ZnG hR rs ys h2
  refine ⟨v :: vs,?_,.cons ha hc⟩
  rw[List.mapM_cons]
  simp only[Sem.run_bind,hv,hvs,Result.andThen_ok,Sem.run_pure]
theorem TReps.fix {F:Nat→Prop} {w:World} {hints:List (Id×TypeId)} :∀(n:Nat) {xs:List AV} {vs:List Value} {L:List Nat},TReps F w xs vs L→∀(id:Id) (j:Nat),TReps F w (fixCs (fixA P hints n) id j xs) vs L
 | 0,_,_,_,h,id,j=>by
  have:∀(xs:List AV) (j:Nat),fixCs (fixA P hints 0) id j xs=xs:=by
   intro xs
   induction xs with
   | nil=>intro j;rfl
   | cons x r ih=>intro j;simp only[fixCs,ih];rfl
  rw[this]
  exact h
 | n+1,_,_,_,h,id,j=>by
  induction h generalizing id j with
  | nil=>exact .nil
  | top h ih=>exact .top (ih id (j+1))
  | @flat x v r vs L hx ha h ih=>
   have other:∀y,y=x→TReps F w (y :: fixCs (fixA P hints (n+1)) id (j+1) r) (v :: vs) L:=fun y e=>by subst e;exact .flat hx ha (ih id (j+1))
   cases x with
   | nil=>
    have hv:v=.slice none 0 0:=by cases ha;rfl
    subst hv
    simp only[fixCs,fixA]
    split
    ·cases Nat.beq _ 1 with
     | true=>
      simp only[cond_true]
      unfold nilData
      split
      ·exact .flat rfl (.d _ _ _ ⟨none,0,rfl,Nat.le_refl _,fun i x hx=>by simp at hx⟩) (ih id (j+1))
      ·exact .flat rfl ha (ih id (j+1))
     | false=>
      simp only[cond_false]
      unfold nilRow
      split
      ·rename_i E t _ _
       exact TReps.rw (E:=E) (t:=t) (l:=[]) (v:=.slice none 0 0) ⟨[],⟨by simp,.inl ⟨rfl,rfl⟩⟩,fun i x hx=>by simp at hx⟩ (ih id (j+1))
      ·exact .flat rfl ha (ih id (j+1))
    ·exact .flat rfl ha (ih id (j+1))
   | ag cs=>cases hx
   | tu cs=>cases hx
   | _=>exact other _ rfl
  | ag h1 h2 ih1 ih2=>exact .ag (TReps.fix n h1 _ 0) (ih2 id (j+1))
  | tu h1 h2 ih1 ih2=>exact .tu (TReps.fix n h1 _ 0) (ih2 id (j+1))
  | bx hb h1 h2 ih1 ih2=>exact .bx hb h1 (ih2 id (j+1))
  | rw h1 h2 ih=>exact .rw h1 (ih id (j+1))
  | mv h1 h2 ih=>exact .mv h1 (ih id (j+1))
  | dw h1 h2 h3 h4 ih=>exact .dw h1 h2 h3 (ih id (j+1))
theorem TReps.fixOne {F:Nat→Prop} {w:World} {x:AV} {v:Value} {L:List Nat} (h:TReps F w [x] [v] L):TReps F w [(match labOf tb hintK with | some lab=>fixA P lab.hints 6 (childId 0 0) x | none=>x)] [v] L:=by
 split
 ·exact TReps.fix 6 h 0 0
 ·exact h
theorem TReps.join {F:Nat→Prop} {w:World} {x:AV} {v:Value} {xs:List AV} {vs:List Value} {L1 L2:List Nat} (h1:TReps F w [x] [v] L1) (h2:TReps F w xs vs L2):TReps F w (x :: xs) (v :: vs) (L1++L2):=by
 cases h1 with
 | top h=>cases h;exact .top h2
 | flat hx ha h=>cases h;exact .flat hx ha h2
 | ag h h'=>cases h';rw[List.append_nil];exact .ag h h2
 | tu h h'=>cases h';rw[List.append_nil];exact .tu h h2
 | bx hb h h'=>cases h';rw[List.append_nil,List.cons_append];exact .bx hb h h2
 | rw h h'=>cases h';rw[List.append_nil];exact .rw h h2
 | mv h h'=>cases h';rw[List.append_nil];exact .mv h h2
 | dw h1 h3 h4 h'=>cases h';rw[List.append_nil];exact .dw h1 h3 h4 h2
theorem Zqs {tm:Array Value} (hR:R Mod F ρ w st tm):∀(args:List AV) (j:Nat) (vals:List Value) (os:List AV) (ids:List Id),outsG st j args=some (os,ids)→args.length=vals.length→
  (∀k v,vals[k]? =some v→v=Orgs.org (j+k))→TReps F w os vals (blocks ρ ids)∧∀id∈ids,∃ver o,find id st.ob=some (ver,o)∧o.free=true
 | [],j,vals,os,ids,h,hl,_=>by
  simp only[outsG,Option.some.injEq,Prod.mk.injEq] at h
  obtain ⟨rfl,rfl⟩:=h
  have:vals=[]:=List.eq_nil_of_length_eq_zero hl.symm
  subst this
  exact ⟨.nil,fun id hi=>by simp at hi⟩
 | a :: r,j,v :: vals,os,ids,h,hl,hv=>by
  simp only[outsG] at h
  obtain ⟨⟨os1,ids1⟩,h1,h⟩:=Option.bind_eq_some_iff.1 h
  obtain ⟨t1,k1⟩:=Zqs hR r (j+1) vals os1 ids1 h1 (by simpa using hl) (fun k u hk=>by rw[show j+1+k=j+(k+1) by omega];exact hv (k+1) u (by simpa using hk))
  have htop:∀ {os' ids'},some (AV.top :: os1,ids1)=some (os',ids')→TReps F w os' (v :: vals) (blocks ρ ids')∧∀id∈ids',∃ver o,find id st.ob=some (ver,o)∧o.free=true:=fun e=>by
   simp only[Option.some.injEq,Prod.mk.injEq] at e
   obtain ⟨rfl,rfl⟩:=e
   exact ⟨.top t1,k1⟩
  simp only at h
  split at h
  ·split at h
   ·rename_i id ver ht
    split at h
    ·rename_i T cs k ho
     cases hjk:Nat.beq j k with
     | false=>rw[hjk] at h;cases h
     | true=>
      rw[hjk] at h
      simp only[cond_true] at h
      obtain ⟨⟨o,is,i⟩,hg,h⟩:=Option.map_eq_some_iff.1 h
      simp only[Prod.mk.injEq] at h
      obtain ⟨rfl,rfl⟩:=h
      have hjk:=Nat.eq_of_beq_eq_true hjk
      subst hjk
      obtain ⟨htg,b,arr,hρ,hh,hsz,hc⟩:=hR.obs id ver _ (Zx.1 ho)
      have hvv:v=ρ id:=(hv 0 v rfl).trans (htg j rfl).symm
      have hx:ARep F ρ w st (.pt id ver 0) v:=.pt _ _ _ _ ⟨ver,_,Zx.1 ho,Nat.le_refl _⟩ (by rw[hvv,hρ];rfl) fun _ _=>⟨b,hρ,by rw[hvv,hρ]⟩
      obtain ⟨hT,hok⟩:=Zic hR (fun _ h=>h) 6 true _ _ o is i hg (.inl rfl) hx
      refine ⟨?_,fun id' hi=>?_⟩
      ·have:=hT.join t1
       unfold blocks at this ⊢
       rw[List.flatMap_append]
       exact this
      ·rcases List.mem_append.1 hi with hi | hi
       ·exact hok.1 id' hi
       ·exact k1 id' hi
    ·cases h
   ·exact htop h
  ·exact htop h
theorem ZtC {fn:Func} {args:List AV} {vals:List Value} {tm:Array Value} {w0:World} {L:List Nat} {ans:Ans} (hR:R Mod F ρ w st tm) (hMod:∀b,Mod b→ModC L w0 b) (hl:args.length=vals.length) (hv:∀k v,vals[k]? =some v→v=Orgs.org (0+k)) (h:finA P tb fn args st=some ans):
  ∃F2 v Lr Lo,Evo Mod F w F2 w∧(∀b,F2 b→b < w.heap.size)∧(results fn tm).run P w=.ok v w∧TReps F2 w [ans.1] [v] Lr∧TReps F2 w ans.2 vals Lo∧(Lr++Lo).Nodup∧∀b∈Lr++Lo,¬F2 b∧ModC L w0 b∧b < w.heap.size:=by
 unfold finA at h
 split at h
 ·cases h
 rename_i xs hxs
 split at h
 ·rename_i y is ids hg
  split at h
  case h_2=>cases h
  rename_i os oi hog
  cases hnd:nodupB (ids++oi) with
  | false=>rw[hnd] at h;cases h
  | true=>
   rw[hnd] at h
   simp only[cond_true,Option.some.injEq] at h
   subst h
   obtain ⟨vs,hvs,hc⟩:=ZnG (P:=P) hR _ _ hxs
   have hres:(results fn tm).run P w=.ok (if h:vs.length=1 then vs[0] else .tuple vs.toArray) w:=by
    rw[ZrW,Array.mapM_eq_mapM_toList]
    simp only[Sem.run_bind,Sem.run_map,hvs,Result.andThen_ok,Sem.run_pure]
    simp
   have hx:ARep F ρ w st (oneOrAll xs) (if h:vs.length=1 then vs[0] else .tuple vs.toArray):=by
    by_cases h1:vs.length=1
    ·rw[dif_pos h1]
     clear hvs hres
     obtain ⟨v,rfl⟩:∃v,vs=[v]:=List.length_eq_one_iff.1 h1
     obtain ⟨x,rfl⟩:∃x,xs=[x]:=List.length_eq_one_iff.1 hc.1
     exact hc.2 0 x v rfl rfl
    ·rw[dif_neg h1]
     have:oneOrAll xs=.tu xs:=by
      match xs,hc.1 with
      | [],_=>rfl
      | [x],e=>exact absurd e.symm h1
      | _ :: _ :: _,_=>rfl
     rw[this]
     exact .tu _ _ (by simpa using hc.1) fun i c u h1 h2=>hc.2 i c u h1 (by simpa using h2)
   have hlow:=hR.low
   obtain ⟨F2,hR,hE,href⟩:∃F2,R Mod F2 ρ w (lockRes tb (oneOrAll xs) st) tm∧Evo Mod F w F2 w∧Ref st ρ (lockRes tb (oneOrAll xs) st) ρ:=by
    unfold lockRes
    split
    ·obtain ⟨F2,h1,h2,h3,_⟩:=Zb7 _ hR
     exact ⟨F2,h1,h2,h3⟩
    ·exact ⟨F,hR,Evo.refl _ _ _,Ref.refl⟩
   have hx:=hx.mono (hE.keeps hlow) href
   obtain ⟨hT,hok⟩:=Zic hR (fun _ h=>h) 6 true _ _ y is ids hg (.inl rfl) hx
   obtain ⟨hTo,hoko⟩:=Zqs hR args 0 vals os oi hog hl hv
   have hall:∀id∈ids++oi,∃ver o,find id (lockRes tb (oneOrAll xs) st).ob=some (ver,o)∧o.free=true:=fun id hi=>(List.mem_append.1 hi).elim (hok.1 id) (hoko id)
   have hbl:blocks ρ ids++blocks ρ oi=blocks ρ (ids++oi):=by unfold blocks;rw[List.flatMap_append]
   refine ⟨F2,_,_,_,hE,hR.low,hres,TReps.fixOne hT,hTo,by rw[hbl];exact ZfD hR (ZeN hnd) hall,fun b hb=>?_⟩
   rw[hbl] at hb
   obtain ⟨id,hid,hbi⟩:=Zgp.1 hb
   obtain ⟨ver,o,hf,hfr⟩:=hall id hid
   obtain ⟨s1,s2,s3,_⟩:=hR.sep _ _ _ _ hf hfr hbi
   exact ⟨s1,hMod b s2,s3⟩
 ·cases h
omit [Orgs] in
theorem ZmE (hcl:Spec P cl) (hdet:DetC cl) {f:FuncId} {fn:Func} {c:Code} {args:List AV} {n:Nat} {ans:Ans} (hf:P.funcs[f]? =some fn) (hb:fn.body=some c)
  (hnd:nodupB ((procsF P cl tb fn c args).map (·.1))=true) (h:evF P cl tb fn n args=some ans):CallOK P f args ans:=by
 refine ⟨?_,fun r e=>by
  subst e
  unfold evF at h
  rw[hb] at h
  simp only[entryA] at h
  have:initA ⟨[],[]⟩ 0 (.pt 0 0 1 :: r)=none:=rfl
  rw[this] at h
  cases h⟩
 intro F w vals L hT hL hLF hlow htab
 letI:Orgs:=⟨fun j=>vals.getD j undef⟩
 have hvo:∀k v,vals[k]? =some v→v=Orgs.org (0+k):=fun k v hk=>by
  rw[Nat.zero_add]
  show v=vals.getD k undef
  rw[List.getD_eq_getElem?_getD,hk];rfl
 refine calls_of_wp hf hb ?_
 unfold evF at h
 rw[hb] at h
 simp only[entryA] at h
 have hlen:=hT.length
 have hR0:R (ModC L w) F ρ0 w ⟨[],[]⟩ #[]:=⟨rfl,fun i x hx=>by simp at hx,fun id ver o hf=>by simp[find] at hf,fun id ver o b hf=>by simp[find] at hf,fun id ver E t l hf=>by simp[find] at hf,hlow,fun b hb=>.inr hb,htab⟩
 have hF0:Fr (ModC L w) F ρ0 w ⟨[],[]⟩ L:=⟨hL,fun b hb=>⟨(hLF b hb).1,.inl hb,(hLF b hb).2,fun ⟨id,ver,o,hf,_⟩=>by simp[find] at hf⟩⟩
 cases hi:initA ⟨[],[]⟩ 0 args with
 | none=>rw[hi] at h;cases h
 | some p=>
  obtain ⟨vs,st⟩:=p
  rw[hi] at h
  simp only at h
  obtain ⟨ρ1,r1,a1,c1⟩:=Zqj args 0 ⟨[],[]⟩ ρ0 vs vals st L hi hR0 hT hF0 hvo
  have hvl:vs.length=vals.length:=a1.1
  have hrel:Rel (ModC L w) F w { st with tm:=vs++tops (fn.ntmps - vs.length) } { tmps:=vals.toArray++Array.replicate (fn.ntmps - vals.toArray.size) undef,defers:=[] } w:=by
   refine ⟨rfl,F,ρ1,⟨?_,fun i x hx=>?_,fun id ver o hf=>?_,r1.sep,r1.data,r1.low,r1.hi,r1.tabs⟩,Evo.refl _ _ _⟩
   ·simp[ZeQ,hvl]
   ·rw[List.getElem?_append] at hx
    split at hx
    ·rename_i hlt
     have hlt':i < vals.length:=by omega
     refine ⟨vals[i],by simp[Array.getElem?_append,hlt'],?_⟩
     exact ARep.of_ob (st:=st) (st':=⟨vs++tops (fn.ntmps - vs.length),st.ob⟩) rfl (a1.2 i x vals[i] hx (by simp[hlt']))
    ·rename_i hge
     have hlt:=(List.getElem?_eq_some_iff.1 hx).1
     obtain rfl:=Zoh _ _ _ hx
     rw[ZeQ] at hlt
     refine ⟨undef,?_,.top _⟩
     have:¬i < vals.length:=by omega
     simp[Array.getElem?_append,this,Array.getElem?_replicate]
     omega
   ·exact ORep.mono (Keeps.refl _ _) (Ref.of_ob (st:=st) (st':=⟨vs++tops (fn.ntmps - vs.length),st.ob⟩) rfl) (fun _ _=>rfl) (r1.obs id ver o hf)
  have hwp:=Zcf (Mod:=ModC L w) (F0:=F) (w0:=w) (y:=ans) (tb:=tb) (ps:=procsF P cl tb fn c args) hcl hdet c 0 (fun _=>finA P tb fn args) (fun _ _ _=>none) (fun _=>finA P tb fn args) (ZtR hnd) n _ _ _ h hrel
  refine wp_mono hwp fun e a w' he=>?_
  have fin:Good (ModC L w) F w ans (procsF P cl tb fn c args) n (fun _=>finA P tb fn args) a w'→
    a.defers=[]∧∃v,(results fn a.tmps).run P w'=.ok v w'∧CallPost F w L vals ans v w':=by
   rintro ⟨m,st',_,⟨hd,F',ρ',hR,hE⟩,hk⟩
   obtain ⟨F2,v,Lr,Lo,hE2,hlow2,h1,h2,h3,h4,h5⟩:=ZtC (L:=L) (w0:=w) hR (fun _ h=>h) hlen hvo hk
   exact ⟨hd,v,h1,F2,Lr,Lo,hE.trans hE2,hlow2,h2,h3,(List.perm_append_comm.nodup_iff).1 h4,fun b hb=>h5 b (by simp only[List.mem_append] at hb ⊢;exact hb.symm)⟩
  cases e with
  | normal=>exact fin he
  | ret=>exact fin he
  | exit j=>obtain ⟨m,st',_,_,hk⟩:=he;cases hk
  | _=>exact he.elim
end
end Go.Ev
namespace Go.Ev
instance (priority:=low) noOrgs:Orgs:=⟨fun _=>undef⟩
variable [Tabs]
def mkTm (n:Nat) (l:List (Nat×AV)):List AV:=l.foldl (fun tm p=>tm.set p.1 p.2) (tops n)
end Go.Ev
end

section
namespace Go.Ev
variable [Tabs]
open Go
abbrev Run:=List AV→M Ans
abbrev Tbl:=List (FuncId×Run)
def runOf:Tbl→FuncId→Run
 | [],_=>fun _=>fail
 | (g,r) :: t,f=>bif Nat.beq g f then r else runOf t f
def clOf (t:Tbl):Cl:=fun f xs=>runOf t f xs
def EntOK (P:Program) (f:FuncId) (r:Run):Prop:=Known P f∧∀xs,Det (r xs)∧Sat (r xs) (CallOK P f xs)
theorem ZoM {P:Program} :∀ {t:Tbl},(∀p∈t,EntOK P p.1 p.2)→Spec P (clOf t)∧DetC (clOf t)
 | [],_=>⟨fun f xs=>Sat.fail,fun f xs=>Det.fail⟩
 | (g,r) :: t,h=>by
  obtain ⟨h1,h2⟩:=ZoM (t:=t) fun p hp=>h p (by simp[hp])
  have h0:=h (g,r) (by simp)
  constructor
  ·intro f xs
   show Sat (runOf ((g,r) :: t) f xs) _
   unfold runOf
   cases hb:Nat.beq g f with
   | true=>
    have:=Nat.eq_of_beq_eq_true hb
    subst this
    exact (h0.2 xs).2.mono fun a ha=>⟨h0.1,ha⟩
   | false=>exact h1 f xs
  ·intro f xs
   show Det (runOf ((g,r) :: t) f xs)
   unfold runOf
   cases hb:Nat.beq g f with
   | true=>exact (h0.2 xs).1
   | false=>exact h2 f xs
abbrev Sig:=List (Bool×Ty)
@[reducible] def Args:Sig→Type
 | []=>Unit
 | p :: r=>El p.2×Args r
def ofForm (p:Bool×Ty) (x:AV):Option (El p.2):=
 match p.1,x with
 | true,.ag cs=>packAll p.2 cs
 | false,.ag _=>none
 | false,x=>packAll p.2 [x]
 | true,_=>none
def ofForms:(s:Sig)→List AV→Option (Args s)
 | [],[]=>some ()
 | p :: r,x :: xs=>(ofForm p x).bind fun a=>(ofForms r xs).map fun b=>(a,b)
 | _,_=>none
def toForm (p:Bool×Ty) (v:El p.2):AV:=match p.1 with | true=>.ag (flat p.2 v) | false=>(flat p.2 v).headD .top
def toForms:(s:Sig)→Args s→List AV
 | [],_=>[]
 | p :: r,a=>toForm p a.1 :: toForms r a.2
def typed (s:Sig) (run:Args s→M AV):Run:=fun xs=>match ofForms s xs with
 | none=>fail
 | some a=>M.bind (run a) fun r=>M.pure (r,xs.map fun _=>.top)
section
variable {F:Nat→Prop} {w:World}
theorem Zs2:∀ {t:Ty} {cs:List AV} {v:El t} {r:List AV},pack t cs=some (v,r)→∃ds,cs=ds++r∧ds.all leafB=true:=by
 intro t
 induction t with
 | int k=>
  intro cs v r hp
  match cs,hp with
  |.d (.int k') v :: r',hp=>
   simp only[pack] at hp
   split at hp
   ·cases hp;exact ⟨[_],rfl,rfl⟩
   ·cases hp
 | bool=>
  intro cs v r hp
  match cs,hp with
  |.d .bool v :: r',hp=>simp only[pack] at hp;cases hp;exact ⟨[_],rfl,rfl⟩
 | str=>
  intro cs v r hp
  match cs,hp with
  |.d .str v :: r',hp=>simp only[pack] at hp;cases hp;exact ⟨[_],rfl,rfl⟩
 | sl t ih=>
  intro cs v r hp
  match cs,hp with
  |.nil :: r',hp=>simp only[pack] at hp;cases hp;exact ⟨[_],rfl,rfl⟩
  |.d (.sl t') v :: r',hp=>
   simp only[pack] at hp
   split at hp
   ·cases hp;exact ⟨[_],rfl,rfl⟩
   ·cases hp
 | pr a b iha ihb=>
  intro cs v r h
  simp only[pack] at h
  obtain ⟨⟨x,r1⟩,h1,h⟩:=Option.bind_eq_some_iff.1 h
  obtain ⟨⟨y,r2⟩,h2,h⟩:=Option.map_eq_some_iff.1 h
  simp only[Prod.mk.injEq] at h
  obtain ⟨_,rfl⟩:=h
  obtain ⟨d1,rfl,e1⟩:=iha h1
  obtain ⟨d2,rfl,e2⟩:=ihb h2
  exact ⟨d1++d2,by simp,by rw[List.all_append,e1,e2];rfl⟩
 | un=>
  intro cs v r h
  simp only[pack,Option.some.injEq,Prod.mk.injEq] at h
  obtain ⟨_,rfl⟩:=h
  exact ⟨[],rfl,rfl⟩
theorem ZhL {t:Ty} {cs:List AV} {v:El t} (h:packAll t cs=some v):cs.all leafB=true:=by
 unfold packAll at h
 split at h
 ·rename_i u hu
  obtain ⟨ds,e,hl⟩:=Zs2 hu
  rw[e,List.append_nil]
  exact hl
 ·cases h
theorem ZjO:∀ {t:Ty} {v:El t},(flat t v).all leafB=true
 |.int _,_=>rfl
 |.bool,_=>rfl
 |.str,_=>rfl
 |.sl _,_=>rfl
 |.pr a b,v=>by simp only[flat,List.all_append,ZjO,Bool.and_self]
 |.un,_=>rfl
theorem ZqT {x:AV} (h:leafB x=true):flatB x=true:=by cases x <;> simp only[leafB] at h <;> first | (cases h;done) | rfl
theorem ZnU:∀ {cs:List AV} {vs:List Value} {L:List Nat},TReps F w cs vs L→cs.all leafB=true→L=[]∧CsRep F ρ0 w st0 cs vs:=by
 intro cs vs L h
 induction h with
 | nil=>exact fun _=>⟨rfl,.nil⟩
 | flat hx ha _ ih=>
  intro hl
  simp only[List.all_cons,Bool.and_eq_true] at hl
  obtain ⟨rfl,hc⟩:=ih hl.2
  exact ⟨rfl,.cons ha hc⟩
 | top=>intro hl;simp[leafB] at hl
 | ag=>intro hl;simp[leafB] at hl
 | tu=>intro hl;simp[leafB] at hl
 | bx=>intro hl;simp[leafB] at hl
 | rw=>intro hl;simp[leafB] at hl
 | mv=>intro hl;simp[leafB] at hl
 | dw=>intro hl;simp[leafB] at hl
theorem Zip:∀ {cs:List AV} {vs:List Value},CsRep F ρ0 w st0 cs vs→cs.all leafB=true→TReps F w cs vs []
 | [],vs,h,_=>by
  have:vs=[]:=List.length_eq_zero_iff.1 h.1.symm
  subst this
  exact .nil
 | c :: cs,[],h,_=>by have:=h.1;simp at this
 | c :: cs,v :: vs,h,hl=>by
  simp only[List.all_cons,Bool.and_eq_true] at hl
  exact .flat (ZqT hl.1) (h.2 0 c v rfl rfl) (Zip ⟨by have:=h.1;simpa using this,fun i c u h1 h2=>h.2 (i+1) c u h1 h2⟩ hl.2)
theorem ZtF {p:Bool×Ty} {x:AV} {a:El p.2} {v:Value} {L:List Nat} (h:ofForm p x=some a) (hT:TReps F w [x] [v] L):L=[]∧TReps F w [toForm p a] [v] []:=by
 obtain ⟨g,t⟩:=p
 cases g with
 | true=>
  cases x with
  | ag cs=>
   simp only[ofForm] at h
   cases hT with
   | flat hx=>cases hx
   | ag h1 hn=>
    cases hn
    obtain ⟨rfl,hc⟩:=ZnU h1 (ZhL h)
    have hl:=ZaT h hc
    have hf:CsRep F ρ0 w st0 (flat t a) _:=Zc9 hl
    refine ⟨rfl,?_⟩
    have:=TReps.ag (Zip hf ZjO) TReps.nil
    simpa[toForm] using this
  | _=>cases h
 | false=>
  have h':packAll t [x]=some a:=by
   cases x <;> first | (cases h;done) | exact h
  have hl0:=ZhL h'
  obtain ⟨rfl,hc⟩:=ZnU hT hl0
  have hl:=ZaT h' hc
  have hf:CsRep F ρ0 w st0 (flat t a) [v]:=Zc9 hl
  have hq:=Zip hf ZjO
  refine ⟨rfl,?_⟩
  have hlen:=hf.1
  simp only[toForm]
  match hm:flat t a,hlen with
  | [c],_=>rw[hm] at hq;simpa using hq
theorem Zpq:∀ {s:Sig} {xs:List AV} {a:Args s} {vs:List Value} {L:List Nat},ofForms s xs=some a→TReps F w xs vs L→L=[]∧TReps F w (toForms s a) vs []
 | [],[],a,vs,L,_,hT=>by cases hT;exact ⟨rfl,.nil⟩
 | [],_ :: _,a,vs,L,h,_=>by cases h
 | p :: s,[],a,vs,L,h,_=>by cases h
 | p :: s,x :: xs,a,vs,L,h,hT=>by
  simp only[ofForms] at h
  obtain ⟨b,h1,h⟩:=Option.bind_eq_some_iff.1 h
  obtain ⟨c,h2,rfl⟩:=Option.map_eq_some_iff.1 h
  obtain ⟨v,us,L1,L2,rfl,rfl,t1,t2⟩:=hT.split
  obtain ⟨rfl,q1⟩:=ZtF h1 t1
  obtain ⟨rfl,q2⟩:=Zpq h2 t2
  refine ⟨rfl,?_⟩
  have:=q1.append q2
  simpa[toForms] using this
end
theorem ZiI:∀ {s:Sig} {xs:List AV} {a:Args s},ofForms s xs=some a→xs.length=(toForms s a).length
 | [],[],_,_=>rfl
 | [],_ :: _,_,h=>by cases h
 | _ :: _,[],_,h=>by cases h
 | p :: s,x :: xs,a,h=>by
  simp only[ofForms] at h
  obtain ⟨b,h1,h⟩:=Option.bind_eq_some_iff.1 h
  obtain ⟨c,h2,rfl⟩:=Option.map_eq_some_iff.1 h
  simp[toForms,ZiI h2]
theorem Zsj {p:Bool×Ty} {i v o:Nat} :ofForm p (.pt i v o)=none:=by
 obtain ⟨g,t⟩:=p
 cases g with
 | true=>rfl
 | false=>
  cases h:ofForm (false,t) (.pt i v o) with
  | none=>rfl
  | some a=>
   have h':packAll t [.pt i v o]=some a:=h
   have:=ZhL h'
   exact (Bool.false_ne_true this).elim
theorem Zr8 {i v o:Nat} {r:List AV} :∀ {s:Sig},ofForms s (.pt i v o :: r)=none
 | []=>rfl
 | p :: s=>by simp only[ofForms,Zsj];rfl
theorem ZrO {P:Program} {f:FuncId} (hk:Known P f) {s:Sig} {run:Args s→M AV} (hd:∀a,Det (run a)) (h:∀a,Sat (run a) fun r=>CallOK P f (toForms s a) (r,(toForms s a).map fun _=>.top)):EntOK P f (typed s run):=by
 refine ⟨hk,fun xs=>⟨?_,?_⟩⟩
 ·unfold typed
  split
  ·exact Det.fail
  ·exact Det.bind (hd _) fun r=>Det.pure _
 ·unfold typed
  split
  ·exact Sat.fail
  ·rename_i a ha
   refine Sat.bind (h a) fun r hr=>Sat.pure ⟨?_,fun q e=>by rw[e,Zr8] at ha;cases ha⟩
   intro F w vals L hT hL hLF hlow htab
   obtain ⟨rfl,hT'⟩:=Zpq ha hT
   have:=hr.1 F w vals [] hT' hL hLF hlow htab
   have he:(toForms s a).map (fun _=>AV.top)=xs.map fun _=>AV.top:=by
    apply List.ext_getElem
    ·simp[ZiI ha]
    ·simp
   rw[he] at this
   exact this
theorem ZrK {P:Program} {t:Tbl} (ht:∀p∈t,EntOK P p.1 p.2) {tb:Tb} {f:FuncId} {fn:Func} {c:Code} (hf:P.funcs[f]? =some fn) (hname:(fn.name== "runtime.NumGoroutine")=false) (hb:fn.body=some c) {s:Sig} {run:Args s→M AV}
  (hd:∀a,Det (run a)) (hnd:∀a,nodupB ((procsF P (clOf t) tb fn c (toForms s a)).map (·.1))=true)
  (h:∀a,Sat (run a) fun r=>∃n,evF P (clOf t) tb fn n (toForms s a)=some (r,(toForms s a).map fun _=>.top)):EntOK P f (typed s run):=by
 obtain ⟨h1,h2⟩:=ZoM ht
 exact ZrO ⟨fn,c,hf,hname,hb⟩ hd fun a=>(h a).mono fun r ⟨n,hr⟩=>ZmE h1 h2 hf hb (hnd a) hr
end Go.Ev
end

section
namespace Go.Ev
variable [Tabs]
open Go
inductive DT (α:Type) where
 | leaf (a:α)
 | no
 | br (c:Bool) (t f:DT α)
def DT.run {α:Type} (k:α→Option Ans):DT α→Option Ans
 |.leaf a=>k a
 |.no=>none
 |.br c t f=>bif c then t.run k else f.run k
def DT.val {α:Type} (d:α):DT α→α
 |.leaf a=>a
 |.no=>d
 |.br c t f=>bif c then t.val d else f.val d
def DT.ok {α:Type} :DT α→Bool
 |.leaf _=>true
 |.no=>false
 |.br c t f=>bif c then t.ok else f.ok
def DT.all {α:Type} :DT α→Bool
 |.leaf _=>true
 |.no=>false
 |.br _ t f=>t.all&&f.all
def tps (l:List AV):List AV:=l.map fun _=>.top
def entT {α:Type} (s:Sig) (R:α→AV) (v:Args s→α):Run:=typed s fun a=>M.pure (R (v a))
def entG {α:Type} (s:Sig) (R:α→AV) (ok:Args s→Bool) (v:Args s→α):Run:=typed s fun a k=>bif ok a then k (R (v a)) else none
section
variable {P:Program} {t:Tbl} {tb:Tb} {f:FuncId} {fn:Func} {c:Code} {s:Sig} {α:Type} {R:α→AV}
theorem ZaK (ht:∀p∈t,EntOK P p.1 p.2) (hf:P.funcs[f]? =some fn) (hname:(fn.name== "runtime.NumGoroutine")=false) (hb:fn.body=some c)
  (hnd:∀a,nodupB ((procsF P (clOf t) tb fn c (toForms s a)).map (·.1))=true) {ok:Args s→Bool} {v:Args s→α}
  (h:∀a,ok a=true→∃n,evF P (clOf t) tb fn n (toForms s a)=some (R (v a),tps (toForms s a))):EntOK P f (entG s R ok v):=
 ZrK ht hf hname hb (fun a=>Det.guard (Det.pure _)) hnd fun a=>Sat.guard fun hok=>Sat.pure (h a hok)
theorem Zad (ht:∀p∈t,EntOK P p.1 p.2) (hf:P.funcs[f]? =some fn) (hname:(fn.name== "runtime.NumGoroutine")=false) (hb:fn.body=some c)
  (hnd:∀a,nodupB ((procsF P (clOf t) tb fn c (toForms s a)).map (·.1))=true) {v:Args s→α}
  (h:∀a,∃n,evF P (clOf t) tb fn n (toForms s a)=some (R (v a),tps (toForms s a))):EntOK P f (entT s R v):=
 ZrK ht hf hname hb (fun a=>Det.pure _) hnd fun a=>Sat.pure (h a)
end
end Go.Ev
namespace Go.Ev
variable [Tabs]
theorem ZA {P:Program} :∀p∈([]:Tbl),EntOK P p.1 p.2:=fun _ h=>nomatch h
theorem Zk {P:Program} {f:FuncId} {r:Run} {t:Tbl} (h:EntOK P f r) (ht:∀p∈t,EntOK P p.1 p.2):∀p∈(f,r) :: t,EntOK P p.1 p.2:=List.forall_mem_cons.2 ⟨h,ht⟩
end Go.Ev
end

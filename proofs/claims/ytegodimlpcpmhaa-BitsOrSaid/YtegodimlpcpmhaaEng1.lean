/- Part of the proof of: Behind an Or a set has what both had, of its own numbers; whether that is more is told; the other one stays: for every input the law answers true. -/
import Derived.Carry
import Derived.ChangeArms
import Derived.ChangeSame
import Derived.Deep.DeepHandedRow
import Derived.Lib.RowBridge
import Derived.Maps.RangeRun
import Derived.OpenShut
import Derived.Shelf.Slices.Clone
import Derived.Shelf.Slices.CompactI
import Derived.Shelf.Slices.Delete
import Derived.Sort.OwnSortedInts
import Derived.WideKeyArgs
import Derived.Test.YtegodimlpcpmhaaEng0
set_option maxRecDepth 100000
set_option linter.unusedSectionVars false
set_option linter.unusedVariables false
set_option linter.unusedSimpArgs false
section
namespace Go.Ev
variable [Tabs] [Orgs]
open Go
section
variable {P:Program} {Mod:Nat→Prop} {o:Oper} {st:St} {F:Nat→Prop} {ρ:Rho} {w:World} {tm:Array Value}
theorem Zlc {cl:Cl} (hcl:Spec P cl):Sat (opA P cl o st) (OpOK P Mod o st):=by
 cases h:o.op with
 | move x=>exact Zlm h
 | assign x=>exact ZjM h
 | pick c a b=>exact Zlo h
 | alloc T=>exact ZkI h
 | box T x=>exact Zlw h
 | build T ps=>exact ZkY h
 | buildSlice T n ps=>exact Zhl h
 | load T x=>exact Zlb h
 | store T x v=>exact ZkD h
 | nilCheck x=>exact Ziu h
 | binOp op T x y T'=>exact Zlx h
 | unOp op T x=>exact ZlG h
 | convert a b x=>exact Zja h
 | makeInterface T x=>exact ZkQ h
 | makeMap T r=>cases r with
  | none=>exact Zjt h
  | some r=>simp only[opA,h];exact Sat.fail
 | makeSlice T n c=>exact Zh1 h
 | slice T x lo hi mx=>cases mx with
  | none=>exact ZkG h
  | some m=>simp only[opA,h];exact Sat.fail
 | fieldAddr S x j=>exact Zh8 h
 | field T x j=>exact Zk0 h
 | indexAddr T x i=>exact ZhS h
 | index T x i=>exact ZkF h
 | lookup T x k ok=>exact Zkg h
 | mapUpdate T x k v=>exact ZhW h
 | range T x=>exact Zky h
 | next x s=>cases s with
  | true=>exact Zlr h
  | false=>simp only[opA,h];exact Sat.fail
 | typeAssert x T0 T ok=>exact ZjE h
 | makeFunc fn first caps=>cases fn with
  | func f=>exact Ziz h
  | _=>simp only[opA,h];exact Sat.fail
 | extract x j=>exact Zjj h
 | call c=>
  cases hc:c.callee with
  | builtin b=>cases b with
   | len=>exact Zlz h hc
   | append=>exact ZjI h hc
   | min=>exact ZhO h (.inl hc)
   | max=>exact ZhO h (.inr hc)
   | _=>simp only[opA,h,hc];exact Sat.fail
  | value x=>
   simp only[opA,h,hc]
   split
   ·rename_i f first caps hx
    refine Sat.cond (fun he=>?_) fun _=>Sat.fail
    simp only[Bool.and_eq_true,Array.isEmpty_iff] at he
    obtain ⟨rfl,rfl⟩:=he
    exact Zke hcl h hc hx
   ·rename_i f cs hx
    exact Zj7 hcl h hc hx
   ·exact Sat.fail
  | invoke r m=>simp only[opA,h,hc];exact Sat.fail
 | _=>simp only[opA,h];exact Sat.fail
def Rel (Mod F0:Nat→Prop) (w0:World) (st:St) (a:Act) (w:World):Prop:=a.defers=[]∧∃F ρ,R Mod F ρ w st a.tmps∧Evo Mod F0 w0 F w
theorem Zhc {cl:Cl} (hcl:Spec P cl) {F0:Nat→Prop} {w0:World} {a:Act} {y:Ans} {k:St→Option Ans} (h:opA P cl o st k=some y) (hr:Rel Mod F0 w0 st a w) (Q:Exit→Act→World→Prop):
  o.wp P a w (fun a' w'=>∃st',Rel Mod F0 w0 st' a' w'∧k st'=some y) Q:=by
 obtain ⟨st',hok,hk⟩:=Zlc (Mod:=Mod) hcl k y h
 obtain ⟨hd,F,ρ,hR,hE⟩:=hr
 refine Oper.wp_mono (fun a' w' h'=>?_) (hok F ρ w a Q hR hd)
 obtain ⟨hd',F',ρ',hR',hE'⟩:=h'
 exact ⟨st',⟨hd',F',ρ',hR',hE.trans hE'⟩,hk⟩
theorem ZhN {a:Act} {F0:Nat→Prop} {w0:World} (hr:Rel Mod F0 w0 st a w) (d:Option Nat):Rel Mod F0 w0 (st.put d sk) (a.put d undef) w:=by
 obtain ⟨hd,F,ρ,hR,hE⟩:=hr
 exact ⟨by rw[Zq];exact hd,F,ρ,R.put hR (.cst _) d,hE⟩
theorem Zhs {st:St} {t:Nat} {x:AV} (h:st.tm.getD t .top=x) (hx:x≠ .top):st.tm.set t x=st.tm:=by
 apply List.ext_getElem?
 intro i
 rw[List.getElem?_set]
 split
 ·rename_i hi
  subst hi
  rw[List.getD_eq_getElem?_getD] at h
  cases he:st.tm[t]? with
  | none=>rw[he] at h;exact absurd h.symm hx
  | some z=>
   rw[he] at h
   simp only[Option.getD_some] at h
   subst h
   rw[if_pos (List.getElem?_eq_some_iff.1 he).1]
 ·rfl
theorem Zdt {cl:Cl} (hcl:Spec P cl) {F0:Nat→Prop} {w0:World} {y:Ans} {ops:Array Oper} {k:St→Option Ans} {Q:Exit→Act→World→Prop}
  (hQ:∀st a w,Rel Mod F0 w0 st a w→k st=some y→Q .normal a w):
  ∀(l:List Oper) (i:Nat) (st:St) (a:Act) (w:World),ops.toList.drop i=l→opsA P cl ops l st k=some y→Rel Mod F0 w0 st a w→wpOps P ops Q (List.range' i l.length) a w
 | [],i,st,a,w,_,h,hr=>hQ st a w hr h
 | o :: r,i,st,a,w,hl,h,hr=>by
  have ho:ops[i]? =some o:=by
   have:(ops.toList.drop i)[0]? =some o:=by rw[hl];rfl
   simpa using this
  have hl':ops.toList.drop (i+1)=r:=by rw[←List.tail_drop,hl];rfl
  rw[List.length_cons,List.range'_succ,wpOps_cons]
  unfold wpOp
  simp only[ho]
  have run:(opA P cl o st) (fun st=>opsA P cl ops r st k)=some y→o.wp P a w (wpOps P ops Q (List.range' (i+1) r.length)) Q:=fun h=>by
   refine Oper.wp_mono (fun a' w' h'=>?_) (Zhc hcl h hr Q)
   obtain ⟨st',hr',hk⟩:=h'
   exact Zdt hcl hQ r (i+1) st' a' w' hl' hk hr'
  cases hg:o.guard with
  | none=>
   simp only[opsA,hg] at h
   have hw:Region.wanted o (yielded ops a.tmps)=true:=by unfold Region.wanted;rw[hg]
   rw[if_pos hw]
   exact .inl (run h)
  | some jw=>
   obtain ⟨j,want⟩:=jw
   cases ht:(ops[j]?).bind (·.dst) with
   | none=>simp only[opsA,hg,ht] at h;cases h
   | some t=>
    cases hb:st.tm.getD t .top with
    | d T b=>
     cases T with
     | bool=>
      have hset:({ st with tm:=st.tm.set t (.d .bool b) } :St)=st:=by
       cases st with
       | mk tmm obb=>simp only[St.mk.injEq,and_true];exact Zhs (st:=⟨tmm,obb⟩) hb (by simp)
      have hy:yielded ops a.tmps j=some b:=by
       obtain ⟨_,F,ρ,hR,_⟩:=hr
       have h1:=Zg hR (.tmp t)
       simp only[St.ev] at h1
       rw[hb] at h1
       have h2:=Zat h1
       simp only[Act.eval] at h2
       unfold yielded
       rw[ht]
       simp only[Option.bind_some]
       rw[Array.getD_eq_getD_getElem?] at h2
       cases he:a.tmps[t]? with
       | none=>rw[he] at h2;simp[undef] at h2
       | some v=>rw[he] at h2;simp only[Option.getD_some] at h2;rw[h2]
      simp only[opsA,hg,ht,hb] at h
      cases b <;> cases want <;> simp only[M.bind,branch,cond_true,cond_false] at h <;> rw[hset] at h
      ·have hw:Region.wanted o (yielded ops a.tmps)=true:=by unfold Region.wanted;rw[hg];simp only[hy];rfl
       rw[if_pos hw]
       exact .inl (run h)
      ·have hw:¬Region.wanted o (yielded ops a.tmps)=true:=by unfold Region.wanted;rw[hg];simp only[hy];decide
       rw[if_neg hw]
       exact Zdt hcl hQ r (i+1) _ _ w hl' h (ZhN hr o.dst)
      ·have hw:¬Region.wanted o (yielded ops a.tmps)=true:=by unfold Region.wanted;rw[hg];simp only[hy];decide
       rw[if_neg hw]
       exact Zdt hcl hQ r (i+1) _ _ w hl' h (ZhN hr o.dst)
      ·have hw:Region.wanted o (yielded ops a.tmps)=true:=by unfold Region.wanted;rw[hg];simp only[hy];rfl
       rw[if_pos hw]
       exact .inl (run h)
     | _=>simp only[opsA,hg,ht,hb] at h;cases h
    | cst u=>
     simp only[opsA,hg,ht,hb] at h
     cases hn:notBool u with
     | false=>rw[hn] at h;cases h
     | true=>
      rw[hn] at h
      have hy:yielded ops a.tmps j=none:=by
       obtain ⟨_,F,ρ,hR,_⟩:=hr
       have h1:=Zg hR (.tmp t)
       simp only[St.ev] at h1
       rw[hb] at h1
       have h2:=Zf4 h1
       simp only[Act.eval] at h2
       unfold yielded
       rw[ht]
       simp only[Option.bind_some]
       rw[Array.getD_eq_getD_getElem?] at h2
       cases he:a.tmps[t]? with
       | none=>rfl
       | some v=>
        rw[he] at h2
        simp only[Option.getD_some] at h2
        subst h2
        cases v <;> first | rfl | (simp[notBool] at hn)
      have hw:¬Region.wanted o (yielded ops a.tmps)=true:=by unfold Region.wanted;rw[hg];simp only[hy];cases want <;> decide
      rw[if_neg hw]
      exact Zdt hcl hQ r (i+1) _ _ w hl' h (ZhN hr o.dst)
    | _=>simp only[opsA,hg,ht,hb] at h;cases h
end
end Go.Ev
end

section
namespace Go.Ev
variable [Tabs] [Orgs]
open Go
section
variable {P:Program} {Mod:Nat→Prop} {st:St} {F:Nat→Prop} {ρ:Rho} {w:World} {tm:Array Value}
structure RI (F:Nat→Prop) (w:World) (st:St) (ρ:Rho) (rn:Ren) (ρ':Rho):Prop where
 m:∀i i',mapd rn.1 i=some i'→∃ver o o',find i st.ob=some (ver,o)∧find i' rn.2=some (0,o')∧ρ' i'=ρ i∧Obj.sim o o'∧o'.free=o.free
 ob:∀id v o',find id rn.2=some (v,o')→v=0∧ORep F ρ' w ⟨[],rn.2⟩ (ρ' id) o'∧((∃i,mapd rn.1 i=some id)∨hb (ρ' id)=none)
 inj:∀i j id,mapd rn.1 i=some id→mapd rn.1 j=some id→i=j
theorem ZeT (i id:Id) (m:List (Id×Id)) (j:Id):mapd ((i,id) :: m) j=if j=i then some id else mapd m j:=by
 unfold mapd
 by_cases h:j=i
 ·subst h;rw[Nat.beq_refl,if_pos rfl];rfl
 ·rw[if_neg h,ZdN (fun e=>h e.symm)];cases m <;> rfl
theorem RI.add {rn:Ren} {ρ':Rho} (h:RI F w st ρ rn ρ') {m:List (Id×Id)} {id:Id} {o':Obj} {h':Value} (hnew:find id rn.2=none)
  (hm:(m=rn.1∧hb h'=none)∨∃i ver o,m=(i,id) :: rn.1∧mapd rn.1 i=none∧find i st.ob=some (ver,o)∧h'=ρ i∧Obj.sim o o'∧o'.free=o.free)
  (hO:ORep F ρ' w ⟨[],rn.2⟩ h' o'):RI F w st ρ (m,ins id (0,o') rn.2) (updR ρ' id h')∧Ref ⟨[],rn.2⟩ ρ' ⟨[],ins id (0,o') rn.2⟩ (updR ρ' id h'):=by
 have hnv:(⟨[],rn.2⟩:St).nextVer id=0:=by simp[St.nextVer,hnew]
 have href:Ref ⟨[],rn.2⟩ ρ' ⟨[],ins id (0,o') rn.2⟩ (updR ρ' id h'):=Ref.set (st:=⟨[],rn.2⟩) (ver':=0) (o':=o') (.inr hnv.symm)
 have hfi:∀j,find j (ins id (0,o') rn.2)=if j=id then some (0,o') else find j rn.2:=fun j=>Zcr _ _ _ _
 have hold:∀j i',mapd rn.1 j=some i'→i'≠id:=fun j i' hj e=>by
  subst e
  obtain ⟨_,_,_,_,h2,_⟩:=h.m j i' hj
  rw[hnew] at h2
  cases h2
 refine ⟨⟨fun i i' hi=>?_,fun j v o hj=>?_,fun i j k hi hj=>?_⟩,href⟩
 ·have old:mapd rn.1 i=some i'→∃ver o o2,find i st.ob=some (ver,o)∧find i' (ins id (0,o') rn.2)=some (0,o2)∧updR ρ' id h' i'=ρ i∧Obj.sim o o2∧o2.free=o.free:=fun hi=>by
   obtain ⟨ver,o,o2,h1,h2,h3,h4,h5⟩:=h.m i i' hi
   have hne:=hold i i' hi
   exact ⟨ver,o,o2,h1,by rw[hfi,if_neg hne];exact h2,by simp only[updR,if_neg hne];exact h3,h4,h5⟩
  rcases hm with ⟨rfl,_⟩ | ⟨i0,ver,o,rfl,h1,h2,h3,h4,h5⟩
  ·exact old hi
  ·simp only[ZeT] at hi
   split at hi
   ·rename_i e
    subst e
    cases hi
    exact ⟨ver,o,o',h2,by rw[hfi,if_pos rfl],by simp only[updR,if_true];exact h3,h4,h5⟩
   ·exact old hi
 ·rw[hfi] at hj
  split at hj
  ·rename_i e
   subst e
   cases hj
   refine ⟨rfl,?_,?_⟩
   ·simp only[updR,if_true]
    exact ORep.mono (Keeps.refl _ _) href (fun _ _=>rfl) hO
   ·rcases hm with ⟨rfl,hn⟩ | ⟨i0,ver,o,rfl,_⟩
    ·exact .inr (by simp only[updR,if_true];exact hn)
    ·exact .inl ⟨i0,by simp[ZeT]⟩
  ·rename_i hne
   obtain ⟨h1,h2,h3⟩:=h.ob j v o hj
   simp only[updR,if_neg hne]
   refine ⟨h1,ORep.mono (Keeps.refl _ _) href (fun _ _=>rfl) h2,?_⟩
   rcases hm with ⟨rfl,_⟩ | ⟨i0,ver,o,rfl,hn,_⟩
   ·exact h3
   ·refine h3.imp (fun ⟨i,hi⟩=>⟨i,?_⟩) _root_.id
    simp only[ZeT]
    rw[if_neg (fun e=>by subst e;rw[hn] at hi;cases hi)]
    exact hi
 ·rcases hm with ⟨rfl,_⟩ | ⟨i0,ver,o,rfl,hn,_⟩
  ·exact h.inj i j k hi hj
  ·simp only[ZeT] at hi hj
   split at hi <;> split at hj
   ·simp_all
   ·cases hi;exact absurd rfl (hold _ _ hj)
   ·cases hj;exact absurd rfl (hold _ _ hi)
   ·exact h.inj i j k hi hj
theorem Zia {x:AV} {v:Value} {st':St} {ρ':Rho} (h:ARep F ρ w st x v):ARep F ρ' w st' (plainAV x) v:=by
 unfold plainAV
 split
 ·cases h with | d _ _ _ h=>exact .d _ _ _ h
 ·cases h;exact .nil
 ·cases h;exact .cst _
 ·cases h with | ifc _ _ _ h=>cases h with | d _ _ _ h=>exact .ifc _ _ _ (.d _ _ _ h)
 ·cases h with | rp _ _ _ _ _ h1 h2 h3=>exact .rp _ _ _ _ _ h1 h2 h3
 ·exact .top _
def RenOK (F:Nat→Prop) (w:World) (st:St) (ρ:Rho) (v:Value) (rn:Ren) (ρ':Rho) (r:AV×Ren):Prop:=
 ∃ρ2,RI F w st ρ r.2 ρ2∧ARep F ρ2 w ⟨[],r.2.2⟩ r.1 v∧Ref ⟨[],rn.2⟩ ρ' ⟨[],r.2.2⟩ ρ2
theorem RenOK.top {v:Value} {rn:Ren} {ρ':Rho} (h:RI F w st ρ rn ρ'):RenOK F w st ρ v rn ρ' (.top,rn):=⟨ρ',h,.top _,Ref.refl⟩
theorem Zeq {rn:Ren} {ρ':Rho} (h:RI F w st ρ rn ρ') {i id ver:Nat} {o o':Obj} {x:AV} {v:Value} (hf:find i st.ob=some (ver,o)) (hs:Obj.sim o o') (hfr:o'.free=o.free) (hO:ORep F ρ' w ⟨[],rn.2⟩ (ρ i) o')
  (hx:ARep F (updR ρ' id (ρ i)) w ⟨[],ins id (0,o') rn.2⟩ x v):RenOK F w st ρ v rn ρ' (addR rn i id o' x):=by
 unfold addR
 split
 ·rename_i hm hn
  obtain ⟨h1,h2⟩:=h.add (m:=(i,id) :: rn.1) hn (.inr ⟨i,ver,o,rfl,hm,hf,rfl,hs,hfr⟩) hO
  exact ⟨_,h1,hx,h2⟩
 ·exact RenOK.top h
theorem Ze0 {id:Id} {o':Obj} {l:List (Id×Nat×Obj)} :bnd ⟨[],ins id (0,o') l⟩ id 0:=⟨0,o',by simp[Zcr],Nat.le_refl _⟩
theorem Zkn {id:Id} {o':Obj} {l:List (Id×Nat×Obj)} :(⟨[],ins id (0,o') l⟩:St).obj id 0=some o':=by rw[Zm];simp[Zcr]
theorem Zhk {hints:List (Id×TypeId)} {id:Id} {pre:Option Nat} {n:Nat} (h:∀m,pre=some m→m≤n):(∀m,preOf hints id pre n=some m→m≤n)∧(preOf hints id pre n).getD n=pre.getD n:=by
 unfold preOf
 cases pre with
 | some m=>exact ⟨h,rfl⟩
 | none=>
  cases mapd hints (id+preK) with
  | some T=>exact ⟨fun m e=>by cases e;exact Nat.le_refl _,rfl⟩
  | none=>exact ⟨fun m e=>(by cases e),rfl⟩
theorem ZjB {hints:List (Id×TypeId)} (hR:R Mod F ρ w st tm):∀(n:Nat) (rn:Ren) (ρ':Rho) (id:Id) (x:AV) (v:Value),RI F w st ρ rn ρ'→ARep F ρ w st x v→RenOK F w st ρ v rn ρ' (ren P hints st n rn id x)
 | 0,rn,ρ',id,x,v,hI,hx=>RenOK.top hI
 | n+1,rn,ρ',id,x,v,hI,hx=>by
  have all:∀(cs:List AV) (vs:List Value) (j:Nat) (rn:Ren) (ρ':Rho),RI F w st ρ rn ρ'→CsRep F ρ w st cs vs→
    ∃ρ2,RI F w st ρ (renA (ren P hints st n) rn id j cs).2 ρ2∧CsRep F ρ2 w ⟨[],(renA (ren P hints st n) rn id j cs).2.2⟩ (renA (ren P hints st n) rn id j cs).1 vs∧Ref ⟨[],rn.2⟩ ρ' ⟨[],(renA (ren P hints st n) rn id j cs).2.2⟩ ρ2:=by
   intro cs
   induction cs with
   | nil=>
    intro vs j rn ρ' hI hc
    have:vs=[]:=List.length_eq_zero_iff.1 hc.1.symm
    subst this
    exact ⟨ρ',hI,.nil,Ref.refl⟩
   | cons c cs ih=>
    intro vs j rn ρ' hI hc
    cases vs with
    | nil=>have:=hc.1;simp at this
    | cons u us=>
     have hx:=hc.2 0 c u rfl rfl
     have hr:CsRep F ρ w st cs us:=⟨by have:=hc.1;simpa using this,fun i c u h1 h2=>hc.2 (i+1) c u h1 h2⟩
     obtain ⟨ρ1,i1,a1,r1⟩:=ZjB hR n rn ρ' (childId id j) c u hI hx
     obtain ⟨ρ2,i2,a2,r2⟩:=ih us (j+1) _ ρ1 i1 hr
     unfold renA
     exact ⟨ρ2,i2,.cons (a1.mono (Keeps.refl _ _) r2) a2,r1.trans r2⟩
  unfold ren
  split
  ·rename_i i ver off
   split
   ·rename_i T cs tg ho
    cases hx with
    | pt _ _ _ _ hbn h1 hp=>
     obtain ⟨b,hρ,rfl⟩:=hp _ ho
     split
     ·rename_i i' hm
      obtain ⟨ver2,o,o',k1,k2,k3,k4,_⟩:=hI.m i i' hm
      exact ⟨ρ',hI,.pt _ _ _ _ ⟨0,o',k2,Nat.le_refl _⟩ rfl fun o2 _=>⟨b,k3.trans hρ,rfl⟩,Ref.refl⟩
     ·rename_i hm
      obtain ⟨htg,b',arr,hρ',hh,hl,hc⟩:=hR.obs i ver _ (Zm.1 ho)
      rw[hρ] at hρ'
      cases hρ'
      obtain ⟨ρ2,i2,a2,r2⟩:=all cs arr.toList 0 rn ρ' hI ⟨by simp[hl],fun i c u h1 h2=>hc i c u h1 (by simpa using h2)⟩
      generalize renA (ren P hints st n) rn id 0 cs=q at i2 a2 r2
      obtain ⟨vs,rn2⟩:=q
      simp only at i2 a2 r2 ⊢
      have hO:ORep F ρ2 w ⟨[],rn2.2⟩ (ρ i) (.box T vs tg):=⟨htg,b,arr,hρ,hh,by simpa using a2.1.symm,fun i c u h1 h2=>a2.2 i c u h1 (by simpa using h2)⟩
      obtain ⟨ρ3,i3,a3,r3⟩:=Zeq (o':=.box T vs tg) (x:=.pt id 0 off) (v:=.pointer (some ⟨b,off,none⟩)) i2 (id:=id) (Zm.1 ho) trivial rfl hO (.pt _ _ _ _ Ze0 rfl fun o2 _=>⟨b,by simp only[updR,if_true];exact hρ,rfl⟩)
      exact ⟨ρ3,i3,a3,r2.trans r3⟩
   ·exact RenOK.top hI
  ·rename_i i ver pre
   split
   ·rename_i E t l lk ho
    cases hx with
    | own _ _ _ _ hbn h1 hp=>
     have hq:=hp _ _ _ _ ho
     cases hlk:(lk&&isLk hints id) with
     | true=>
      rw[Bool.and_eq_true] at hlk
      have hlkt:=hlk.1
      subst hlkt
      simp only[cond_true]
      refine ⟨ρ',hI,?_,Ref.refl⟩
      have htd:toData st (.own i ver pre)=some (.d (.sl t) (preL pre l),[i]):=by unfold toData;simp only[ho]
      have h3:=ZgV hR htd (.own _ _ _ _ hbn h1 hp) (Keeps.refl F w) (Ref.refl (st:=st) (ρ:=ρ)) (fun id' hid v' E' t' l' lk' hf b hbb=>by
       simp only[List.mem_singleton] at hid
       subst hid
       rw[Zm.1 ho] at hf
       cases hf
       exact hR.data _ _ _ _ _ (Zm.1 ho) b hbb)
      cases h3 with
      | d _ _ _ h=>exact .d _ _ _ h
     | false=>
     simp only[cond_false]
     split
     ·rename_i i' hm
      obtain ⟨ver2,o,o',k1,k2,k3,k4,_⟩:=hI.m i i' hm
      refine ⟨ρ',hI,.own _ _ _ _ ⟨0,o',k2,Nat.le_refl _⟩ h1 fun E' t' l' lk' ho'=>?_,Ref.refl⟩
      have e1:o'=.row E' t' l' lk':=by
       have:=Zm.1 ho'
       rw[k2] at this
       cases this
       rfl
      have e2:o=.row E t l lk:=by
       have:=Zm.1 ho
       rw[k1] at this
       cases this
       rfl
      subst e1 e2
      obtain ⟨hn,A,c,q1,q2⟩:=hq
      have hlen:List.length l'=List.length l:=k4.2.symm
      obtain ⟨w1,w2⟩:=Zhk (hints:=hints) (id:=id) hn
      exact ⟨fun n e=>by rw[hlen];exact w1 n e,A,c,by rw[k3,q1,hlen],by rw[q2,hlen,w2]⟩
     ·refine Zeq hI (Zm.1 ho) ⟨rfl,rfl⟩ rfl (ORep.mono (o:=.row E t l lk) (Keeps.refl _ _) (Ref.refl (st:=st) (ρ:=ρ)) (fun _ _=>rfl) (hR.obs i ver _ (Zm.1 ho))) (.own _ _ _ _ Ze0 h1 fun E' t' l' lk' ho'=>?_)
      rw[Zkn] at ho'
      cases ho'
      simp only[updR,if_true]
      obtain ⟨hn,A,c,q1,q2⟩:=hq
      obtain ⟨w1,w2⟩:=Zhk (hints:=hints) (id:=id) hn
      exact ⟨w1,A,c,q1,by rw[q2,w2]⟩
   ·exact RenOK.top hI
  ·rename_i i ver
   split
   ·rename_i kt vt l ho
    cases hx with
    | mp _ _ _ hbn h1 hp=>
     have hq:=hp _ ho
     split
     ·rename_i i' hm
      obtain ⟨ver2,o,o',k1,k2,k3,k4,_⟩:=hI.m i i' hm
      exact ⟨ρ',hI,.mp _ _ _ ⟨0,o',k2,Nat.le_refl _⟩ h1 fun o2 _=>hq.trans k3.symm,Ref.refl⟩
     ·exact Zeq hI (Zm.1 ho) trivial rfl (hR.obs i ver _ (Zm.1 ho)) (.mp _ _ _ Ze0 h1 fun o2 _=>by simp only[updR,if_true];exact hq)
   ·rename_i tg ho
    cases hx with
    | mp _ _ _ hbn h1 hp=>
     have hq:=hp _ ho
     split
     ·rename_i i' hm
      obtain ⟨ver2,o,o',k1,k2,k3,k4,_⟩:=hI.m i i' hm
      exact ⟨ρ',hI,.mp _ _ _ ⟨0,o',k2,Nat.le_refl _⟩ h1 fun o2 _=>hq.trans k3.symm,Ref.refl⟩
     ·exact Zeq hI (Zm.1 ho) trivial rfl (hR.obs i ver _ (Zm.1 ho)) (.mp _ _ _ Ze0 h1 fun o2 _=>by simp only[updR,if_true];exact hq)
   ·exact RenOK.top hI
  ·rename_i i ver
   split
   ·rename_i s p ho
    cases hx with
    | it _ _ _ hbn h1 hp=>
     have hq:=hp _ _ ho
     split
     ·rename_i i' hm
      obtain ⟨ver2,o,o',k1,k2,k3,k4,_⟩:=hI.m i i' hm
      exact ⟨ρ',hI,.it _ _ _ ⟨0,o',k2,Nat.le_refl _⟩ h1 fun s' p' _=>hq.trans k3.symm,Ref.refl⟩
     ·exact Zeq hI (Zm.1 ho) trivial rfl (hR.obs i ver _ (Zm.1 ho)) (.it _ _ _ Ze0 h1 fun s' p' _=>by simp only[updR,if_true];exact hq)
   ·exact RenOK.top hI
  ·cases hx
   split
   ·rename_i T hT
    cases Nat.beq (T % 2) 1 with
    | true=>
     simp only[cond_true]
     refine ⟨ρ',hI,?_,Ref.refl⟩
     unfold nilData
     split
     ·exact .d _ _ _ ⟨none,0,rfl,Nat.le_refl _,fun i x hx=>by simp at hx⟩
     ·exact .nil
    | false=>
    simp only[cond_false]
    split
    ·rename_i E t z hel hn
     have hO:ORep F ρ' w ⟨[],rn.2⟩ (.slice none 0 0) (.row E t [] false):=⟨[],⟨by simp,.inl ⟨rfl,rfl⟩⟩,fun i x hx=>by simp at hx⟩
     obtain ⟨h1,h2⟩:=hI.add (m:=rn.1) (id:=id) (h':=.slice none 0 0) hn (.inl ⟨rfl,rfl⟩) hO
     refine ⟨_,h1,.own _ _ _ _ Ze0 rfl fun E' t' l' lk' ho'=>?_,h2⟩
     rw[Zkn] at ho'
     cases ho'
     obtain ⟨w1,w2⟩:=Zhk (hints:=hints) (id:=id) (pre:=none) (n:=0) (fun m e=>by cases e)
     exact ⟨w1,none,0,by simp[updR],by rw[show (List.length ([]:List (El t)))=0 from rfl,w2];rfl⟩
    ·exact ⟨ρ',hI,.nil,Ref.refl⟩
   ·exact ⟨ρ',hI,.nil,Ref.refl⟩
  ·rename_i cs
   cases hx with
   | ag _ vs hl hall=>
    refine ⟨ρ',hI,.ag _ _ (by simpa using hl) fun i c u h1 h2=>?_,Ref.refl⟩
    rw[List.getElem?_map] at h1
    obtain ⟨c',hc',rfl⟩:=Option.map_eq_some_iff.1 h1
    exact Zia (hall i c' u hc' h2)
  ·rename_i f cs
   cases hx with
   | fn _ _ vs hl hall=>
    obtain ⟨ρ2,i2,a2,r2⟩:=all cs vs.toList 0 rn ρ' hI ⟨by simpa using hl,fun i c u h1 h2=>hall i c u h1 (by simpa using h2)⟩
    generalize renA (ren P hints st n) rn id 0 cs=q at i2 a2 r2
    obtain ⟨us,rn2⟩:=q
    simp only at i2 a2 r2 ⊢
    exact ⟨ρ2,i2,.fn _ _ _ (by simpa using a2.1) fun i c u h1 h2=>a2.2 i c u h1 (by simpa using h2),r2⟩
  ·exact ⟨ρ',hI,Zia hx,Ref.refl⟩
theorem Zgh {hints:List (Id×TypeId)} (hR:R Mod F ρ w st tm):∀(live:List Nat) (rn:Ren) (ρ':Rho) (tl:List AV),RI F w st ρ rn ρ'→tl.length=st.tm.length→
  (∀(i:Nat) (x:AV),tl[i]? =some x→∃v,tm[i]? =some v∧ARep F ρ' w ⟨[],rn.2⟩ x v)→
  ∃ρ2,RI F w st ρ (renTm P hints st live rn tl).2 ρ2∧(renTm P hints st live rn tl).1.length=st.tm.length∧
   ∀(i:Nat) (x:AV),(renTm P hints st live rn tl).1[i]? =some x→∃v,tm[i]? =some v∧ARep F ρ2 w ⟨[],(renTm P hints st live rn tl).2.2⟩ x v
 | [],rn,ρ',tl,hI,hl,ht=>⟨ρ',hI,hl,ht⟩
 | s :: r,rn,ρ',tl,hI,hl,ht=>by
  unfold renTm
  by_cases hs:s < st.tm.length
  ·obtain ⟨v,hv,ha⟩:=hR.tms s st.tm[s] (by simp[hs])
   have hg:st.tm.getD s .top=st.tm[s]:=by simp[List.getD,hs]
   rw[hg]
   obtain ⟨ρ1,i1,a1,r1⟩:=ZjB (P:=P) (hints:=hints) hR 6 rn ρ' (rootId s) st.tm[s] v hI ha
   generalize ren P hints st 6 rn (rootId s) st.tm[s]=q at i1 a1 r1
   obtain ⟨y,rn1⟩:=q
   refine Zgh hR r rn1 ρ1 (tl.set s y) i1 (by simpa using hl) fun i x hx=>?_
   rw[List.getElem?_set] at hx
   split at hx
   ·rename_i e
    subst e
    split at hx
    ·cases hx;exact ⟨v,hv,a1⟩
    ·cases hx
   ·obtain ⟨u,hu,hau⟩:=ht i x hx
    exact ⟨u,hu,hau.mono (Keeps.refl _ _) r1⟩
  ·have hg:st.tm.getD s .top=.top:=by simp[List.getD,hs]
   rw[hg]
   have hr:ren P hints st 6 rn (rootId s) .top=(.top,rn):=rfl
   rw[hr]
   have hset:tl.set s .top=tl:=List.set_eq_of_length_le (by omega)
   simp only[hset]
   exact Zgh hR r rn ρ' tl hI hl ht
theorem ZeJ:∀(n i:Nat) (x:AV),(tops n)[i]? =some x→x=.top
 | 0,i,x,h=>by simp[tops] at h
 | n+1,0,x,h=>by simp[tops] at h;exact h.symm
 | n+1,i+1,x,h=>ZeJ n i x (by simpa[tops] using h)
theorem Zac:∀n,(tops n).length=n
 | 0=>rfl
 | n+1=>by simp[tops,Zac n]
theorem Zg7 {lab:Lab} (hR:R Mod F ρ w st tm):∃ρ',R Mod F ρ' w (norm P lab st) tm:=by
 have hI0:RI F w st ρ ([],[]) (fun _=>undef):=⟨fun i i' h=>by simp[mapd] at h,fun id v o h=>by simp[find] at h,fun i j id h=>by simp[mapd] at h⟩
 obtain ⟨ρ2,hI,hl,ht⟩:=Zgh (P:=P) (hints:=lab.hints) hR lab.live ([],[]) _ (tops st.tm.length) hI0 (Zac _) (fun i x hx=>by
  obtain rfl:=ZeJ _ _ _ hx
  have hlt:i < tm.size:=by
   rw[hR.size]
   have:=(List.getElem?_eq_some_iff.1 hx).1
   rwa[Zac] at this
  exact ⟨tm[i],by simp[hlt],.top _⟩)
 unfold norm
 generalize renTm P lab.hints st lab.live ([],[]) (tops st.tm.length)=q at hI hl ht
 obtain ⟨tl,rn⟩:=q
 simp only at hI hl ht ⊢
 refine ⟨ρ2,hR.size.trans hl.symm,fun i x hx=>?_,fun id ver o hf=>?_,fun id ver o b hf hfr hbb=>?_,fun id ver E t l hf b hbb=>?_,hR.low,hR.hi,hR.tabs⟩
 ·obtain ⟨v,hv,ha⟩:=ht i x hx
  exact ⟨v,hv,ARep.of_ob (st:=⟨[],rn.2⟩) (st':=⟨tl,rn.2⟩) rfl ha⟩
 ·obtain ⟨_,h2,_⟩:=hI.ob id ver o hf
  exact ORep.mono (Keeps.refl _ _) (Ref.of_ob (st:=⟨[],rn.2⟩) (st':=⟨tl,rn.2⟩) rfl) (fun _ _=>rfl) h2
 ·obtain ⟨h1,h2,h3⟩:=hI.ob id ver o hf
  rcases h3 with ⟨i,hi⟩ | hn
  ·obtain ⟨v0,o0,o1,k1,k2,k3,k4,k5⟩:=hI.m i id hi
   have e:o1=o:=by rw[show find id rn.2=some (ver,o) from hf] at k2;cases k2;rfl
   subst e
   obtain ⟨s1,s2,s3,s4⟩:=hR.sep i v0 o0 b k1 (by rw[←k5];exact hfr) (by rw[←k3];exact hbb)
   refine ⟨s1,s2,s3,fun id' ver' o' hf' hfr' hbb'=>?_⟩
   obtain ⟨_,_,h3'⟩:=hI.ob id' ver' o' hf'
   rcases h3' with ⟨j,hj⟩ | hn
   ·obtain ⟨v2,o2,o3,m1,m2,m3,m4,m5⟩:=hI.m j id' hj
    have e:o3=o':=by rw[show find id' rn.2=some (ver',o') from hf'] at m2;cases m2;rfl
    subst e
    have:=s4 j v2 o2 m1 (by rw[←m5];exact hfr') (by rw[←m3];exact hbb')
    subst this
    rw[hi] at hj
    cases hj
    rfl
   ·rw[hn] at hbb';cases hbb'
  ·rw[hn] at hbb;cases hbb
 ·obtain ⟨_,_,h3⟩:=hI.ob id ver _ hf
  rcases h3 with ⟨i,hi⟩ | hn
  ·obtain ⟨v0,o0,o1,k1,k2,k3,k4,k5⟩:=hI.m i id hi
   have e:o1=.row E t l true:=by rw[show find id rn.2=some (ver,.row E t l true) from hf] at k2;cases k2;rfl
   subst e
   cases o0 <;> simp only[Obj.sim] at k4
   rename_i E0 t0 l0 lk0
   have:lk0=true:=by simpa[Obj.free] using k5
   subst this
   exact hR.data i v0 _ _ _ k1 b (by rw[←k3];exact hbb)
  ·rw[hn] at hbb;cases hbb
theorem Zf9 {lab:Lab} {F0:Nat→Prop} {w0:World} {a:Act} (h:Rel Mod F0 w0 st a w):Rel Mod F0 w0 (normL P lab st) a w:=by
 obtain ⟨hd,F,ρ,hR,hE⟩:=h
 obtain ⟨F2,hR2,hE2,_⟩:=ZbS (lockIds lab st) hR
 obtain ⟨ρ',hR'⟩:=Zg7 (P:=P) (lab:=lab) hR2
 exact ⟨hd,F2,ρ',hR',hE.trans hE2⟩
theorem ZbB {lab:Lab} {F0:Nat→Prop} {w0:World} {a:Act} (h:Rel Mod F0 w0 st a w):Rel Mod F0 w0 (norm P lab st) a w:=by
 obtain ⟨hd,F,ρ,hR,hE⟩:=h
 obtain ⟨ρ',hR'⟩:=Zg7 (P:=P) (lab:=lab) hR
 exact ⟨hd,F,ρ',hR',hE⟩
end
end Go.Ev
end

section
namespace Go.Ev
variable [Tabs] [Orgs]
open Go
def Det {α:Type} (m:M α):Prop:=(∀k,m k=none)∨∃a,∀k,m k=k a
theorem Det.pure {α:Type} (a:α):Det (M.pure a):=.inr ⟨a,fun _=>rfl⟩
theorem Det.fail {α:Type} :Det (fail:M α):=.inl fun _=>rfl
theorem Det.cond {α:Type} {b:Bool} {m n:M α} (h:Det m) (h':Det n):Det (bif b then m else n):=by cases b <;> assumption
theorem Det.guard {α:Type} {b:Bool} {m:M α} (h:Det m):Det (fun k=>bif b then m k else none):=by
 cases b
 ·exact .inl fun _=>rfl
 ·exact h
theorem Det.guard' {α:Type} {b:Bool} {m:M α} (h:Det m):Det (fun k=>bif b then none else m k):=by
 cases b
 ·exact h
 ·exact .inl fun _=>rfl
theorem Det.bind {α β:Type} {m:M α} {f:α→M β} (h:Det m) (hf:∀a,Det (f a)):Det (M.bind m f):=by
 rcases h with h | ⟨a,h⟩
 ·exact .inl fun k=>h _
 ·rcases hf a with h' | ⟨b,h'⟩
  ·exact .inl fun k=>(h _).trans (h' k)
  ·exact .inr ⟨b,fun k=>(h _).trans (h' k)⟩
theorem Det.branch {b:Bool} :Det (branch b):=by cases b <;> exact .inr ⟨_,fun _=>rfl⟩
theorem Det.toB {x:AV} :Det (toB x):=by unfold Go.Ev.toB;split <;> first | exact Det.pure _ | exact Det.fail
theorem Det.toI {x:AV} :Det (toI x):=by unfold Go.Ev.toI;split <;> first | exact Det.pure _ | exact Det.fail
theorem Det.boundI {i n:Int} :Det (boundI i n):=Det.guard (Det.pure _)
theorem Det.caseNat {i:Int} :∀ {n:Nat},Det (caseNat i n)
 | 0=>Det.fail
 | n+1=>by
  unfold Go.Ev.caseNat
  cases h:(i==(n:Int))
  ·exact Det.caseNat
  ·exact Det.pure n
theorem Det.unA {op:UnOp} {x:AV} :Det (unA op x):=by unfold Go.Ev.unA;split <;> first | exact Det.pure _ | exact Det.fail
theorem Det.binI {op:BinOp} {k k':IntKind} {a b:Int} :Det (binI op k k' a b):=by
 unfold Go.Ev.binI
 cases op <;> simp only <;> first
  | exact Det.guard' (Det.pure _)
  | (split <;> first | exact Det.pure _ | exact Det.fail | exact Det.guard' (Det.pure _) | (split <;> first | exact Det.pure _ | exact Det.fail))
theorem Det.binS {op:BinOp} {a b:ByteArray} :Det (binS op a b):=by
 unfold Go.Ev.binS
 cases op <;> simp only <;> first
  | exact Det.guard' (Det.pure _)
  | exact Det.pure _
  | exact Det.fail
theorem Det.binA {P:Program} {st:St} {op:BinOp} {t:TypeId} {x y:AV} :Det (binA P st op t x y):=by
 unfold Go.Ev.binA
 split
 ·exact Det.binI
 ·exact Det.binS
 ·split <;> first | exact Det.pure _ | exact Det.fail
 ·refine Det.cond Det.fail ?_
  split <;> first | exact Det.pure _ | exact Det.fail
 ·split <;> first | exact Det.pure _ | exact Det.fail
theorem Det.lenA {st:St} {x:AV} :Det (lenA st x):=by
 unfold Go.Ev.lenA
 split <;> first | exact Det.pure _ | exact Det.fail | (split <;> first | exact Det.pure _ | exact Det.fail)
def Fr2 (m m2:M St) (st st2:St) (d:Option Nat):Prop:=(∀k,m k=none)∨∃v,(∀k,m k=k (st.put d v))∧∀k,m2 k=k (st2.put d v)
section
variable {st st2:St} {d:Option Nat}
theorem Fr2.pure (v:AV):Fr2 (M.pure (st.put d v)) (M.pure (st2.put d v)) st st2 d:=.inr ⟨v,fun _=>rfl,fun _=>rfl⟩
theorem Fr2.fail {m2:M St} :Fr2 fail m2 st st2 d:=.inl fun _=>rfl
theorem Fr2.bind {α:Type} {m:M α} (h:Det m) {f g:α→M St} (hf:∀a,Fr2 (f a) (g a) st st2 d):Fr2 (M.bind m f) (M.bind m g) st st2 d:=by
 rcases h with h | ⟨a,h⟩
 ·exact .inl fun k=>h _
 ·rcases hf a with h' | ⟨v,h1,h2⟩
  ·exact .inl fun k=>(h _).trans (h' k)
  ·exact .inr ⟨v,fun k=>(h _).trans (h1 k),fun k=>(h _).trans (h2 k)⟩
theorem Fr2.cond {b:Bool} {m n m2 n2:M St} (h:Fr2 m m2 st st2 d) (h':Fr2 n n2 st st2 d):Fr2 (bif b then m else n) (bif b then m2 else n2) st st2 d:=by cases b <;> assumption
theorem Fr2.opt {x:Option AV} :Fr2 (match x with | some v=>M.pure (st.put d v) | none=>Go.Ev.fail) (match x with | some v=>M.pure (st2.put d v) | none=>Go.Ev.fail) st st2 d:=by
 cases x
 ·exact Fr2.fail
 ·exact Fr2.pure _
theorem Fr2.elim {b:Option AV} {f:AV→AV} {v:AV} :Fr2 (fun c=>Option.elim b (M.pure (st.put d v) c) (fun u=>M.pure (st.put d (f u)) c)) (fun c=>Option.elim b (M.pure (st2.put d v) c) (fun u=>M.pure (st2.put d (f u)) c)) st st2 d:=by
 cases b
 ·exact Fr2.pure _
 ·exact Fr2.pure _
end
theorem ZjU {P:Program} {cl:Cl} {o:Oper} {tm tm2:List AV} {ob:List (Id×Nat×Obj)} (hv:isV o.op=true) (hev:∀x∈o.op.operands,(⟨tm2,ob⟩:St).ev x=(⟨tm,ob⟩:St).ev x):
  Fr2 (opA P cl o ⟨tm,ob⟩) (opA P cl o ⟨tm2,ob⟩) ⟨tm,ob⟩ ⟨tm2,ob⟩ o.dst:=by
 have hobj:∀id ver,(⟨tm2,ob⟩:St).obj id ver=(⟨tm,ob⟩:St).obj id ver:=fun _ _=>rfl
 have hbeh:∀x,behind ⟨tm2,ob⟩ x=behind ⟨tm,ob⟩ x:=fun x=>by cases x <;> rfl
 have hlive:∀x,live ⟨tm2,ob⟩ x=live ⟨tm,ob⟩ x:=fun x=>by cases x <;> rfl
 have hnil:∀T x y,isNil P T ⟨tm2,ob⟩ x y=isNil P T ⟨tm,ob⟩ x y:=fun T x y=>rfl
 have hext:∀t x,extra ⟨tm2,ob⟩ t x=extra ⟨tm,ob⟩ t x:=fun t x=>rfl
 have hbin:∀op T x y,binA P ⟨tm2,ob⟩ op T x y=binA P ⟨tm,ob⟩ op T x y:=fun op T x y=>rfl
 cases h:o.op <;> rw[h] at hv hev <;> simp only[isV] at hv <;> first | (cases hv;done) | skip
 case move x=>
  simp only[opA,h,hev x (by simp[Op.operands])]
  exact Fr2.pure _
 case assign x=>
  simp only[opA,h,hev x (by simp[Op.operands])]
  exact Fr2.pure _
 case pick c x y=>
  simp only[opA,h,hev c (by simp[Op.operands]),hev x (by simp[Op.operands]),hev y (by simp[Op.operands])]
  refine Fr2.bind Det.toB fun b=>Fr2.bind Det.branch fun b'=>?_
  cases b' <;> exact Fr2.pure _
 case load T x=>
  simp only[opA,h,hev x (by simp[Op.operands]),hbeh]
  split
  ·exact Fr2.cond (Fr2.pure _) Fr2.fail
  ·exact Fr2.opt
  ·exact Fr2.fail
 case nilCheck x=>
  simp only[opA,h,hev x (by simp[Op.operands]),hlive]
  exact Fr2.cond (Fr2.pure _) Fr2.fail
 case binOp op T x y T'=>
  simp only[opA,h,hev x (by simp[Op.operands]),hev y (by simp[Op.operands]),hbin]
  exact Fr2.bind Det.binA fun v=>Fr2.pure _
 case unOp op T x=>
  simp only[opA,h,hev x (by simp[Op.operands])]
  exact Fr2.bind Det.unA fun v=>Fr2.pure _
 case convert a b x=>
  simp only[opA,h,hev x (by simp[Op.operands]),hext]
  split <;> first | exact Fr2.pure _ | exact Fr2.fail | (split <;> first | exact Fr2.fail | (split <;> first | exact Fr2.pure _ | exact Fr2.fail))
 case makeInterface T x=>
  simp only[opA,h,hev x (by simp[Op.operands])]
  split <;> first | exact Fr2.pure _ | exact Fr2.fail
 case fieldAddr S x j=>
  simp only[opA,h,hev x (by simp[Op.operands]),hlive]
  split
  ·exact Fr2.fail
  ·exact Fr2.cond (Fr2.pure _) Fr2.fail
 case field T x j=>
  simp only[opA,h,hev x (by simp[Op.operands])]
  split
  ·split
   ·exact Fr2.opt
   ·exact Fr2.fail
  ·exact Fr2.fail
 case indexAddr T x i=>
  simp only[opA,h,hev x (by simp[Op.operands]),hev i (by simp[Op.operands]),hlive,hobj]
  refine Fr2.bind Det.toI fun p=>?_
  split
  ·split
   ·exact Fr2.cond (Fr2.bind Det.boundI fun n=>Fr2.pure _) Fr2.fail
   ·exact Fr2.fail
  ·split
   ·exact Fr2.cond (Fr2.bind Det.boundI fun n=>Fr2.pure _) Fr2.fail
   ·exact Fr2.fail
  ·refine Fr2.cond ?_ Fr2.fail
   split
   ·exact Fr2.bind Det.caseNat fun n=>Fr2.pure _
   ·exact Fr2.fail
  ·exact Fr2.fail
 case index T x i=>
  simp only[opA,h,hev x (by simp[Op.operands]),hev i (by simp[Op.operands])]
  refine Fr2.bind Det.toI fun p=>?_
  split
  ·exact Fr2.bind Det.boundI fun n=>Fr2.pure _
  ·split
   ·exact Fr2.bind Det.caseNat fun n=>Fr2.opt
   ·exact Fr2.fail
  ·exact Fr2.fail
 case extract x j=>
  simp only[opA,h,hev x (by simp[Op.operands])]
  split
  ·exact Fr2.opt
  ·exact Fr2.fail
 case lookup T x k ok=>
  simp only[opA,h,hev x (by simp[Op.operands]),hev k (by simp[Op.operands]),hobj]
  split
  ·split
   ·split
    ·refine Fr2.cond (Fr2.cond ?_ (Fr2.pure _)) Fr2.fail
     rename_i kt vt l _ _ _ key z _ _
     cases mget key l
     ·exact Fr2.pure _
     ·exact Fr2.pure _
    ·exact Fr2.fail
   ·exact Fr2.fail
  ·exact Fr2.fail
 case typeAssert x T0 T ok=>
  simp only[opA,h,hev x (by simp[Op.operands])]
  split
  ·exact Fr2.fail
  ·exact Fr2.fail
  ·refine Fr2.cond (Fr2.pure _) (Fr2.cond ?_ Fr2.fail)
   split
   ·exact Fr2.pure _
   ·exact Fr2.fail
  ·exact Fr2.fail
theorem Fr2.guard {st st2:St} {d:Option Nat} {b:Bool} {m m2:M St} (h:Fr2 m m2 st st2 d):Fr2 (fun k=>bif b then m k else none) (fun k=>bif b then m2 k else none) st st2 d:=by
 cases b
 ·exact .inl fun _=>rfl
 ·exact h
theorem Det.upto {x:Option Operand} {st:St} {d:Int} :Det (upto x st d):=by
 unfold Go.Ev.upto
 split
 ·exact Det.pure _
 ·exact Det.bind Det.toI fun _=>Det.pure _
theorem ZgQ {x:Option Operand} {st st2:St} {d:Int} (h:∀y,x=some y→st2.ev y=st.ev y):upto x st2 d=upto x st d:=by
 cases x with
 | none=>rfl
 | some y=>simp only[Go.Ev.upto,h y rfl]
theorem Zgb {P:Program} {cl:Cl} {o:Oper} {st st2:St} {T:TypeId} {x:Operand} {lo hi:Option Operand} (h:o.op=.slice T x lo hi none) (hsl:slX (st.ev x) lo=true)
  (hev:∀y∈o.op.operands,st2.ev y=st.ev y) (hobj:∀id∈men1 (st.ev x),∀ver,st2.obj id ver=st.obj id ver):Fr2 (opA P cl o st) (opA P cl o st2) st st2 o.dst:=by
 rw[h] at hev
 have hlo:∀d,upto lo st2 d=upto lo st d:=fun d=>ZgQ fun y hy=>hev y (by subst hy;simp[Op.operands])
 have hhi:∀d,upto hi st2 d=upto hi st d:=fun d=>ZgQ fun y hy=>hev y (by subst hy;simp[Op.operands])
 simp only[opA,h,hev x (by simp[Op.operands]),hlo,hhi]
 generalize st.ev x=a at hsl hobj ⊢
 split
 ·exact Fr2.bind Det.upto fun l=>Fr2.bind Det.upto fun h=>Fr2.guard (Fr2.pure _)
 ·exact Fr2.cond (Fr2.bind Det.upto fun l=>Fr2.bind Det.upto fun h=>Fr2.guard (Fr2.pure _)) Fr2.fail
 ·rename_i id ver pre e _
  rw[hobj id (by simp[men1])]
  cases lo with
  | some y=>cases hsl
  | none=>
   split
   ·exact Fr2.cond (Fr2.bind Det.upto fun h=>Fr2.guard (Fr2.pure _)) Fr2.fail
   ·rename_i e;cases e
   ·exact Fr2.fail
 ·exact Fr2.fail
def DetC (cl:Cl):Prop:=∀f xs,Det (cl f xs)
theorem ZV {st st2:St} :∀(l:List Operand),(∀x∈l,st2.ev x=st.ev x)→asArg st2 l=asArg st l
 | [],_=>rfl
 | x :: r,h=>by simp only[asArg,h x (by simp),ZV r fun y hy=>h y (by simp[hy])]
theorem ZiK {tm tm2:List AV} {ob:List (Id×Nat×Obj)} :∀(n:Nat) (rows:Bool),give ⟨tm2,ob⟩ rows n=give ⟨tm,ob⟩ rows n
 | 0,_=>rfl
 | n+1,rows=>by
  funext x
  have h1:=ZiK (tm:=tm) (tm2:=tm2) (ob:=ob) n rows
  have h2:=ZiK (tm:=tm) (tm2:=tm2) (ob:=ob) n true
  have hobj:∀id ver,(⟨tm2,ob⟩:St).obj id ver=(⟨tm,ob⟩:St).obj id ver:=fun _ _=>rfl
  unfold give
  rw[h1,h2]
  rfl
theorem ZhK {P:Program} {cl:Cl} (hcl:DetC cl) {o:Oper} {tm tm2:List AV} {ob:List (Id×Nat×Obj)} (hev:∀x∈o.op.operands,(⟨tm2,ob⟩:St).ev x=(⟨tm,ob⟩:St).ev x):
  Fr2 (opD P cl o ⟨tm,ob⟩) (opD P cl o ⟨tm2,ob⟩) ⟨tm,ob⟩ ⟨tm2,ob⟩ o.dst:=by
 unfold opD
 cases hv:isV o.op with
 | true=>exact ZjU hv hev
 | false=>
  simp only[cond_false]
  split
  ·rename_i T x lo hi h
   rw[hev x (by rw[h];simp[Op.operands])]
   cases hs:slX ((⟨tm,ob⟩:St).ev x) lo with
   | false=>exact Fr2.fail
   | true=>exact Zgb h hs hev fun _ _ _=>rfl
  ·rename_i c h
   rw[h] at hev
   split
   ·rename_i f hc
    rw[hev f (by simp[Op.operands,Call.operands,hc])]
    split
    ·refine Fr2.cond ?_ Fr2.fail
     unfold callD
     rw[ZV (st:=⟨tm,ob⟩) (st2:=⟨tm2,ob⟩) c.args.toList (fun x hx=>hev x (by
      simp only[Op.operands,Call.operands,hc]
      simp at hx ⊢
      exact .inr hx)),ZiK (tm:=tm) (tm2:=tm2)]
     split
     ·exact Fr2.bind (hcl _ _) fun ans=>Fr2.cond (Fr2.pure _) Fr2.fail
     ·exact Fr2.fail
    ·exact Fr2.fail
   ·rename_i hc
    simp only[opA,h,hc]
    rw[ZV (st:=⟨tm,ob⟩) (st2:=⟨tm2,ob⟩) c.args.toList (fun x hx=>hev x (by
      simp only[Op.operands,Call.operands,hc]
      simpa using hx))]
    split
    ·refine Fr2.cond ?_ Fr2.fail
     have hlen:∀x,lenA ⟨tm2,ob⟩ x=lenA ⟨tm,ob⟩ x:=fun x=>by cases x <;> rfl
     rw[hlen]
     exact Fr2.bind Det.lenA fun v=>Fr2.pure _
    ·exact Fr2.fail
   ·rename_i hc
    simp only[opA,h,hc]
    rw[ZV (st:=⟨tm,ob⟩) (st2:=⟨tm2,ob⟩) c.args.toList (fun x hx=>hev x (by
      simp only[Op.operands,Call.operands,hc]
      simpa using hx))]
    split
    ·exact Fr2.bind Det.toI fun p=>Fr2.bind Det.toI fun q=>Fr2.pure _
    ·exact Fr2.fail
   ·rename_i hc
    simp only[opA,h,hc]
    rw[ZV (st:=⟨tm,ob⟩) (st2:=⟨tm2,ob⟩) c.args.toList (fun x hx=>hev x (by
      simp only[Op.operands,Call.operands,hc]
      simpa using hx))]
    split
    ·exact Fr2.bind Det.toI fun p=>Fr2.bind Det.toI fun q=>Fr2.pure _
    ·exact Fr2.fail
   ·exact Fr2.fail
  ·exact Fr2.fail
end Go.Ev
end

section
namespace Go.Ev
variable [Tabs] [Orgs]
open Go
theorem Zfo:∀(st:St) (args outs:List AV),outs.all isTop=true→backA st (args.zip outs)=some st
 | st,[],outs,_=>by simp[backA]
 | st,a :: ar,[],_=>by simp[backA]
 | st,a :: ar,o :: os,h=>by
  simp only[List.all_cons,Bool.and_eq_true] at h
  cases o <;> simp only[isTop] at h <;> first | (cases h.1;done) | skip
  rw[List.zip_cons_cons]
  have ih:=Zfo st ar os h.2
  cases a with
  | pt i v off=>cases off <;> exact ih
  | _=>exact ih
theorem ZfU:∀(outs:List AV),outs.all isTop=true→hasSl.anyB (hasSl 6) outs=false
 | [],_=>rfl
 | o :: os,h=>by
  simp only[List.all_cons,Bool.and_eq_true] at h
  cases o <;> simp only[isTop] at h <;> first | (cases h.1;done) | skip
  simp only[hasSl.anyB,ZfU os h.2]
  rfl
theorem ZkC {st:St} {id:Id} {r:AV} {n:Nat} (h:flatB r=true):imp (n+1) st id r=some (r,st):=by
 cases r <;> simp only[flatB] at h <;> first | (cases h;done) | (unfold imp;simp only[flatB,h];rfl)
theorem Ziw {cl:Cl} (hcl:DetC cl) {f:FuncId} {args:List AV} {dst:Option Nat} {st:St} {k:St→Option Ans} {y:Ans} (h:callD cl f args dst st k=some y):callA cl f args dst st k=some y:=by
 unfold callD at h
 unfold callA
 cases hg:allG (give st (takes cl f) 6) args with
 | none=>rw[hg] at h;cases h
 | some p=>
  obtain ⟨forms,is,os⟩:=p
  rw[hg] at h
  cases os with
  | cons x r=>cases h
  | nil=>
   simp only[nodupB,apartB,List.all_nil,Bool.and_true,cond_true] at h ⊢
   rcases hcl f forms with hd | ⟨⟨r,outs⟩,hd⟩
   ·simp only[M.bind,hd] at h;cases h
   ·simp only[M.bind,hd] at h ⊢
    cases hc:(flatB r&& !(hasSl 6 r)&&outs.all isTop) with
    | false=>rw[hc] at h;cases h
    | true=>
     rw[hc] at h
     simp only[Bool.and_eq_true,Bool.not_eq_true'] at hc
     obtain ⟨⟨h1,h2⟩,h3⟩:=hc
     simp only[h2,ZfU _ h3,Bool.or_self,cond_false,dropIds,Zfo _ _ _ h3]
     cases dst with
     | none=>exact h
     | some d=>simp only[ZkC h1];exact h
theorem Zlg {st:St} {b:Bool} {i v:Nat} {x:Given} (h:give st b 6 (.pt i v 0)=some x):x.2.2≠ []:=by
 have e:give st b 6 (.pt i v 0)=(match st.obj i v with
  | some (.box T cs _)=>(allG (give st true 5) cs).map fun (vs,is,os)=>(.bx T vs,is,i :: os)
  | _=>none):=rfl
 rw[e] at h
 split at h
 ·generalize allG (give st true 5) _=z at h
  cases z with
  | none=>cases h
  | some p=>
   obtain ⟨p1,p2,p3⟩:=p
   cases h
   exact List.cons_ne_nil _ _
 ·cases h
theorem ZgL {st:St} {b:Bool} {args forms:List AV} {x:AV} {is os:List Id} (hs:same2 args=some x) (hg:allG (give st b 6) args=some (forms,is,os)):os≠ []:=by
 obtain ⟨i,v,rfl,rfl⟩:=ZgP hs
 rw[allG] at hg
 obtain ⟨⟨y,i1,o1⟩,h1,h2⟩:=Option.bind_eq_some_iff.1 hg
 obtain ⟨⟨ys,i2,o2⟩,h3,h4⟩:=Option.map_eq_some_iff.1 h2
 have:=Zlg h1
 simp only[Prod.mk.injEq] at h4
 intro he
 rw[he] at h4
 simp at h4
 exact this h4.2.2.1
theorem ZiH {cl:Cl} (hcl:DetC cl) {f:FuncId} {args:List AV} {dst:Option Nat} {st:St} {k:St→Option Ans} {y:Ans} (h:callD cl f args dst st k=some y):callX cl f args dst st k=some y:=by
 unfold callX
 cases hs:same2 args with
 | none=>exact Ziw hcl h
 | some x=>
  exfalso
  unfold callD at h
  cases hg:allG (give st (takes cl f) 6) args with
  | none=>rw[hg] at h;cases h
  | some p=>
   obtain ⟨forms,is,os⟩:=p
   rw[hg] at h
   cases os with
   | cons a b=>cases h
   | nil=>exact ZgL hs hg rfl
theorem Zlf {P:Program} {cl:Cl} (hcl:DetC cl) {o:Oper} {st:St} {k:St→Option Ans} {y:Ans} (h:opD P cl o st k=some y):opA P cl o st k=some y:=by
 unfold opD at h
 cases hv:isV o.op with
 | true=>rw[hv] at h;exact h
 | false=>
  rw[hv] at h
  simp only[cond_false] at h
  cases hop:o.op <;> rw[hop] at h <;> first | (cases h;done) | skip
  case slice T x lo hi mx=>
   cases mx with
   | some m=>cases h
   | none=>
    simp only at h
    cases hs:slX (st.ev x) lo with
    | false=>rw[hs] at h;cases h
    | true=>rw[hs] at h;exact h
  rename_i c
  simp only at h
  cases hc:c.callee with
  | invoke r m=>rw[hc] at h;cases h
  | builtin b=>rw[hc] at h;cases b <;> first | exact h | (cases h;done)
  | value f=>
   rw[hc] at h
   simp only at h
   simp only[opA,hop,hc]
   cases hf:st.ev f with
   | cst u=>
    rw[hf] at h
    cases u with
    | func g first caps=>
     cases g with
     | func g=>
      simp only at h ⊢
      cases he:(first.isEmpty&&caps.isEmpty) with
      | false=>rw[he] at h;cases h
      | true=>rw[he] at h;exact ZiH hcl h
     | _=>cases h
    | _=>cases h
   | _=>rw[hf] at h;cases h
section
variable {P:Program} {Mod F0:Nat→Prop} {w0:World} {cl:Cl} {ops:Array Oper} {st0:St} {vs:Nat→AV}
def dstOf (ops:Array Oper) (i:Nat):Option Nat:=(ops[i]?).bind (·.dst)
def acc (ops:Array Oper) (st0:St) (vs:Nat→AV) (S:Nat→Bool):Nat→St
 | 0=>st0
 | n+1=>if S n then (acc ops st0 vs S n).put (dstOf ops n) (vs n) else acc ops st0 vs S n
theorem Zlu (st:St) (d:Option Nat) (v:AV):(st.put d v).ob=st.ob:=by cases d <;> rfl
theorem ZjQ (st:St) (d:Option Nat) (v:AV):(st.put d v).tm.length=st.tm.length:=by cases d <;> simp[St.put]
theorem Zk6 (S:Nat→Bool):∀n,(acc ops st0 vs S n).ob=st0.ob
 | 0=>rfl
 | n+1=>by unfold acc;split <;> simp[Zlu,Zk6 S n]
theorem Zf2 (S:Nat→Bool):∀n,(acc ops st0 vs S n).tm.length=st0.tm.length
 | 0=>rfl
 | n+1=>by unfold acc;split <;> simp[ZjQ,Zf2 S n]
theorem ZhY {st:St} {d:Option Nat} {v:AV} {t:Nat} (h:d≠some t):(st.put d v).tm.getD t .top=st.tm.getD t .top:=by
 cases d with
 | none=>rfl
 | some e=>
  have:e≠t:=fun x=>h (by rw[x])
  simp[St.put,List.getD_eq_getElem?_getD,List.getElem?_set_ne this]
theorem Zi0 {st st2:St} {v:AV} {t:Nat} (h:st.tm.length=st2.tm.length):(st.put (some t) v).tm.getD t .top=(st2.put (some t) v).tm.getD t .top:=by
 simp only[St.put,List.getD_eq_getElem?_getD,List.getElem?_set]
 simp[h]
theorem Zi7 {S T:Nat→Bool} {t:Nat} :∀n,(∀j,j < n→dstOf ops j=some t→S j=T j)→(acc ops st0 vs S n).tm.getD t .top=(acc ops st0 vs T n).tm.getD t .top
 | 0,_=>rfl
 | n+1,h=>by
  have ih:=Zi7 n fun j hj=>h j (by omega)
  unfold acc
  by_cases hd:dstOf ops n=some t
  ·rw[h n (by omega) hd,hd]
   split
   ·exact Zi0 (by rw[Zf2,Zf2])
   ·exact ih
  ·split <;> split <;> simp only[ZhY hd,ih]
theorem Zdo {S T:Nat→Bool} :∀n,(∀j,j < n→S j=T j)→acc ops st0 vs S n=acc ops st0 vs T n
 | 0,_=>rfl
 | n+1,h=>by
  unfold acc
  rw[h n (by omega),Zdo n fun j hj=>h j (by omega)]
theorem St.put_comm {st:St} {d e:Option Nat} {u v:AV} (h:∀t,d=some t→e≠some t):(st.put d u).put e v=(st.put e v).put d u:=by
 cases d with
 | none=>cases e <;> rfl
 | some t=>
  cases e with
  | none=>rfl
  | some s=>
   have:t≠s:=fun x=>h t rfl (by rw[x])
   simp[St.put,List.set_comm _ _ this]
def addS (S:Nat→Bool) (i:Nat):Nat→Bool:=fun j=>j==i || S j
theorem ZjC {S:Nat→Bool} {i:Nat} (hi:S i=false):∀n,i < n→(∀j,i < j→j < n→S j=true→∀t,dstOf ops i=some t→dstOf ops j≠some t)→
  (acc ops st0 vs S n).put (dstOf ops i) (vs i)=acc ops st0 vs (addS S i) n
 | 0,h,_=>by omega
 | n+1,h,hj=>by
  by_cases hin:i=n
  ·subst hin
   unfold acc
   rw[hi,if_neg (by simp),if_pos (by simp[addS]),Zdo (T:=addS S i) i fun j hj=>by simp[addS];intro e;omega]
  ·have ih:=ZjC hi n (by omega) fun j h1 h2=>hj j h1 (by omega)
   have hne:addS S i n=S n:=by simp[addS];intro e;omega
   unfold acc
   rw[hne]
   split
   ·rename_i hS
    rw[←ih,St.put_comm fun t ht=>hj n (by omega) (by omega) hS t ht]
   ·exact ih
def wantA (ops:Array Oper) (o:Oper) (st:St):Option Bool:=
 match o.guard with
 | none=>some true
 | some (j,want)=>match dstOf ops j with
  | none=>none
  | some t=>match st.tm.getD t .top with
   |.d .bool b=>some (b==want)
   |.cst u=>bif notBool u then some false else none
   | _=>none
def Step1 (P:Program) (cl:Cl) (ops:Array Oper) (o:Oper) (st:St) (v:AV):Prop:=
 (wantA ops o st=some true∧∀k,opD P cl o st k=k (st.put o.dst v))∨(wantA ops o st=some false∧v=sk)
def Chain (P:Program) (cl:Cl) (ops:Array Oper):List Oper→St→List AV→St→Prop
 | [],st,[],st'=>st'=st
 | o :: r,st,v :: vs,st'=>Step1 P cl ops o st v∧Chain P cl ops r (st.put o.dst v) vs st'
 | _,_,_,_=>False
theorem Zkk (hcl:DetC cl) (o:Oper) (st:St):(∀k,opD P cl o st k=none)∨∃v,∀k,opD P cl o st k=k (st.put o.dst v):=by
 rcases ZhK (P:=P) hcl (o:=o) (tm:=st.tm) (tm2:=st.tm) (ob:=st.ob) (fun _ _=>rfl) with h | ⟨v,h,_⟩
 ·exact .inl h
 ·exact .inr ⟨v,h⟩
theorem Ze4 (hcl:DetC cl) {k:St→Option Ans} {y:Ans} :∀(l:List Oper) (st:St),opsD P cl ops l st k=some y→∃vs st',Chain P cl ops l st vs st'∧k st'=some y
 | [],st,h=>⟨[],st,rfl,h⟩
 | o :: r,st,h=>by
  have run:wantA ops o st=some true→(opD P cl o st) (fun st=>opsD P cl ops r st k)=some y→∃vs st',Chain P cl ops (o :: r) st vs st'∧k st'=some y:=fun hw h=>by
   rcases Zkk (P:=P) hcl o st with hd | ⟨v,hd⟩
   ·rw[hd] at h;cases h
   ·rw[hd] at h
    obtain ⟨vs,st',hc,hk⟩:=Ze4 hcl r _ h
    exact ⟨v :: vs,st',⟨.inl ⟨hw,hd⟩,hc⟩,hk⟩
  have skip:wantA ops o st=some false→opsD P cl ops r (st.put o.dst sk) k=some y→∃vs st',Chain P cl ops (o :: r) st vs st'∧k st'=some y:=fun hw h=>by
   obtain ⟨vs,st',hc,hk⟩:=Ze4 hcl r _ h
   exact ⟨sk :: vs,st',⟨.inr ⟨hw,rfl⟩,hc⟩,hk⟩
  cases hg:o.guard with
  | none=>
   simp only[opsD,hg] at h
   exact run (by simp[wantA,hg]) h
  | some jw=>
   obtain ⟨j,want⟩:=jw
   cases ht:(ops[j]?).bind (·.dst) with
   | none=>simp only[opsD,hg,ht] at h;cases h
   | some t=>
    cases hb:st.tm.getD t .top with
    | d T b=>
     cases T with
     | bool=>
      have hset:({ st with tm:=st.tm.set t (.d .bool b) } :St)=st:=by
       cases st with
       | mk tmm obb=>simp only[St.mk.injEq,and_true];exact Zhs (st:=⟨tmm,obb⟩) hb (by simp)
      have hw:wantA ops o st=some (b==want):=by simp only[wantA,hg,dstOf,ht,hb]
      simp only[opsD,hg,ht,hb] at h
      cases b <;> cases want <;> simp only[M.bind,branch,cond_true,cond_false] at h <;> rw[hset] at h
      ·exact run hw h
      ·exact skip hw h
      ·exact skip hw h
      ·exact run hw h
     | _=>simp only[opsD,hg,ht,hb] at h;cases h
    | cst u=>
     simp only[opsD,hg,ht,hb] at h
     cases hn:notBool u with
     | false=>rw[hn] at h;cases h
     | true=>
      rw[hn] at h
      exact skip (by simp only[wantA,hg,dstOf,ht,hb,hn,cond_true]) h
    | _=>simp only[opsD,hg,ht,hb] at h;cases h
theorem ZfX {us0:List AV} :∀(l:List Oper) (i:Nat) (us:List AV) (st st':St),i≤ops.size→ops.toList.drop i=l→us0.drop i=us→Chain P cl ops l st us st'→st=acc ops st0 (fun j=>us0.getD j .top) (fun _=>true) i→
  st'=acc ops st0 (fun j=>us0.getD j .top) (fun _=>true) ops.size∧∀j o,i≤j→ops[j]? =some o→Step1 P cl ops o (acc ops st0 (fun j=>us0.getD j .top) (fun _=>true) j) (us0.getD j .top)
 | [],i,us,st,st',hi,hl,_,hc,hst=>by
  have hsz:ops.size=i:=by
   have:=congrArg List.length hl
   simp at this
   omega
  cases us with
  | nil=>
   simp only[Chain] at hc
   subst hc
   exact ⟨by rw[hsz];exact hst,fun j o hij ho=>by
    have:=(Array.getElem?_eq_some_iff.1 ho).1
    omega⟩
  | cons u us=>exact hc.elim
 | o :: r,i,[],st,st',_,hl,_,hc,hst=>hc.elim
 | o :: r,i,u :: us,st,st',hi,hl,hu,hc,hst=>by
  obtain ⟨h1,h2⟩:=hc
  have ho:ops[i]? =some o:=by
   have:(ops.toList.drop i)[0]? =some o:=by rw[hl];rfl
   simpa using this
  have hl':ops.toList.drop (i+1)=r:=by rw[←List.tail_drop,hl];rfl
  have hu':us0.drop (i+1)=us:=by rw[←List.tail_drop,hu];rfl
  have hui:us0.getD i .top=u:=by
   have:(us0.drop i)[0]? =some u:=by rw[hu];rfl
   rw[List.getElem?_drop] at this
   simp only[Nat.add_zero] at this
   rw[List.getD_eq_getElem?_getD,this];rfl
  have hst':st.put o.dst u=acc ops st0 (fun j=>us0.getD j .top) (fun _=>true) (i+1):=by
   unfold acc
   rw[if_pos rfl,←hst]
   simp only[hui,dstOf,ho,Option.bind_some]
  have hlt:=(Array.getElem?_eq_some_iff.1 ho).1
  obtain ⟨k1,k2⟩:=ZfX r (i+1) us _ st' (by omega) hl' hu' h2 hst'
  refine ⟨k1,fun j o' hij ho'=>?_⟩
  by_cases hji:i=j
  ·subst hji
   rw[ho] at ho'
   cases ho'
   rw[←hst,hui]
   exact h1
  ·exact k2 j o' (by omega) ho'
theorem ZeY:∀(l:List Oper) (a:List Nat) (j:Nat),j < a.length→(aheads l a).getD j 0=a.getD j 0
 | [],_,_,_=>rfl
 | o :: r,a,j,h=>by
  unfold aheads
  rw[ZeY r _ j (by simp;omega)]
  simp[List.getD_eq_getElem?_getD,List.getElem?_append_left h]
theorem Zi5 {acc:List Nat} {i:Nat} :∀(es:List Edge) (s:Nat),Nat.testBit (es.foldl (fun s e=>bif Region.binds .any e then s ||| 2 ^ e.on ||| acc.getD e.on 0 else s) s) i=true→
  Nat.testBit s i=true∨∃e∈es,Region.binds .any e=true∧(e.on=i∨Nat.testBit (acc.getD e.on 0) i=true)
 | [],s,h=>.inl h
 | e :: es,s,h=>by
  rw[List.foldl_cons] at h
  rcases Zi5 es _ h with h | ⟨e',he',h⟩
  ·cases hb:Region.binds .any e with
   | false=>rw[hb] at h;exact .inl h
   | true=>
    rw[hb] at h
    simp only[cond_true,Nat.testBit_or,Bool.or_eq_true] at h
    rcases h with (h | h) | h
    ·exact .inl h
    ·refine .inr ⟨e,by simp,hb,.inl ?_⟩
     rw[Nat.testBit_two_pow] at h
     simpa using h
    ·exact .inr ⟨e,by simp,hb,.inr h⟩
  ·exact .inr ⟨e',by simp[he'],h⟩
theorem ZdE:∀(l:List Oper) (a:List Nat) (j i:Nat),a.length≤j→Nat.testBit ((aheads l a).getD j 0) i=true→
  ∃o,l[j - a.length]? =some o∧∃e∈o.after.toList,Region.binds .any e=true∧(e.on=i∨(e.on < j∧Nat.testBit ((aheads l a).getD e.on 0) i=true))
 | [],a,j,i,hj,h=>by
  simp only[aheads] at h
  rw[List.getD_eq_getElem?_getD,List.getElem?_eq_none hj] at h
  simp at h
 | o :: r,a,j,i,hj,h=>by
  unfold aheads at h ⊢
  by_cases hja:j=a.length
  ·subst hja
   rw[ZeY r _ _ (by simp)] at h
   have hget:(a++[o.after.toList.foldl (fun s e=>bif Region.binds .any e then s ||| 2 ^ e.on ||| a.getD e.on 0 else s) 0]).getD a.length 0=o.after.toList.foldl (fun s e=>bif Region.binds .any e then s ||| 2 ^ e.on ||| a.getD e.on 0 else s) 0:=by
    simp[List.getD_eq_getElem?_getD]
   rw[hget] at h
   rcases Zi5 _ _ h with h | ⟨e,he,hb,h⟩
   ·simp at h
   ·refine ⟨o,by simp,e,he,hb,h.imp id fun h=>?_⟩
    have hlt:e.on < a.length:=by
     rcases Nat.lt_or_ge e.on a.length with h' | h'
     ·exact h'
     ·rw[List.getD_eq_getElem?_getD,List.getElem?_eq_none h'] at h;simp at h
    refine ⟨hlt,?_⟩
    rw[ZeY r _ _ (by simp;omega)]
    simpa[List.getD_eq_getElem?_getD,List.getElem?_append_left hlt] using h
  ·obtain ⟨o',h1,h2⟩:=ZdE r _ j i (by simp;omega) h
   refine ⟨o',?_,h2⟩
   rw[show j - a.length=(j - (a.length+1))+1 by omega]
   simpa using h1
def Closed (ops:Array Oper) (S:Nat→Bool):Prop:=∀j o,ops[j]? =some o→S j=true→∀e∈o.after,Region.binds .any e=true→S e.on=true
theorem ZaA {S:Nat→Bool} (hS:Closed ops S):∀(j i:Nat),S j=true→Nat.testBit ((aheads ops.toList []).getD j 0) i=true→S i=true:=by
 intro j
 induction j using Nat.strongRecOn with
 | _ j ih=>
  intro i hj h
  obtain ⟨o,ho,e,he,hb,h⟩:=ZdE ops.toList [] j i (by simp) h
  have ho':ops[j]? =some o:=by simpa using ho
  have hon:=hS j o ho' hj e (by simpa using he) hb
  rcases h with h | ⟨hlt,h⟩
  ·rw[←h];exact hon
  ·exact ih e.on hlt i hon h
theorem Zaz (h:drawOK ops=true):∀j o,ops[j]? =some o→(∀e∈o.after,Region.binds .any e=true→e.on < j)∧
  ∀i p,i < j→ops[i]? =some p→Nat.testBit ((aheads ops.toList []).getD j 0) i=true∨p.apart ops o=true:=by
 intro j o ho
 have hlt:=(Array.getElem?_eq_some_iff.1 ho).1
 have h1:=List.all_eq_true.1 h j (by simp[hlt])
 rw[ho] at h1
 simp only[Bool.and_eq_true] at h1
 obtain ⟨h2,h3⟩:=h1
 refine ⟨fun e he hb=>?_,fun i p hij hp=>?_⟩
 ·have:=List.all_eq_true.1 h2 e (by simpa using he)
  rw[hb] at this
  simp only[Bool.not_true,Bool.false_or] at this
  exact Nat.le_of_ble_eq_true this
 ·have:=List.all_eq_true.1 h3 i (by simp[hij])
  rw[hp] at this
  simpa using this
end
end Go.Ev
end

section
namespace Go.Ev
variable [Tabs] [Orgs]
open Go
theorem Zge {p p':Nat→Bool} {i:Nat} (hp:∀j,p' j=true→p j=true) (h1:p i=true) (h2:p' i=false):∀l:List Nat,i∈l→l.countP p' < l.countP p
 | [],h=>by cases h
 | x :: r,h=>by
  have hle:r.countP p'≤r.countP p:=List.countP_mono_left fun j _=>hp j
  by_cases hx:x=i
  ·subst hx
   rw[List.countP_cons_of_pos h1,List.countP_cons_of_neg (by simp[h2])]
   omega
  ·have ih:=Zge hp h1 h2 r ((List.mem_cons.1 h).resolve_left fun e=>hx e.symm)
   rw[List.countP_cons,List.countP_cons]
   cases hpx:p' x with
   | true=>rw[hp x hpx];simpa using ih
   | false=>cases p x <;> simp <;> omega
section
variable {P:Program} {Mod F0:Nat→Prop} {w0:World} {cl:Cl} {ops:Array Oper} {st0:St} {vs:Nat→AV}
theorem ZeK {st:St} {a:Act} {w:World} {o:Oper} {b:Bool} (hr:Rel Mod F0 w0 st a w) (h:wantA ops o st=some b):Region.wanted o (yielded ops a.tmps)=b:=by
 unfold wantA at h
 unfold Region.wanted
 cases hg:o.guard with
 | none=>rw[hg] at h;cases h;rfl
 | some jw=>
  obtain ⟨j,want⟩:=jw
  rw[hg] at h
  simp only at h ⊢
  cases ht:dstOf ops j with
  | none=>rw[ht] at h;cases h
  | some t=>
   rw[ht] at h
   simp only at h
   split at h
   ·rename_i c hc
    cases h
    obtain ⟨_,F,ρ,hR,_⟩:=hr
    have h1:=Zg hR (.tmp t)
    simp only[St.ev] at h1
    rw[hc] at h1
    have h2:=Zat h1
    simp only[Act.eval] at h2
    have hy:yielded ops a.tmps j=some c:=by
     unfold yielded
     rw[show (ops[j]?).bind (·.dst)=some t from ht]
     simp only[Option.bind_some]
     rw[Array.getD_eq_getD_getElem?] at h2
     cases he:a.tmps[t]? with
     | none=>rw[he] at h2;simp[undef] at h2
     | some v=>rw[he] at h2;simp only[Option.getD_some] at h2;rw[h2]
    rw[hy]
    cases c <;> cases want <;> rfl
   ·rename_i u hc
    cases hn:notBool u with
    | false=>rw[hn] at h;cases h
    | true=>
     rw[hn] at h
     cases h
     obtain ⟨_,F,ρ,hR,_⟩:=hr
     have h1:=Zg hR (.tmp t)
     simp only[St.ev] at h1
     rw[hc] at h1
     have h2:=Zf4 h1
     simp only[Act.eval] at h2
     have hy:yielded ops a.tmps j=none:=by
      unfold yielded
      rw[show (ops[j]?).bind (·.dst)=some t from ht]
      simp only[Option.bind_some]
      rw[Array.getD_eq_getD_getElem?] at h2
      cases he:a.tmps[t]? with
      | none=>rfl
      | some v=>
       rw[he] at h2
       simp only[Option.getD_some] at h2
       subst h2
       cases v <;> first | rfl | (simp[notBool] at hn)
     rw[hy]
     cases want <;> rfl
   ·cases h
theorem Zk8 {i:Nat} :∀n,i≤n→acc ops st0 vs (fun j=>decide (j < i)) n=acc ops st0 vs (fun _=>true) i
 | 0,h=>by
  obtain rfl:i=0:=by omega
  rfl
 | n+1,h=>by
  by_cases hi:i=n+1
  ·subst hi
   exact Zdo _ fun j hj=>by simpa using hj
  ·rw[←Zk8 n (by omega)]
   conv=>lhs;unfold acc
   rw[if_neg (by simp;omega)]
theorem Zk9 {st st2:St} {d:Option Nat} {u v:AV} (h:st.put d u=st.put d v) (hl:st.tm.length=st2.tm.length):st2.put d u=st2.put d v:=by
 cases d with
 | none=>rfl
 | some t=>
  by_cases ht:t < st.tm.length
  ·have:u=v:=by
    have h1:(st.put (some t) u).tm[t]? =(st.put (some t) v).tm[t]?:=by rw[h]
    simpa[St.put,ht] using h1
   rw[this]
  ·have h2:¬t < st2.tm.length:=by omega
   simp[St.put,List.set_eq_of_length_le (Nat.le_of_not_lt h2)]
open Classical in
theorem Zli (hcl:Spec P cl) (hdet:DetC cl) {y:Ans} {k:St→Option Ans} {Q:Exit→Act→World→Prop} (hQ:∀st a w,Rel Mod F0 w0 st a w→k st=some y→Q .normal a w)
  (hok:drawOK ops=true) (hsteps:∀j o,ops[j]? =some o→Step1 P cl ops o (acc ops st0 vs (fun _=>true) j) (vs j)) (hk:k (acc ops st0 vs (fun _=>true) ops.size)=some y):
  ∀(fuel:Nat) (listed:Array Bool) (a:Act) (w:World),listed.size=ops.size→Closed ops (fun j=>listed.getD j false)→(List.range ops.size).countP (fun j=>!listed.getD j true)≤fuel→
   Rel Mod F0 w0 (acc ops st0 vs (fun j=>listed.getD j false) ops.size) a w→wpAny P .any ops Q fuel listed a w:=by
 have hget:∀(listed:Array Bool) j,j < listed.size→listed.getD j true=listed.getD j false:=fun listed j hj=>by simp[hj]
 have allDone:∀(listed:Array Bool) a w,listed.size=ops.size→(∀j,j < ops.size→listed.getD j false=true)→Rel Mod F0 w0 (acc ops st0 vs (fun j=>listed.getD j false) ops.size) a w→Q .normal a w:=by
  intro listed a w hs hall hr
  rw[Zdo (T:=fun _=>true) ops.size hall] at hr
  exact hQ _ a w hr hk
 have ofReady:∀(listed:Array Bool),listed.size=ops.size→Region.ready .any ops listed=[]→∀j,j < ops.size→listed.getD j false=true:=by
  intro listed hs hr j
  induction j using Nat.strongRecOn with
  | _ j ih=>
   intro hj
   cases hl:listed.getD j false with
   | true=>rfl
   | false=>
    have:j∈Region.ready .any ops listed:=by
     rw[mem_ready]
     refine ⟨by rw[hget listed j (by omega)];exact hl,ops[j],by simp[hj],fun e he hb=>?_⟩
     have:=((Zaz hok) j ops[j] (by simp[hj])).1 e he hb
     exact ih e.on this (by omega)
    rw[hr] at this
    cases this
 have step:∀(K:Array Bool→Act→World→Prop) (listed:Array Bool) (a:Act) (w:World) (i:Nat),listed.size=ops.size→Closed ops (fun j=>listed.getD j false)→
   Rel Mod F0 w0 (acc ops st0 vs (fun j=>listed.getD j false) ops.size) a w→i∈Region.ready .any ops listed→
   (∀a' w',Closed ops (fun j=>(listed.setIfInBounds i true).getD j false)→Rel Mod F0 w0 (acc ops st0 vs (fun j=>(listed.setIfInBounds i true).getD j false) ops.size) a' w'→K (listed.setIfInBounds i true) a' w')→
   wpOp P ops Q i (K (listed.setIfInBounds i true)) a w:=by
  intro K listed a w i hs hcld hr hi hK
  obtain ⟨hun,o,ho,hpre⟩:=mem_ready.1 hi
  have hlt:=(Array.getElem?_eq_some_iff.1 ho).1
  have hSi:listed.getD i false=false:=by rw[←hget listed i (by omega)];exact hun
  have hdi:dstOf ops i=o.dst:=by simp[dstOf,ho]
  have hslot:∀t∈o.looksAt ops,(acc ops st0 vs (fun j=>listed.getD j false) ops.size).tm.getD t .top=(acc ops st0 vs (fun _=>true) i).tm.getD t .top:=by
   intro t ht
   rw[←Zk8 (i:=i) ops.size (by omega)]
   refine Zi7 ops.size fun j hj hdj=>?_
   obtain ⟨p,hp⟩:∃p,ops[j]? =some p:=⟨ops[j],by simp[hj]⟩
   have hpd:p.dst=some t:=by simpa[dstOf,hp] using hdj
   rcases Nat.lt_trichotomy j i with hji | hji | hji
   ·rw[decide_eq_true hji]
    rcases (Zaz hok i o ho).2 j p hji hp with hb | hap
    ·obtain ⟨o2,ho2,e,he,hbnd,h⟩:=ZdE ops.toList [] i j (by simp) hb
     have:o2=o:=by
      simp only[List.length_nil,Nat.sub_zero,Array.getElem?_toList] at ho2
      rw[ho] at ho2
      cases ho2;rfl
     subst this
     have hon:=hpre e (by simpa using he) hbnd
     rcases h with h | ⟨_,h⟩
     ·rw[←h];exact hon
     ·exact ZaA hcld e.on j hon h
    ·exact absurd ht ((Oper.apart_spec hap).1 t hpd)
   ·subst hji
    rw[hSi]
    simp
   ·rw[decide_eq_false (by omega)]
    cases hSj:listed.getD j false with
    | false=>rfl
    | true=>
     rcases (Zaz hok j p hp).2 i o hji ho with hb | hap
     ·have:listed.getD i false=true:=ZaA hcld j i hSj hb
      rw[hSi] at this
      cases this
     ·exact absurd ht ((Oper.apart_spec hap).2.2 t hpd)
  have hev:∀x∈o.op.operands,(acc ops st0 vs (fun j=>listed.getD j false) ops.size).ev x=(acc ops st0 vs (fun _=>true) i).ev x:=by
   intro x hx
   cases x with
   | tmp t=>exact hslot t (List.mem_append_left _ (List.mem_filterMap.2 ⟨.tmp t,by simpa using hx,rfl⟩))
   | _=>rfl
  have hwant:wantA ops o (acc ops st0 vs (fun j=>listed.getD j false) ops.size)=wantA ops o (acc ops st0 vs (fun _=>true) i):=by
   unfold wantA
   cases hg:o.guard with
   | none=>rfl
   | some jw=>
    obtain ⟨g,want⟩:=jw
    simp only
    cases ht:dstOf ops g with
    | none=>rfl
    | some t=>
     simp only
     rw[hslot t (by
      unfold Oper.looksAt
      rw[hg]
      refine List.mem_append_right _ ?_
      simp only
      rw[show (ops[g]?).bind (·.dst)=some t from ht]
      simp)]
  have hadd:(acc ops st0 vs (fun j=>listed.getD j false) ops.size).put o.dst (vs i)=acc ops st0 vs (fun j=>(listed.setIfInBounds i true).getD j false) ops.size:=by
   rw[←hdi,ZjC hSi ops.size hlt fun j hij hj hSj t ht hdj=>?_]
   ·refine Zdo _ fun j hj=>?_
    simp only[addS]
    by_cases hji:j=i
    ·subst hji;simp[hs,hlt]
    ·rw[getD_set_ne false (Ne.symm hji)];simp[hji]
   ·obtain ⟨p,hp⟩:∃p,ops[j]? =some p:=⟨ops[j],by simp[hj]⟩
    rcases (Zaz hok j p hp).2 i o hij ho with hb | hap
    ·have:listed.getD i false=true:=ZaA hcld j i hSj hb
     rw[hSi] at this
     cases this
    ·exact (Oper.apart_spec hap).2.1 t (by rw[←hdi];exact ht) (by simpa[dstOf,hp] using hdj)
  have hcld':Closed ops (fun j=>(listed.setIfInBounds i true).getD j false):=by
   intro j p hp hj e he hb
   by_cases hji:j=i
   ·subst hji
    rw[ho] at hp
    cases hp
    exact getD_set_true (hpre e he hb)
   ·simp only at hj
    rw[getD_set_ne false (Ne.symm hji)] at hj
    exact getD_set_true (hcld j p hp hj e he hb)
  unfold wpOp
  simp only[ho]
  rcases hsteps i o ho with ⟨hw,hop⟩ | ⟨hw,hv⟩
  ·rw[if_pos (ZeK hr (by rw[hwant];exact hw))]
   refine .inl ?_
   have hob:∀S n,(acc ops st0 vs S n)=⟨(acc ops st0 vs S n).tm,st0.ob⟩:=fun S n=>by
    have:=Zk6 (ops:=ops) (st0:=st0) (vs:=vs) S n
    cases h:acc ops st0 vs S n with
    | mk tm ob=>rw[h] at this;simp only at this;rw[this]
   have hfr:=ZhK (P:=P) hdet (o:=o) (tm:=(acc ops st0 vs (fun _=>true) i).tm) (tm2:=(acc ops st0 vs (fun j=>listed.getD j false) ops.size).tm) (ob:=st0.ob) (by rw[←hob,←hob];exact hev)
   rw[←hob,←hob] at hfr
   rcases hfr with hn | ⟨v,h1,h2⟩
   ·have:=hop fun _=>some y
    rw[hn] at this
    cases this
   ·have e1:(acc ops st0 vs (fun _=>true) i).put o.dst v=(acc ops st0 vs (fun _=>true) i).put o.dst (vs i):=by
     have:=h1 fun s=>if s=(acc ops st0 vs (fun _=>true) i).put o.dst (vs i) then some y else none
     rw[hop,if_pos rfl] at this
     exact Classical.byContradiction fun hne=>by rw[if_neg hne] at this;cases this
    have e2:=Zk9 (st2:=acc ops st0 vs (fun j=>listed.getD j false) ops.size) e1 (by rw[Zf2,Zf2])
    have h3:=h2 fun s=>if s=(acc ops st0 vs (fun j=>listed.getD j false) ops.size).put o.dst (vs i) then some y else none
    rw[e2,if_pos rfl] at h3
    refine Oper.wp_mono (fun a' w' h'=>?_) (Zhc hcl (Zlf hdet h3) hr Q)
    obtain ⟨st',hr',hst'⟩:=h'
    have:st'=(acc ops st0 vs (fun j=>listed.getD j false) ops.size).put o.dst (vs i):=Classical.byContradiction fun hne=>by rw[if_neg hne] at hst';cases hst'
    subst this
    rw[hadd] at hr'
    exact hK a' w' hcld' hr'
  ·have hwn:=ZeK hr (by rw[hwant];exact hw)
   rw[if_neg (by rw[hwn];decide)]
   have hr':=ZhN hr o.dst
   rw[←hv,hadd] at hr'
   exact hK _ w hcld' hr'
 intro fuel
 induction fuel with
 | zero=>
  intro listed a w hs hcld hcnt hr
  have hall:∀j,j < ops.size→listed.getD j false=true:=fun j hj=>by
   have:=List.countP_eq_zero.1 (Nat.le_zero.1 hcnt) j (by simp[hj])
   rw[hget listed j (by omega)] at this
   simpa using this
  refine ⟨List.eq_nil_iff_forall_not_mem.2 fun j hj=>?_,allDone listed a w hs hall hr⟩
  obtain ⟨h1,o,ho,_⟩:=mem_ready.1 hj
  have hlt:=(Array.getElem?_eq_some_iff.1 ho).1
  rw[hget listed j (by omega),hall j hlt] at h1
  cases h1
 | succ fuel ih=>
  intro listed a w hs hcld hcnt hr
  refine ⟨fun h=>allDone listed a w hs (ofReady listed hs h) hr,fun i hi=>step (fun listed=>wpAny P .any ops Q fuel listed) listed a w i hs hcld hr hi fun a' w' hc' hr'=>?_⟩
  refine ih _ a' w' (by simpa using hs) hc' ?_ hr'
  obtain ⟨hun,o,ho,_⟩:=mem_ready.1 hi
  have hlt:=(Array.getElem?_eq_some_iff.1 ho).1
  have:=Zge (p:=fun j=>!listed.getD j true) (p':=fun j=>!(listed.setIfInBounds i true).getD j true) (i:=i) (fun j hj=>by
   by_cases hji:i=j
   ·subst hji;simp[hs,hlt] at hj
   ·rw[getD_set_ne true hji] at hj;exact hj) (by simpa using hun) (by simp[hs,hlt]) (List.range ops.size) (by simp[hlt])
  omega
theorem ZkV (hcl:Spec P cl) (hdet:DetC cl) {id:Nat} {y:Ans} {k:St→Option Ans} {Q:Exit→Act→World→Prop} (hQ:∀st a w,Rel Mod F0 w0 st a w→k st=some y→Q .normal a w)
  (hm:P.follows .mixedOrders=true) (hok:drawOK ops=true) {st:St} {a:Act} {w:World} (h:opsD P cl ops ops.toList st k=some y) (hr:Rel Mod F0 w0 st a w):(Code.region id ops true).wp P Q a w:=by
 obtain ⟨us,st',hc,hk⟩:=Ze4 hdet ops.toList st h
 obtain ⟨h1,h2⟩:=ZfX (st0:=st) (us0:=us) ops.toList 0 us st st' (Nat.zero_le _) rfl rfl hc rfl
 subst h1
 refine wp_region_any hm (Zli hcl hdet hQ hok (fun j o ho=>h2 j o (Nat.zero_le _) ho) hk ops.size (Array.replicate ops.size false) a _ (by simp) ?_ (Nat.le_trans List.countP_le_length (by simp)) ?_)
 ·intro j o ho hj
  by_cases hlt:j < ops.size <;> simp[hlt] at hj
 ·have:acc ops st (fun j=>us.getD j .top) (fun j=>(Array.replicate ops.size false).getD j false) ops.size=st:=by
   have:∀n,acc ops st (fun j=>us.getD j .top) (fun j=>(Array.replicate ops.size false).getD j false) n=st:=by
    intro n
    induction n with
    | zero=>rfl
    | succ n ih=>
     unfold acc
     rw[if_neg,ih]
     by_cases hlt:n < ops.size <;> simp[hlt]
   exact this _
  rw[this]
  obtain ⟨hd,F,ρ,hR,hE⟩:=hr
  have hE':Evo (fun _=>False) F w F { w with drawn:=w.drawn+1 } :=⟨rfl,rfl,rfl,Nat.le_refl _,fun _ h=>h,fun _ h=>.inl h,fun _ _ _=>rfl⟩
  obtain ⟨hR',hE2⟩:=hR.world hE' (fun _ h=>h.elim) (fun _ _ h=>h) hR.low
  exact ⟨hd,F,ρ,hR',hE.trans hE2⟩
end
end Go.Ev
end

section
namespace Go.Ev
variable [Tabs] [Orgs]
open Go
theorem Zco (id:Nat) (p:Nat×Obj) (x:Nat) (u:Nat×Obj) (r:List (Nat×Nat×Obj)):ins id p ((x,u) :: r)=if x=id then (id,p) :: r else if id≤x then (id,p) :: (x,u) :: r else (x,u) :: ins id p r:=by
 simp only[ins]
 by_cases h1:x=id
 ·subst h1;simp
 ·rw[ZdN h1,if_neg h1]
  by_cases h2:id≤x
  ·rw[Nat.ble_eq_true_of_le h2,if_pos h2];rfl
  ·rw[if_neg h2]
   have:Nat.ble id x=false:=by rw[Bool.eq_false_iff];intro e;exact h2 (Nat.le_of_ble_eq_true e)
   rw[this];rfl
theorem ZjH {i j:Nat} (h:i < j) (p q:Nat×Obj):∀l:List (Nat×Nat×Obj),ins i p (ins j q l)=ins j q (ins i p l)
 | []=>by
  have a1:¬j=i:=by omega
  have a2:i≤j:=by omega
  have a3:¬i=j:=by omega
  have a4:¬j≤i:=by omega
  show ins i p [(j,q)]=ins j q [(i,p)]
  simp only[Zco,a1,a2,a3,a4,if_true,if_false]
  rfl
 | (x,u) :: r=>by
  have ih:=ZjH h p q r
  have b1:¬j=i:=by omega
  have b2:i≤j:=by omega
  have b3:¬i=j:=by omega
  have b4:¬j≤i:=by omega
  rcases Nat.lt_trichotomy x i with hx | hx | hx
  ·have a1:¬x=i:=by omega
   have a2:¬x=j:=by omega
   have a3:¬i≤x:=by omega
   have a4:¬j≤x:=by omega
   simp only[Zco,a1,a2,a3,a4,if_false,ih]
  ·subst hx
   simp only[Zco,b1,b2,b3,b4,if_false,if_true]
  ·have a1:¬x=i:=by omega
   have a3:i≤x:=by omega
   rcases Nat.lt_trichotomy x j with hy | hy | hy
   ·have a2:¬x=j:=by omega
    have a4:¬j≤x:=by omega
    simp only[Zco,a1,a2,a3,a4,b1,b2,b3,b4,if_false,if_true]
   ·subst hy
    simp only[Zco,a1,a3,b1,b2,b3,b4,if_false,if_true]
   ·have a2:¬x=j:=by omega
    have a4:j≤x:=by omega
    simp only[Zco,a1,a2,a3,a4,b1,b2,b3,b4,if_false,if_true]
theorem Zkt {i j:Nat} (h:i≠j) (p q:Nat×Obj) (l:List (Id×Nat×Obj)):ins i p (ins j q l)=ins j q (ins i p l):=by
 rcases Nat.lt_or_gt_of_ne h with h | h
 ·exact ZjH h p q l
 ·exact (ZjH h q p l).symm
abbrev Obs:=List (Id×Nat×Obj)
def insAll:Obs→Obs→Obs
 | [],l=>l
 | p :: r,l=>insAll r (ins p.1 p.2 l)
theorem ZgM {i:Id} {q:Nat×Obj} :∀ {o:Obs} {l:Obs},(∀p∈o,p.1≠i)→insAll o (ins i q l)=ins i q (insAll o l)
 | [],l,_=>rfl
 | p :: r,l,h=>by
  unfold insAll
  rw[Zkt (h p (by simp)),ZgM fun x hx=>h x (by simp[hx])]
theorem Zga:∀ {o o':Obs} {l:Obs},(∀p∈o,∀p'∈o',p.1≠p'.1)→insAll o (insAll o' l)=insAll o' (insAll o l)
 | [],o',l,_=>rfl
 | p :: r,o',l,h=>by
  show insAll r (ins p.1 p.2 (insAll o' l))=insAll o' (insAll r (ins p.1 p.2 l))
  rw[←ZgM (o:=o') fun x hx=>(h p (by simp) x hx).symm,Zga fun x hx=>h x (by simp[hx])]
theorem Zae:∀ {o o' l:Obs},insAll (o++o') l=insAll o' (insAll o l)
 | [],_,_=>rfl
 | p :: r,o',l=>by
  show insAll (r++o') _=insAll o' (insAll r _)
  exact Zae
theorem ZaU {id:Id} :∀ {o l:Obs},(∀p∈o,p.1≠id)→find id (insAll o l)=find id l
 | [],_,_=>rfl
 | p :: r,l,h=>by
  unfold insAll
  rw[ZaU fun x hx=>h x (by simp[hx]),Zcr,if_neg (h p (by simp)).symm]
theorem Z4 {id:Id} :∀ {o l l':Obs},find id l=find id l'→find id (insAll o l)=find id (insAll o l')
 | [],_,_,h=>h
 | p :: r,l,l',h=>by
  unfold insAll
  refine Z4 ?_
  rw[Zcr,Zcr,h]
def app (o:Obs) (d:Option Nat) (v:AV) (st:St):St:=(⟨st.tm,insAll o st.ob⟩:St).put d v
theorem ZgR {o:Obs} {d:Option Nat} {v:AV} {st:St} :(app o d v st).tm=(st.put d v).tm:=by cases d <;> rfl
theorem ZdV {o:Obs} {d:Option Nat} {v:AV} {st:St} :(app o d v st).ob=insAll o st.ob:=by cases d <;> rfl
theorem Zlt {d:Option Nat} {v:AV} {st:St} :app [] d v st=st.put d v:=rfl
theorem ZkW {o o':Obs} {d e:Option Nat} {u v:AV} {st:St} (h:∀p∈o,∀p'∈o',p.1≠p'.1) (hd:∀t,d=some t→e≠some t):app o d u (app o' e v st)=app o' e v (app o d u st):=by
 have e1:(app o d u (app o' e v st)).ob=(app o' e v (app o d u st)).ob:=by rw[ZdV,ZdV,ZdV,ZdV,Zga h]
 have e2:(app o d u (app o' e v st)).tm=(app o' e v (app o d u st)).tm:=by
  cases d with
  | none=>cases e <;> rfl
  | some t=>
   cases e with
   | none=>rfl
   | some s=>
    have hts:t≠s:=fun x=>hd t rfl (by rw[x])
    show (st.tm.set s v).set t u=(st.tm.set t u).set s v
    exact (List.set_comm _ _ hts).symm
 cases h1:app o d u (app o' e v st) with
 | mk a b=>
  cases h2:app o' e v (app o d u st) with
  | mk a' b'=>rw[h1,h2] at e1 e2;simp only at e1 e2;rw[e1,e2]
def agr (X:List Id) (st st2:St):Prop:=∀id∈X,find id st2.ob=find id st.ob
theorem agr.obj {X:List Id} {st st2:St} (h:agr X st st2) {id:Id} (hi:id∈X) (ver:Nat):st2.obj id ver=st.obj id ver:=by unfold St.obj;rw[h id hi]
theorem agr.nextVer {X:List Id} {st st2:St} (h:agr X st st2) {id:Id} (hi:id∈X):st2.nextVer id=st.nextVer id:=by unfold St.nextVer;rw[h id hi]
theorem agr.sub {X Y:List Id} {st st2:St} (h:agr X st st2) (hs:∀id∈Y,id∈X):agr Y st st2:=fun id hi=>h id (hs id hi)
def Fr3 (m m2:M St) (W:List Id) (st st2:St) (d:Option Nat):Prop:=
 (∀k,m k=none)∨∃v o,(∀p∈o,p.1∈W)∧(∀k,m k=k (app o d v st))∧∀k,m2 k=k (app o d v st2)
section
variable {W:List Id} {st st2:St} {d:Option Nat}
theorem Fr3.of2 {m m2:M St} (h:Fr2 m m2 st st2 d):Fr3 m m2 W st st2 d:=h.imp id fun ⟨v,h1,h2⟩=>⟨v,[],fun p hp=>by simp at hp,h1,h2⟩
theorem Fr3.fail {m2:M St} :Fr3 fail m2 W st st2 d:=.inl fun _=>rfl
theorem Fr3.upd {o:Obs} {v:AV} (h:∀p∈o,p.1∈W):Fr3 (M.pure (app o d v st)) (M.pure (app o d v st2)) W st st2 d:=.inr ⟨v,o,h,fun _=>rfl,fun _=>rfl⟩
theorem Fr3.guard {b:Bool} {m m2:M St} (h:Fr3 m m2 W st st2 d):Fr3 (fun k=>bif b then m k else none) (fun k=>bif b then m2 k else none) W st st2 d:=by
 cases b
 ·exact .inl fun _=>rfl
 ·exact h
theorem Fr3.cond {b:Bool} {m n m2 n2:M St} (h:Fr3 m m2 W st st2 d) (h':Fr3 n n2 W st st2 d):Fr3 (bif b then m else n) (bif b then m2 else n2) W st st2 d:=by cases b <;> assumption
theorem Fr3.bind {α:Type} {m:M α} (h:Det m) {f g:α→M St} (hf:∀a,Fr3 (f a) (g a) W st st2 d):Fr3 (M.bind m f) (M.bind m g) W st st2 d:=by
 rcases h with h | ⟨a,h⟩
 ·exact .inl fun k=>h _
 ·rcases hf a with h' | ⟨v,o,h0,h1,h2⟩
  ·exact .inl fun k=>(h _).trans (h' k)
  ·exact .inr ⟨v,o,h0,fun k=>(h _).trans (h1 k),fun k=>(h _).trans (h2 k)⟩
end
theorem Zem {x:AV} {id:Id} (h:id∈men1 x):id∈men x:=by cases x <;> first | exact h | (simp[men1] at h)
theorem ZdC {x:AV} {id:Id} :∀ {l:List AV},x∈l→id∈men1 x→id∈menL l
 | y :: r,h,hi=>by
  unfold menL
  rcases List.mem_cons.1 h with rfl | h
  ·exact List.mem_append_left _ hi
  ·exact List.mem_append_right _ (ZdC h hi)
theorem Zfh {st:St} {x:Operand} {id:Id} :∀ {l:List Operand},x∈l→id∈men (st.ev x)→id∈menOps st l
 | y :: r,h,hi=>by
  unfold menOps
  rcases List.mem_cons.1 h with rfl | h
  ·exact List.mem_append_left _ hi
  ·exact List.mem_append_right _ (Zfh h hi)
section
variable {P:Program} {cl:Cl} {o:Oper} {st st2:St} {X:List Id}
theorem Zjo (h:agr X st st2) {x:AV} (hx:∀id∈men1 x,id∈X):behind st2 x=behind st x:=by
 cases x <;> first | rfl | (simp only[behind,h.obj (hx _ (List.mem_singleton.2 rfl))])
theorem ZkB (h:agr X st st2) {x:AV} (hx:∀id∈men1 x,id∈X):live st2 x=live st x:=by
 cases x <;> first | rfl | (simp only[live,h.obj (hx _ (List.mem_singleton.2 rfl))])
theorem ZkO (h:agr X st st2) {x:AV} (hx:∀id∈men1 x,id∈X):lenA st2 x=lenA st x:=by
 cases x with
 | d t v=>cases t <;> rfl
 | own i v pre=>simp only[lenA,h.obj (hx _ (List.mem_singleton.2 rfl))]
 | mp i v=>simp only[lenA,h.obj (hx _ (List.mem_singleton.2 rfl))]
 | _=>rfl
theorem Zkq (h:agr X st st2) {T:TypeId} {x y:AV} (hx:∀id∈men1 x,id∈X):isNil P T st2 x y=isNil P T st x y:=by
 cases x with
 | pt i v off=>
  have hl:isNil.liveBox st2 i v=isNil.liveBox st i v:=by simp only[isNil.liveBox,h.obj (hx _ (List.mem_singleton.2 rfl))]
  unfold isNil
  cases P.underlying T with
  | none=>rfl
  | some D=>cases D <;> first | rfl | (cases y <;> first | rfl | (rename_i u;cases u <;> first | rfl | (rename_i a;cases a <;> first | rfl | (simp only[hl]))))
 | mp i v=>
  have hl:=h.obj (hx i (List.mem_singleton.2 rfl)) v
  unfold isNil
  cases P.underlying T with
  | none=>rfl
  | some D=>cases D <;> first | rfl | (cases y <;> first | rfl | (rename_i u;cases u <;> first | rfl | (rename_i a;cases a <;> first | rfl | (simp only[hl]))))
 | cst v=>unfold isNil;split <;> simp_all
 | _=>unfold isNil;split <;> simp_all
theorem Zku (h:agr X st st2) {op:BinOp} {T:TypeId} {x y:AV} (hx:∀id∈men1 x,id∈X):binA P st2 op T x y=binA P st op T x y:=by
 unfold binA
 split <;> first | rfl | (rw[Zkq h hx])
theorem Zjf (h:agr X st st2) {x:AV} (hx:∀id∈men1 x,id∈X):toData st2 x=toData st x:=by
 cases x <;> first | rfl | (simp only[toData,h.obj (hx _ (List.mem_singleton.2 rfl))])
theorem Zee (h:agr X st st2):∀ {l:List AV},(∀id∈menL l,id∈X)→toDatas st2 l=toDatas st l
 | [],_=>rfl
 | x :: r,hx=>by
  unfold toDatas
  rw[Zjf h (fun id hi=>hx id (by unfold menL;simp[hi])),Zee h fun id hi=>hx id (by unfold menL;simp[hi])]
theorem Zd0:∀ {l:List AV} {cs:List AV} {is:List Id},toDatas st l=some (cs,is)→∀id∈is,id∈menL l
 | [],cs,is,h,id,hi=>by cases h;simp at hi
 | x :: r,cs,is,h,id,hi=>by
  unfold toDatas at h
  obtain ⟨⟨y,i⟩,h1,h⟩:=Option.bind_eq_some_iff.1 h
  obtain ⟨⟨ys,is'⟩,h2,h⟩:=Option.map_eq_some_iff.1 h
  simp only[Prod.mk.injEq] at h
  obtain ⟨_,rfl⟩:=h
  unfold menL
  rcases List.mem_append.1 hi with hi | hi
  ·refine List.mem_append_left _ ?_
   cases x with
   | own id' ver pre=>
    simp only[toData] at h1
    split at h1
    ·cases h1;simpa[men1] using hi
    ·cases h1
   | _=>simp only[toData] at h1;cases h1;simp at hi
  ·exact List.mem_append_right _ (Zd0 h2 id hi)
def lockU (st:St):List Id→Obs
 | []=>[]
 | id :: r=>match find id st.ob with
  | some (v,.row E t l _)=>(id,v,.row E t l true) :: lockU st r
  | _=>lockU st r
theorem Zdb {st:St} :∀ {is:List Id},∀p∈lockU st is,p.1∈is
 | [],p,h=>by simp[lockU] at h
 | id :: r,p,h=>by
  unfold lockU at h
  split at h
  ·rcases List.mem_cons.1 h with rfl | h
   ·simp
   ·exact List.mem_cons_of_mem _ (Zdb p h)
  ·exact List.mem_cons_of_mem _ (Zdb p h)
theorem Zc8 (h:agr X st st2):∀ {is:List Id},(∀id∈is,id∈X)→lockU st2 is=lockU st is
 | [],_=>rfl
 | id :: r,hs=>by
  unfold lockU
  rw[h id (hs id (by simp)),Zc8 h fun x hx=>hs x (by simp[hx])]
theorem Zhb:∀ {is:List Id} {st st0:St},(∀id,(find id st.ob=find id st0.ob)∨∃v E t l lk,find id st0.ob=some (v,.row E t l lk)∧find id st.ob=some (v,.row E t l true))→
  st.lock is=⟨st.tm,insAll (lockU st0 is) st.ob⟩
 | [],st,st0,_=>rfl
 | id :: r,st,st0,h=>by
  unfold St.lock lockU
  have ins_row:∀(v:Nat) (E:TypeId) (t:Ty) (l:List (El t)) (lk:Bool),find id st0.ob=some (v,.row E t l lk)→
    (st.setOb id v (.row E t l true)).lock r=⟨st.tm,insAll ((id,v,.row E t l true) :: lockU st0 r) st.ob⟩:=by
   intro v E t l lk h0
   rw[Zhb (st0:=st0) fun i=>?_]
   ·rfl
   ·rw[Zl]
    by_cases hi:i=id
    ·subst hi
     exact .inr ⟨v,E,t,l,lk,h0,by rw[if_pos rfl]⟩
    ·rw[if_neg hi];exact h i
  rcases h id with he | ⟨v,E,t,l,lk,h0,h1⟩
  ·rw[he]
   cases hf:find id st0.ob with
   | none=>simp only;exact Zhb h
   | some p=>
    obtain ⟨v,ob⟩:=p
    cases ob with
    | row E t l lk=>simp only;exact ins_row v E t l lk hf
    | _=>simp only;exact Zhb h
  ·rw[h0,h1]
   simp only
   exact ins_row v E t l lk h0
theorem Zdq {is:List Id} {st:St} :st.lock is=⟨st.tm,insAll (lockU st is) st.ob⟩:=Zhb fun _=>.inl rfl
theorem ZfQ {is:List Id} {st:St} {id:Id} :(st.lock is).nextVer id=st.nextVer id:=by
 induction is generalizing st with
 | nil=>rfl
 | cons i r ih=>
  unfold St.lock
  split
  ·rename_i v E t l lk hf
   rw[ih]
   unfold St.nextVer
   rw[Zl]
   by_cases hi:id=i
   ·subst hi;rw[if_pos rfl,hf]
   ·rw[if_neg hi]
  ·exact ih
theorem Zh7 (h:agr X st st2) {t:Ty} {x:AV} (hx:∀id∈men1 x,id∈X):extra st2 t x=extra st t x:=by
 cases x with
 | own i v pre=>simp only[extra,h.obj (hx _ (List.mem_singleton.2 rfl))]
 | d t' l=>cases t' <;> rfl
 | _=>rfl
theorem Zjc {tm:List AV} (hv:isV o.op=true) (hagr:agr (touE o st) st st2) (hev:∀x∈o.op.operands,st2.ev x=st.ev x):
  Fr2 (opA P cl o st) (opA P cl o st2) st st2 o.dst:=by
 have hm:∀x∈o.op.operands,∀id∈men1 (st.ev x),id∈touE o st:=fun x hx id hi=>Zfh (by simpa using hx) (Zem hi)
 have hbeh:∀x∈o.op.operands,behind st2 (st.ev x)=behind st (st.ev x):=fun x hx=>Zjo hagr (hm x hx)
 have hlive:∀x∈o.op.operands,live st2 (st.ev x)=live st (st.ev x):=fun x hx=>ZkB hagr (hm x hx)
 have hbin:∀x∈o.op.operands,∀op T y,binA P st2 op T (st.ev x) y=binA P st op T (st.ev x) y:=fun x hx op T y=>Zku hagr (hm x hx)
 have hobj:∀x∈o.op.operands,∀id∈men1 (st.ev x),∀ver,st2.obj id ver=st.obj id ver:=fun x hx id hi ver=>hagr.obj (hm x hx id hi) ver
 have hext:∀x∈o.op.operands,∀t,extra st2 t (st.ev x)=extra st t (st.ev x):=fun x hx t=>Zh7 hagr (hm x hx)
 cases h:o.op <;> rw[h] at hv hev hbeh hlive hbin hobj hext <;> simp only[isV] at hv <;> first | (cases hv;done) | skip
 case move x=>
  simp only[opA,h,hev x (by simp[Op.operands])]
  exact Fr2.pure _
 case assign x=>
  simp only[opA,h,hev x (by simp[Op.operands])]
  exact Fr2.pure _
 case pick c x y=>
  simp only[opA,h,hev c (by simp[Op.operands]),hev x (by simp[Op.operands]),hev y (by simp[Op.operands])]
  refine Fr2.bind Det.toB fun b=>Fr2.bind Det.branch fun b'=>?_
  cases b' <;> exact Fr2.pure _
 case load T x=>
  simp only[opA,h,hev x (by simp[Op.operands]),hbeh x (by simp[Op.operands])]
  split
  ·exact Fr2.cond (Fr2.pure _) Fr2.fail
  ·exact Fr2.opt
  ·exact Fr2.fail
 case nilCheck x=>
  simp only[opA,h,hev x (by simp[Op.operands]),hlive x (by simp[Op.operands])]
  exact Fr2.cond (Fr2.pure _) Fr2.fail
 case binOp op T x y T'=>
  simp only[opA,h,hev x (by simp[Op.operands]),hev y (by simp[Op.operands]),hbin x (by simp[Op.operands])]
  exact Fr2.bind Det.binA fun v=>Fr2.pure _
 case unOp op T x=>
  simp only[opA,h,hev x (by simp[Op.operands])]
  exact Fr2.bind Det.unA fun v=>Fr2.pure _
 case convert a b x=>
  have hx:=hext x (by simp[Op.operands])
  simp only[opA,h,hev x (by simp[Op.operands])]
  split <;> first | exact Fr2.pure _ | exact Fr2.fail | (split <;> first | exact Fr2.fail | (simp only[hx];split <;> first | exact Fr2.pure _ | exact Fr2.fail))
 case makeInterface T x=>
  simp only[opA,h,hev x (by simp[Op.operands])]
  split <;> first | exact Fr2.pure _ | exact Fr2.fail
 case fieldAddr S x j=>
  simp only[opA,h,hev x (by simp[Op.operands]),hlive x (by simp[Op.operands])]
  split
  ·exact Fr2.fail
  ·exact Fr2.cond (Fr2.pure _) Fr2.fail
 case field T x j=>
  simp only[opA,h,hev x (by simp[Op.operands])]
  split
  ·split
   ·exact Fr2.opt
   ·exact Fr2.fail
  ·exact Fr2.fail
 case indexAddr T x i=>
  have hl:=hlive x (by simp[Op.operands])
  have ho:=hobj x (by simp[Op.operands])
  simp only[opA,h,hev x (by simp[Op.operands]),hev i (by simp[Op.operands])]
  refine Fr2.bind Det.toI fun p=>?_
  generalize st.ev x=a at hl ho ⊢
  split
  ·split
   ·exact Fr2.cond (Fr2.bind Det.boundI fun n=>Fr2.pure _) Fr2.fail
   ·exact Fr2.fail
  ·rw[ho _ (by simp[men1])]
   split
   ·exact Fr2.cond (Fr2.bind Det.boundI fun n=>Fr2.pure _) Fr2.fail
   ·exact Fr2.fail
  ·rw[hl]
   refine Fr2.cond ?_ Fr2.fail
   split
   ·exact Fr2.bind Det.caseNat fun n=>Fr2.pure _
   ·exact Fr2.fail
  ·exact Fr2.fail
 case index T x i=>
  simp only[opA,h,hev x (by simp[Op.operands]),hev i (by simp[Op.operands])]
  refine Fr2.bind Det.toI fun p=>?_
  split
  ·exact Fr2.bind Det.boundI fun n=>Fr2.pure _
  ·split
   ·exact Fr2.bind Det.caseNat fun n=>Fr2.opt
   ·exact Fr2.fail
  ·exact Fr2.fail
 case extract x j=>
  simp only[opA,h,hev x (by simp[Op.operands])]
  split
  ·exact Fr2.opt
  ·exact Fr2.fail
 case lookup T x k ok=>
  have ho:=hobj x (by simp[Op.operands])
  simp only[opA,h,hev x (by simp[Op.operands]),hev k (by simp[Op.operands])]
  generalize st.ev x=a at ho ⊢
  split
  ·rw[ho _ (by simp[men1])]
   split
   ·split
    ·refine Fr2.cond (Fr2.cond ?_ (Fr2.pure _)) Fr2.fail
     rename_i kt vt l _ _ _ key z _ _
     cases mget key l
     ·exact Fr2.pure _
     ·exact Fr2.pure _
    ·exact Fr2.fail
   ·exact Fr2.fail
  ·exact Fr2.fail
 case typeAssert x T0 T ok=>
  simp only[opA,h,hev x (by simp[Op.operands])]
  split
  ·exact Fr2.fail
  ·exact Fr2.fail
  ·refine Fr2.cond (Fr2.pure _) (Fr2.cond ?_ Fr2.fail)
   split
   ·exact Fr2.pure _
   ·exact Fr2.fail
  ·exact Fr2.fail
end
end Go.Ev
end

section
namespace Go.Ev
variable [Tabs] [Orgs]
open Go
section
variable {P:Program} {cl:Cl} {o:Oper} {st st2:St} {X W:List Id}
theorem Za5 {is:List Id} {d:Option Nat} {ob:Obj} {ref:Id→Nat→AV} (hr:∀e,d=some e→rootId e∈W∧rootId e∈X) (his:∀id∈is,id∈W∧id∈X) (hagr:agr X st st2):
  Fr3 (makeObj (st.lock is) d ob ref) (makeObj (st2.lock is) d ob ref) W st st2 d:=by
 cases d with
 | none=>exact Fr3.fail
 | some e=>
  have key:∀s:St,makeObj (s.lock is) (some e) ob ref=M.pure (app (lockU s is++[(rootId e,s.nextVer (rootId e),ob)]) (some e) (ref (rootId e) (s.nextVer (rootId e))) s):=fun s=>by
   unfold makeObj
   simp only[ZfQ]
   rw[Zdq]
   unfold app
   rw[Zae]
   rfl
  rw[key st,key st2,Zc8 hagr fun id hi=>(his id hi).2,hagr.nextVer (hr e rfl).2]
  refine Fr3.upd fun p hp=>?_
  rcases List.mem_append.1 hp with hp | hp
  ·exact (his _ (Zdb p hp)).1
  ·simp only[List.mem_singleton] at hp
   subst hp
   exact (hr e rfl).1
theorem Zjz (v:Value):men1 (ofVal v)=[]:=by
 unfold ofVal
 split <;> rfl
theorem Zi3:∀ {l:List AV},(∀x∈l,men1 x=[])→menL l=[]
 | [],_=>rfl
 | x :: r,h=>by
  unfold menL
  rw[h x (by simp),Zi3 fun y hy=>h y (by simp[hy])]
  rfl
theorem Zj9 {l:List AV} {id:Id} (h:id∈menL l):∃x∈l,id∈men1 x:=by
 induction l with
 | nil=>simp[menL] at h
 | cons y r ih=>
  unfold menL at h
  rcases List.mem_append.1 h with h | h
  ·exact ⟨y,by simp,h⟩
  ·obtain ⟨x,hx,hi⟩:=ih h
   exact ⟨x,by simp[hx],hi⟩
theorem ZhC {v:AV} {vs:List AV} (h:v.cells=some vs) {x:AV} (hx:x∈vs) {id:Id} (hi:id∈men1 x):id∈men v:=by
 unfold AV.cells at h
 split at h
 ·cases h;exact ZdC hx hi
 ·split at h
  ·cases h
   simp only[List.mem_singleton] at hx
   subst hx
   exact Zem hi
  ·cases h
theorem ZhH {place:Nat→Option (Nat×Nat)} {id:Id} :∀ {ps:List (Nat×AV)} {cs cs':List AV},fillA place cs ps=some cs'→id∈menL cs'→id∈menL cs∨∃p∈ps,id∈men p.2
 | [],cs,cs',h,hi=>by cases h;exact .inl hi
 | (i,v) :: r,cs,cs',h,hi=>by
  unfold fillA at h
  obtain ⟨⟨off,size⟩,_,h⟩:=Option.bind_eq_some_iff.1 h
  obtain ⟨vs,hvs,h⟩:=Option.bind_eq_some_iff.1 h
  split at h
  ·cases h
  ·rcases ZhH h hi with h1 | ⟨p,hp,h1⟩
   ·obtain ⟨x,hx,hix⟩:=Zj9 h1
    unfold setRange at hx
    rcases List.mem_append.1 hx with hx | hx
    ·exact .inl (ZdC (List.mem_of_mem_take hx) hix)
    ·rcases List.mem_append.1 hx with hx | hx
     ·exact .inr ⟨(i,v),by simp,ZhC hvs hx hix⟩
     ·exact .inl (ZdC (List.mem_of_mem_drop hx) hix)
   ·exact .inr ⟨p,by simp[hp],h1⟩
theorem ZkK (hagr:agr X st st2) {is:List Id} (his:∀id∈is,id∈X) {id:Id} (hi:id∈X) (ver:Nat):(st2.lock is).obj id ver=(st.lock is).obj id ver:=by
 rw[Zdq,Zdq,Zc8 hagr his]
 unfold St.obj
 rw[Z4 (hagr id hi)]
theorem ZeN {d:Nat} {E:TypeId} {t:Ty} {bytes:Nat} {s:AV} {ys:List (El t)} (hr:rootId d∈W∧rootId d∈X) (hs:∀id∈men1 s,id∈W∧id∈X) (hagr:agr X st st2):
  Fr3 (appendB st d E t bytes s ys) (appendB st2 d E t bytes s ys) W st st2 (some d):=by
 unfold appendB
 split
 ·refine Fr3.guard ?_
  rw[hagr.nextVer hr.2]
  exact Fr3.upd (o:=[(rootId d,st.nextVer (rootId d),.row E t ys false)]) (v:=.own (rootId d) (st.nextVer (rootId d)) none) fun p hp=>by
   simp only[List.mem_singleton] at hp
   subst hp
   exact hr.1
 ·rename_i id ver pre
  have hid:=hs id (List.mem_singleton.2 rfl)
  rw[hagr.obj hid.2]
  split
  ·rename_i E' t' l _
   split
   ·split
    ·rename_i h1 h2
     subst h1
     refine Fr3.guard ?_
     exact Fr3.upd (o:=[(id,ver+1,.row E t' (preL pre l++ys) false)]) (v:=.own id (ver+1) none) fun p hp=>by
      simp only[List.mem_singleton] at hp
      subst hp
      exact hid.1
    ·exact Fr3.fail
   ·exact Fr3.fail
  ·exact Fr3.fail
 ·exact Fr3.fail
theorem Zh4 {d:Nat} {T:TypeId} {s x:AV} (hr:rootId d∈W∧rootId d∈X) (hs:∀id∈men1 s,id∈W∧id∈X) (hx:∀id∈men1 x,id∈X) (hagr:agr X st st2):
  Fr3 (appendA P st d T s x) (appendA P st2 d T s x) W st st2 (some d):=by
 unfold appendA
 split
 ·exact Fr3.fail
 ·rw[Zh7 hagr hx]
  split
  ·exact Fr3.fail
  ·exact ZeN hr hs hagr
theorem Zhw {d:Nat} {T:TypeId} {s:AV} {n:Int} (hr:rootId d∈W∧rootId d∈X) (hs:∀id∈men1 s,id∈W∧id∈X) (hagr:agr X st st2):
  Fr3 (appendZ P st d T s n) (appendZ P st2 d T s n) W st st2 (some d):=by
 unfold appendZ
 split
 ·exact Fr3.fail
 ·split
  ·exact Fr3.fail
  ·exact Fr3.guard (ZeN hr hs hagr)
theorem ZcH (h:agr X st st2) {n:Nat} {rows:Bool} {x:AV} (ha:argE1 x=true) (hx:∀id∈men1 x,id∈X):give st2 rows (n+1) x=give st rows (n+1) x:=by
 cases x with
 | own i v pre=>simp only[give,h.obj (hx _ (List.mem_singleton.2 rfl))]
 | d t v=>rfl
 | nil=>rfl
 | cst v=>rfl
 | ifc t y=>rfl
 | _=>simp[argE1,flatB] at ha
theorem Zfa {g g2:AV→Option Given} :∀ {l:List AV},(∀x∈l,g2 x=g x)→allG g2 l=allG g l
 | [],_=>rfl
 | x :: r,h=>by
  unfold allG
  rw[h x (by simp),Zfa fun y hy=>h y (by simp[hy])]
theorem ZkM (h:agr X st st2) {n:Nat} {rows:Bool} {x:AV} (ha:argE x=true) (hx:∀id∈men x,id∈X):give st2 rows (n+2) x=give st rows (n+2) x:=by
 cases x with
 | ag cs=>
  simp only[argE,List.all_eq_true] at ha
  exact congrArg (Option.map fun (vs,is,os)=>(AV.ag vs,is,os)) (Zfa (g:=give st rows (n+1)) (g2:=give st2 rows (n+1)) fun y hy=>ZcH h (ha y hy) fun id hi=>hx id (ZdC hy hi))
 | tu cs=>simp[argE,argE1,flatB] at ha
 | own i v pre=>exact ZcH h ha hx
 | d t v=>exact ZcH h ha hx
 | nil=>exact ZcH h ha hx
 | cst v=>exact ZcH h ha hx
 | ifc t y=>exact ZcH h ha hx
 | _=>simp[argE,argE1,flatB] at ha
theorem ZcM {n:Nat} {rows:Bool} {x y:AV} {is os:List Id} (ha:argE1 x=true) (h:give st rows (n+1) x=some (y,is,os)):∀id∈is,id∈men1 x:=by
 intro id hi
 cases x with
 | own i v pre=>
  simp only[give] at h
  split at h
  ·rename_i E t l lock _
   cases hb:(rows&& !lock) with
   | true=>rw[hb] at h;cases h;simp at hi
   | false=>rw[hb] at h;cases h;simpa[men1] using hi
  ·cases h
 | d t v=>simp only[give,flatB,cond_true] at h;cases h;simp at hi
 | nil=>simp only[give,flatB,cond_true] at h;cases h;simp at hi
 | cst v=>simp only[give,flatB,cond_true] at h;cases h;simp at hi
 | ifc t z=>
  have hf:flatB (.ifc t z)=true:=by simpa[argE1] using ha
  simp only[give,hf,cond_true] at h
  cases h
  simp at hi
 | _=>simp[argE1,flatB] at ha
theorem Zg9 {g:AV→Option Given} {Y:AV→List Id} :∀ {l:List AV} {ys:List AV} {is os:List Id},(∀x∈l,∀y i o,g x=some (y,i,o)→∀id∈i,id∈Y x)→allG g l=some (ys,is,os)→∀id∈is,∃x∈l,id∈Y x
 | [],ys,is,os,_,h,id,hi=>by cases h;simp at hi
 | x :: r,ys,is,os,hg,h,id,hi=>by
  unfold allG at h
  obtain ⟨⟨y,i,o⟩,h1,h⟩:=Option.bind_eq_some_iff.1 h
  obtain ⟨⟨ys',is',os'⟩,h2,h⟩:=Option.map_eq_some_iff.1 h
  simp only[Prod.mk.injEq] at h
  obtain ⟨_,rfl,_⟩:=h
  rcases List.mem_append.1 hi with hi | hi
  ·exact ⟨x,by simp,hg x (by simp) y i o h1 id hi⟩
  ·obtain ⟨z,hz,hm⟩:=Zg9 (fun z hz=>hg z (by simp[hz])) h2 id hi
   exact ⟨z,by simp[hz],hm⟩
theorem ZkA {n:Nat} {rows:Bool} {x y:AV} {is os:List Id} (ha:argE x=true) (h:give st rows (n+2) x=some (y,is,os)):∀id∈is,id∈men x:=by
 cases x with
 | ag cs=>
  simp only[argE,List.all_eq_true] at ha
  unfold give at h
  obtain ⟨⟨ys,i,o⟩,h1,h⟩:=Option.map_eq_some_iff.1 h
  simp only[Prod.mk.injEq] at h
  obtain ⟨_,rfl,_⟩:=h
  intro id hi
  obtain ⟨z,hz,hm⟩:=Zg9 (Y:=men1) (fun z hz y i o hg=>ZcM (ha z hz) hg) h1 id hi
  exact ZdC hz hm
 | tu cs=>simp[argE,argE1,flatB] at ha
 | own i v pre=>exact ZcM (x:=.own i v pre) (n:=n+1) ha h
 | d t v=>exact ZcM (x:=.d t v) (n:=n+1) ha h
 | nil=>exact ZcM (x:=.nil) (n:=n+1) ha h
 | cst v=>exact ZcM (x:=.cst v) (n:=n+1) ha h
 | ifc t y=>exact ZcM (x:=.ifc t y) (n:=n+1) ha h
 | _=>simp[argE,argE1,flatB] at ha
def impU1 (nv:Id→Nat) (id:Id) (x:AV):AV×Obs:=match x with
 |.rw E t l=>(.own id (nv id) none,[(id,nv id,.row E t l false)])
 |.mv kt vt l=>(.mp id (nv id),[(id,nv id,.map kt vt l)])
 | x=>(x,[])
def impUL (nv:Id→Nat) (id:Id):Nat→List AV→List AV×Obs
 | _,[]=>([],[])
 | j,x :: r=>((impU1 nv (childId id j) x).1 :: (impUL nv id (j+1) r).1,(impU1 nv (childId id j) x).2++(impUL nv id (j+1) r).2)
def impU (nv:Id→Nat) (id:Id) (x:AV):AV×Obs:=match x with
 |.ag cs=>(.ag (impUL nv id 0 cs).1,(impUL nv id 0 cs).2)
 | x=>impU1 nv id x
def impUM (nv:Id→Nat) (id:Id):Nat→List AV→List AV×Obs
 | _,[]=>([],[])
 | j,x :: r=>((impU nv (childId id j) x).1 :: (impUM nv id (j+1) r).1,(impU nv (childId id j) x).2++(impUM nv id (j+1) r).2)
def impUT (nv:Id→Nat) (id:Id) (x:AV):AV×Obs:=match x with
 |.tu cs=>(.tu (impUM nv id 0 cs).1,(impUM nv id 0 cs).2)
 |.bx T cs=>(.pt id (nv id) 0,(impUL nv id 0 cs).2++[(id,nv id,.box T (impUL nv id 0 cs).1 none)])
 | x=>impU nv id x
theorem ZK {n:Nat} {s:St} {id:Id} {x:AV} {nv:Id→Nat} (hx:ansE1 x=true) (hn:s.nextVer id=nv id):imp (n+1) s id x=some ((impU1 nv id x).1,⟨s.tm,insAll (impU1 nv id x).2 s.ob⟩):=by
 cases x with
 | rw E t l=>
  unfold imp impU1
  simp only[hn]
  rfl
 | mv kt vt l=>
  unfold imp impU1
  simp only[hn]
  rfl
 | d t v=>rfl
 | nil=>rfl
 | cst v=>rfl
 | ifc t y=>
  have hf:flatB (.ifc t y)=true:=by simpa[ansE1] using hx
  unfold imp impU1
  simp only[hf,cond_true]
  rfl
 | _=>simp[ansE1,flatB] at hx
theorem Zgv {nv:Id→Nat} {id:Id} {x:AV} :∀p∈(impU1 nv id x).2,p.1=id:=by
 intro p hp
 cases x <;> simp only[impU1] at hp <;> first | (simp at hp;done) | (simp only[List.mem_singleton] at hp;subst hp;rfl)
theorem Zf1 {id j k:Nat} (h:childId id j=childId id k):j=k:=by
 have h':(id*1024+(j+1):Nat)=id*1024+(k+1):=h
 omega
theorem Zfl {n:Nat} {id:Id} {nv:Id→Nat} :∀ {cs:List AV} {j:Nat} {s:St},cs.all ansE1=true→(∀k,j≤k→k < j+cs.length→s.nextVer (childId id k)=nv (childId id k))→
  impA (imp (n+1)) s id j cs=some ((impUL nv id j cs).1,⟨s.tm,insAll (impUL nv id j cs).2 s.ob⟩)
 | [],j,s,_,_=>rfl
 | x :: r,j,s,hc,hn=>by
  simp only[List.all_cons,Bool.and_eq_true] at hc
  unfold impA impUL
  rw[ZK hc.1 (hn j (Nat.le_refl _) (by simp))]
  simp only[Option.bind_some]
  rw[Zfl (nv:=nv) hc.2 fun k hk hk2=>?_]
  ·simp only[Option.map_some,Zae]
  ·have:(⟨s.tm,insAll (impU1 nv (childId id j) x).2 s.ob⟩:St).nextVer (childId id k)=s.nextVer (childId id k):=by
    unfold St.nextVer
    rw[ZaU fun p hp e=>?_]
    rw[Zgv p hp] at e
    have:=Zf1 e
    omega
   rw[this]
   exact hn k (by omega) (by simp;omega)
theorem Zh9 {n:Nat} {s:St} {id:Id} {x:AV} {nv:Id→Nat} (hx:ansE2 x=true) (hn:s.nextVer id=nv id) (hk:∀k,k < 16→s.nextVer (childId id k)=nv (childId id k)):imp (n+2) s id x=some ((impU nv id x).1,⟨s.tm,insAll (impU nv id x).2 s.ob⟩):=by
 cases x with
 | ag cs=>
  simp only[ansE2,Bool.and_eq_true] at hx
  have hl:=Nat.le_of_ble_eq_true hx.2
  show Option.map _ (impA (imp (n+1)) s id 0 cs)=_
  rw[Zfl (nv:=nv) hx.1 fun k _ h2=>hk k (by omega)]
  rfl
 | rw E t l=>exact ZK hx hn
 | mv kt vt l=>exact ZK hx hn
 | d t v=>exact ZK hx hn
 | nil=>exact ZK hx hn
 | cst v=>exact ZK hx hn
 | ifc t y=>exact ZK hx hn
 | _=>simp[ansE2,ansE1,flatB] at hx
theorem Zeu {nv:Id→Nat} {id:Id} :∀ {cs:List AV} {j:Nat},∀p∈(impUL nv id j cs).2,∃k,k < j+cs.length∧p.1=childId id k
 | [],j,p,h=>by simp[impUL] at h
 | x :: r,j,p,h=>by
  unfold impUL at h
  rcases List.mem_append.1 h with h | h
  ·exact ⟨j,by simp,Zgv p h⟩
  ·obtain ⟨k,hk,e⟩:=Zeu p h
   exact ⟨k,by simp at hk ⊢;omega,e⟩
theorem Zec {nv nv2:Id→Nat} {id:Id} :∀ {cs:List AV} {j:Nat},(∀k,k < j+cs.length→nv2 (childId id k)=nv (childId id k))→impUL nv2 id j cs=impUL nv id j cs
 | [],j,_=>rfl
 | x :: r,j,h=>by
  have h0:impU1 nv2 (childId id j) x=impU1 nv (childId id j) x:=by
   cases x <;> simp only[impU1,h j (by simp)]
  unfold impUL
  rw[h0,Zec fun k hk=>h k (by simp;omega)]
theorem Ze1 {nv nv2:Id→Nat} {id:Id} {x:AV} (hx:ansE2 x=true) (hn:nv2 id=nv id) (hk:∀k,k < 16→nv2 (childId id k)=nv (childId id k)):
  impU nv2 id x=impU nv id x∧∀p∈(impU nv id x).2,p.1=id∨∃k,k < 16∧p.1=childId id k:=by
 have one:∀y,impU1 nv2 id y=impU1 nv id y:=fun y=>by cases y <;> simp only[impU1,hn]
 have other:∀y,(∀n,impU n id y=impU1 n id y)→(impU nv2 id y=impU nv id y∧∀p∈(impU nv id y).2,p.1=id∨∃k,k < 16∧p.1=childId id k):=fun y h=>by
  rw[h,h]
  exact ⟨one y,fun p hp=>.inl (Zgv p hp)⟩
 cases x with
 | ag cs=>
  simp only[ansE2,Bool.and_eq_true] at hx
  have hl:=Nat.le_of_ble_eq_true hx.2
  refine ⟨by unfold impU;simp only[Zec (nv:=nv) (nv2:=nv2) (id:=id) (cs:=cs) (j:=0) fun k h=>hk k (by omega)],fun p hp=>.inr ?_⟩
  obtain ⟨k,h,e⟩:=Zeu p hp
  exact ⟨k,by omega,e⟩
 | _=>exact other _ fun _=>rfl
theorem Zk2 {id j k:Nat} (h:j≠k):childId id j≠childId id k:=fun e=>h (Zf1 e)
theorem ZhP {id i j k:Nat} (hk:k < 16):childId id k≠childId (childId id i) j:=by
 have h:(id*1024+(k+1):Nat)≠(id*1024+(i+1))*1024+(j+1):=by omega
 exact h
theorem Zj6 {id i j k m:Nat} (hi:i≠k) (hj:j < 16) (hm:m < 16):childId (childId id i) j≠childId (childId id k) m:=by
 have h:((id*1024+(i+1))*1024+(j+1):Nat)≠(id*1024+(k+1))*1024+(m+1):=by omega
 exact h
theorem ZgK {n:Nat} {id:Id} {nv:Id→Nat} :∀ {cs:List AV} {j:Nat} {s:St},cs.all ansE2=true→j+cs.length≤4→(∀k,j≤k→k < 4→s.nextVer (childId id k)=nv (childId id k)∧∀m,m < 16→s.nextVer (childId (childId id k) m)=nv (childId (childId id k) m))→
  impA (imp (n+2)) s id j cs=some ((impUM nv id j cs).1,⟨s.tm,insAll (impUM nv id j cs).2 s.ob⟩)
 | [],j,s,_,_,_=>rfl
 | x :: r,j,s,hc,hl,hn=>by
  simp only[List.all_cons,Bool.and_eq_true] at hc
  rw[List.length_cons] at hl
  have h0:=hn j (Nat.le_refl _) (by omega)
  unfold impA impUM
  rw[Zh9 (nv:=nv) hc.1 h0.1 h0.2]
  simp only[Option.bind_some]
  have hids:=(Ze1 (nv:=nv) (nv2:=nv) (id:=childId id j) hc.1 rfl fun _ _=>rfl).2
  have same:∀i:Id,i≠childId id j→(∀k,k < 16→i≠childId (childId id j) k)→(⟨s.tm,insAll (impU nv (childId id j) x).2 s.ob⟩:St).nextVer i=s.nextVer i:=fun i h1 h2=>by
   unfold St.nextVer
   rw[ZaU fun p hp e=>?_]
   rcases hids p hp with h | ⟨k,hk,h⟩
   ·exact h1 (e.symm.trans h)
   ·exact h2 k hk (e.symm.trans h)
  rw[ZgK (nv:=nv) hc.2 (by omega) fun k hk hk4=>?_]
  ·simp only[Option.map_some,Zae]
  ·have hk':=hn k (by omega) hk4
   refine ⟨?_,fun m hm=>?_⟩
   ·rw[same _ (Zk2 (by omega)) fun q hq=>ZhP (by omega)]
    exact hk'.1
   ·rw[same _ (fun e=>ZhP (id:=id) (i:=k) (j:=m) (k:=j) (by omega) e.symm) fun q hq=>Zj6 (by omega) hm hq]
    exact hk'.2 m hm
theorem Zjh (i k:Nat):i*1024+(k+1)≠i:=by omega
theorem Zju {n:Nat} {s:St} {id:Id} {x:AV} {nv:Id→Nat} (hx:ansE x=true) (hn:s.nextVer id=nv id) (hk:∀k,s.nextVer (childId id k)=nv (childId id k)) (hk2:∀k m,s.nextVer (childId (childId id k) m)=nv (childId (childId id k) m)):
  imp (n+3) s id x=some ((impUT nv id x).1,⟨s.tm,insAll (impUT nv id x).2 s.ob⟩):=by
 cases x with
 | tu cs=>
  simp only[ansE,Bool.and_eq_true] at hx
  have hl:=Nat.le_of_ble_eq_true hx.2
  show Option.map _ (impA (imp (n+2)) s id 0 cs)=_
  rw[ZgK (nv:=nv) hx.1 (by omega) fun k _ _=>⟨hk k,fun m _=>hk2 k m⟩]
  rfl
 | bx T cs=>
  simp only[ansE,Bool.and_eq_true] at hx
  have hl:=Nat.le_of_ble_eq_true hx.2
  show Option.map _ (impA (imp (n+2)) s id 0 cs)=_
  rw[Zfl (n:=n+1) (nv:=nv) hx.1 fun k _ _=>hk k]
  have hv:(⟨s.tm,insAll (impUL nv id 0 cs).2 s.ob⟩:St).nextVer id=nv id:=by
   rw[←hn]
   unfold St.nextVer
   rw[ZaU fun p hp e=>?_]
   obtain ⟨k,_,e2⟩:=Zeu p hp
   rw[e] at e2
   exact Zjh id k e2.symm
  simp only[Option.map_some,hv]
  unfold impUT
  rw[Zae]
  rfl
 | ag cs=>exact Zh9 (n:=n+1) (x:=.ag cs) hx hn fun k _=>hk k
 | mv kt vt l=>exact ZK (n:=n+2) hx hn
 | rw E t l=>exact ZK (n:=n+2) hx hn
 | d t v=>exact ZK (n:=n+2) hx hn
 | nil=>exact ZK (n:=n+2) hx hn
 | cst v=>exact ZK (n:=n+2) hx hn
 | ifc t y=>exact ZK (n:=n+2) hx hn
 | _=>simp[ansE,ansE1,flatB] at hx
theorem Zgf {nv nv2:Id→Nat} {id:Id} :∀ {cs:List AV} {j:Nat},cs.all ansE2=true→j+cs.length≤4→(∀k,k < 4→nv2 (childId id k)=nv (childId id k)∧∀m,m < 16→nv2 (childId (childId id k) m)=nv (childId (childId id k) m))→
  impUM nv2 id j cs=impUM nv id j cs∧∀p∈(impUM nv id j cs).2,∃k,k < 4∧(p.1=childId id k∨∃m,m < 16∧p.1=childId (childId id k) m)
 | [],j,_,_,_=>⟨rfl,fun p h=>by simp[impUM] at h⟩
 | x :: r,j,hc,hl,hn=>by
  simp only[List.all_cons,Bool.and_eq_true] at hc
  rw[List.length_cons] at hl
  have h0:=hn j (by omega)
  obtain ⟨f1,f2⟩:=Ze1 (nv:=nv) (nv2:=nv2) (id:=childId id j) hc.1 h0.1 h0.2
  obtain ⟨i1,i2⟩:=Zgf (nv:=nv) (nv2:=nv2) (id:=id) (j:=j+1) hc.2 (by omega) hn
  refine ⟨by unfold impUM;rw[f1,i1],fun p hp=>?_⟩
  unfold impUM at hp
  rcases List.mem_append.1 hp with hp | hp
  ·exact ⟨j,by omega,f2 p hp⟩
  ·exact i2 p hp
theorem Ziv {nv nv2:Id→Nat} {d:Nat} {x:AV} (hx:ansE x=true) (hn:nv2 (rootId d)=nv (rootId d)) (hk:∀k,k < 16→nv2 (childId (rootId d) k)=nv (childId (rootId d) k))
  (hk2:∀k,k < 4→∀m,m < 16→nv2 (childId (childId (rootId d) k) m)=nv (childId (childId (rootId d) k) m)):
  impUT nv2 (rootId d) x=impUT nv (rootId d) x∧∀p∈(impUT nv (rootId d) x).2,p.1=rootId d∨(∃k,k < 16∧p.1=childId (rootId d) k)∨∃k,k < 4∧∃m,m < 16∧p.1=childId (childId (rootId d) k) m:=by
 have other:ansE2 x=true→(∀n,impUT n (rootId d) x=impU n (rootId d) x)→(impUT nv2 (rootId d) x=impUT nv (rootId d) x∧∀p∈(impUT nv (rootId d) x).2,p.1=rootId d∨(∃k,k < 16∧p.1=childId (rootId d) k)∨∃k,k < 4∧∃m,m < 16∧p.1=childId (childId (rootId d) k) m):=fun h2 h=>by
  rw[h,h]
  obtain ⟨f1,f2⟩:=Ze1 (nv:=nv) (nv2:=nv2) h2 hn hk
  exact ⟨f1,fun p hp=>(f2 p hp).imp id .inl⟩
 cases x with
 | tu cs=>
  simp only[ansE,Bool.and_eq_true] at hx
  have hl:=Nat.le_of_ble_eq_true hx.2
  obtain ⟨f1,f2⟩:=Zgf (nv:=nv) (nv2:=nv2) (id:=rootId d) (j:=0) hx.1 (by omega) fun k h4=>⟨hk k (by omega),hk2 k h4⟩
  refine ⟨by unfold impUT;simp only[f1],fun p hp=>?_⟩
  obtain ⟨k,h4,h | ⟨m,hm,h⟩⟩:=f2 p hp
  ·exact .inr (.inl ⟨k,by omega,h⟩)
  ·exact .inr (.inr ⟨k,h4,m,hm,h⟩)
 | bx T cs=>
  simp only[ansE,Bool.and_eq_true] at hx
  have hl:=Nat.le_of_ble_eq_true hx.2
  refine ⟨by unfold impUT;simp only[Zec (nv:=nv) (nv2:=nv2) (id:=rootId d) (cs:=cs) (j:=0) fun k h=>hk k (by omega),hn],fun p hp=>?_⟩
  unfold impUT at hp
  rcases List.mem_append.1 hp with hp | hp
  ·obtain ⟨k,h,e⟩:=Zeu p hp
   exact .inr (.inl ⟨k,by omega,e⟩)
  ·simp only[List.mem_singleton] at hp
   subst hp
   exact .inl rfl
 | ag cs=>exact other hx fun _=>rfl
 | mv kt vt l=>exact other hx fun _=>rfl
 | rw E t l=>exact other hx fun _=>rfl
 | d t v=>exact other hx fun _=>rfl
 | nil=>exact other hx fun _=>rfl
 | cst v=>exact other hx fun _=>rfl
 | ifc t y=>exact other hx fun _=>rfl
 | _=>simp[ansE,ansE1,flatB] at hx
theorem Zim (hcl:DetC cl) {f:FuncId} {args:List AV} {d:Option Nat} (hr:∀e,d=some e→(rootId e∈W∧rootId e∈X)∧(∀k,k < 16→childId (rootId e) k∈W∧childId (rootId e) k∈X)∧∀k,k < 4→∀m,m < 16→childId (childId (rootId e) k) m∈W∧childId (childId (rootId e) k) m∈X)
  (hx:∀x∈args,∀id∈men x,id∈W∧id∈X) (hagr:agr X st st2):Fr3 (callE cl f args d st) (callE cl f args d st2) W st st2 d:=by
 cases ha:args.all argE with
 | false=>
  refine .inl fun k=>?_
  unfold callE
  rw[ha]
  cases allG (give st (takes cl f) 6) args with
  | none=>rfl
  | some p=>
   obtain ⟨a,b,c⟩:=p
   cases c <;> rfl
 | true=>
  have ha':=List.all_eq_true.1 ha
  unfold callE
  rw[ha,Zfa (g:=give st (takes cl f) 6) (g2:=give st2 (takes cl f) 6) fun x h=>ZkM hagr (ha' x h) fun id hi=>(hx x h id hi).2]
  cases hg:allG (give st (takes cl f) 6) args with
  | none=>exact Fr3.fail
  | some p=>
   obtain ⟨forms,is,os⟩:=p
   cases os with
   | cons a b=>exact Fr3.fail
   | nil=>
    simp only[cond_true]
    have his:∀id∈is,id∈W∧id∈X:=fun id hi=>by
     obtain ⟨x,hxm,hm⟩:=Zg9 (Y:=men) (fun x h y i o hgx=>ZkA (ha' x h) hgx) hg id hi
     exact hx x hxm id hm
    refine Fr3.bind (hcl _ _) fun ans=>?_
    cases hb:(ansE ans.1&&ans.2.all isTop) with
    | false=>exact Fr3.fail
    | true=>
     simp only[cond_true]
     rw[Bool.and_eq_true] at hb
     have hlk:∀s:St,(bif hasSl 6 ans.1 then s.lock is else s)=s.lock (bif hasSl 6 ans.1 then is else []):=fun s=>by cases hasSl 6 ans.1 <;> rfl
     have hL:∀id∈(bif hasSl 6 ans.1 then is else []),id∈W∧id∈X:=fun id hi=>by
      cases h:hasSl 6 ans.1 with
      | true=>rw[h] at hi;exact his id hi
      | false=>rw[h] at hi;simp at hi
     rw[hlk st,hlk st2]
     generalize (bif hasSl 6 ans.1 then is else [])=L at hL
     have hlu:lockU st2 L=lockU st L:=Zc8 hagr fun id hi=>(hL id hi).2
     have hlw:∀p∈lockU st L,p.1∈W:=fun p hp=>(hL _ (Zdb p hp)).1
     cases d with
     | none=>
      have key:∀s:St,s.lock L=app (lockU s L) none .top s:=fun s=>Zdq
      simp only
      rw[key st,key st2,hlu]
      exact Fr3.upd hlw
     | some e=>
      obtain ⟨hroot,hkids,hkids2⟩:=hr e rfl
      obtain ⟨hc,hids⟩:=Ziv (nv:=st.nextVer) (nv2:=st2.nextVer) (d:=e) hb.1 (hagr.nextVer hroot.2) (fun k hk=>hagr.nextVer (hkids k hk).2) fun k hk m hm=>hagr.nextVer (hkids2 k hk m hm).2
      have key:∀s:St,imp 6 (s.lock L) (rootId e) ans.1=some ((impUT s.nextVer (rootId e) ans.1).1,⟨s.tm,insAll (lockU s L++(impUT s.nextVer (rootId e) ans.1).2) s.ob⟩):=fun s=>by
       rw[Zju (n:=3) (nv:=s.nextVer) hb.1 ZfQ (fun k=>ZfQ) fun k m=>ZfQ,Zdq,Zae]
      simp only
      rw[key st,key st2,hc,hlu]
      simp only
      refine Fr3.upd (o:=lockU st L++(impUT st.nextVer (rootId e) ans.1).2) (v:=(impUT st.nextVer (rootId e) ans.1).1) fun p hp=>?_
      rcases List.mem_append.1 hp with hp | hp
      ·exact hlw p hp
      ·rcases hids p hp with h | ⟨k,hk,h⟩ | ⟨k,hk,m,hm,h⟩
       ·rw[h];exact hroot.1
       ·rw[h];exact (hkids k hk).1
       ·rw[h];exact (hkids2 k hk m hm).1
end
end Go.Ev
end

section
namespace Go.Ev
variable [Tabs] [Orgs]
open Go
section
variable {P:Program} {cl:Cl} {o:Oper} {st st2:St}
theorem ZeA {st:St} {x:AV} :∀ {l:List Operand},x∈asArg st l→∃y∈l,x=st.ev y
 | y :: r,h=>by
  unfold asArg at h
  rcases List.mem_cons.1 h with rfl | h
  ·exact ⟨y,by simp,rfl⟩
  ·obtain ⟨z,hz,e⟩:=ZeA h
   exact ⟨z,by simp[hz],e⟩
theorem Zh5 (hcl:DetC cl) (hagr:agr (touE o st++wrE o st) st st2) (hev:∀x∈o.op.operands,st2.ev x=st.ev x):
  Fr3 (opE P cl o st) (opE P cl o st2) (wrE o st) st st2 o.dst:=by
 have hagrT:agr (touE o st) st st2:=hagr.sub fun id hi=>List.mem_append_left _ hi
 unfold opE
 cases hv:isV o.op with
 | true=>exact Fr3.of2 (Zjc (tm:=st.tm) hv hagrT hev)
 | false=>
  simp only[cond_false]
  have hm:∀x∈o.op.operands,∀id∈men (st.ev x),id∈touE o st:=fun x hx id hi=>Zfh (by simpa using hx) hi
  have hW:isE o.op=true→∀id,id∈rootE o∨id∈touE o st→id∈wrE o st∧id∈touE o st++wrE o st:=fun he id hi=>by
   have:id∈wrE o st:=by
    unfold wrE
    rw[he]
    simpa using hi
   exact ⟨this,List.mem_append_right _ this⟩
  have hroot:isE o.op=true→∀e,o.dst=some e→rootId e∈wrE o st∧rootId e∈touE o st++wrE o st:=fun he e hd=>hW he _ (.inl (by unfold rootE;rw[hd];simp))
  split
  ·-- a call
   rename_i c h
   rw[h] at hev hm
   split
   ·rename_i f hc
    have he:isE o.op=true:=by rw[h];simp only[isE,hc]
    rw[hev f (by simp[Op.operands,Call.operands,hc])]
    split
    ·refine Fr3.cond ?_ Fr3.fail
     rw[ZV (st:=st) (st2:=st2) c.args.toList (fun x hx=>hev x (by
      simp only[Op.operands,Call.operands,hc]
      simp at hx ⊢
      exact .inr hx))]
     refine Zim hcl (fun e hd=>⟨hroot he e hd,fun k hk=>hW he _ (.inl ?_),fun k hk m hm=>hW he _ (.inl ?_)⟩) (fun x hx id hi=>?_) hagr
     ·unfold rootE kids
      rw[hd,h]
      simp only[hc]
      exact List.mem_cons_of_mem _ (List.mem_append_left _ (List.mem_map.2 ⟨k,by simpa using hk,rfl⟩))
     ·unfold rootE kids
      rw[hd,h]
      simp only[hc]
      exact List.mem_cons_of_mem _ (List.mem_append_right _ (List.mem_flatMap.2 ⟨k,by simpa using hk,List.mem_map.2 ⟨m,by simpa using hm,rfl⟩⟩))
     ·obtain ⟨y,hy,rfl⟩:=ZeA hx
      exact hW he id (.inr (hm y (by
       simp only[Op.operands,Call.operands,hc]
       simp at hy ⊢
       exact .inr hy) id hi))
    ·exact Fr3.fail
   ·rename_i hc
    simp only[opA,h,hc]
    rw[ZV (st:=st) (st2:=st2) c.args.toList (fun x hx=>hev x (by
      simp only[Op.operands,Call.operands,hc]
      simpa using hx))]
    split
    ·rename_i x T hargs _
     refine Fr3.of2 (Fr2.cond ?_ Fr2.fail)
     have hx:∀id∈men1 x,id∈touE o st:=fun id hi=>by
      obtain ⟨y,hy,e⟩:=ZeA (st:=st) (x:=x) (l:=c.args.toList) (by rw[hargs];simp)
      exact hm y (by simp only[Op.operands,Call.operands,hc];simpa using hy) id (by rw[←e];exact Zem hi)
     rw[ZkO hagrT hx]
     exact Fr2.bind Det.lenA fun v=>Fr2.pure _
    ·exact Fr3.fail
   ·rename_i hc
    have he:isE o.op=true:=by rw[h];simp only[isE,hc]
    simp only[opA,h,hc]
    rw[ZV (st:=st) (st2:=st2) c.args.toList (fun x hx=>hev x (by
      simp only[Op.operands,Call.operands,hc]
      simpa using hx))]
    split
    ·rename_i s x T T' d hargs _ hd
     have hmem:∀z,z∈[s,x]→∀id∈men1 z,id∈touE o st:=fun z hz id hi=>by
      obtain ⟨y,hy,e⟩:=ZeA (st:=st) (x:=z) (l:=c.args.toList) (by rw[hargs];exact hz)
      exact hm y (by simp only[Op.operands,Call.operands,hc];simpa using hy) id (by rw[←e];exact Zem hi)
     rw[hd]
     refine Fr3.cond (Zh4 (hroot he d hd) (fun id hi=>hW he id (.inr (hmem s (by simp) id hi))) (fun id hi=>(hW he id (.inr (hmem x (by simp) id hi))).2) hagr) ?_
     split
     ·exact Zhw (hroot he d hd) (fun id hi=>hW he id (.inr (hmem s (by simp) id hi))) hagr
     ·exact Fr3.fail
    ·exact Fr3.fail
   ·rename_i hc
    simp only[opA,h,hc]
    rw[ZV (st:=st) (st2:=st2) c.args.toList (fun x hx=>hev x (by
      simp only[Op.operands,Call.operands,hc]
      simpa using hx))]
    refine Fr3.of2 ?_
    split
    ·exact Fr2.bind Det.toI fun p=>Fr2.bind Det.toI fun q=>Fr2.pure _
    ·exact Fr2.fail
   ·rename_i hc
    simp only[opA,h,hc]
    rw[ZV (st:=st) (st2:=st2) c.args.toList (fun x hx=>hev x (by
      simp only[Op.operands,Call.operands,hc]
      simpa using hx))]
    refine Fr3.of2 ?_
    split
    ·exact Fr2.bind Det.toI fun p=>Fr2.bind Det.toI fun q=>Fr2.pure _
    ·exact Fr2.fail
   ·exact Fr3.fail
  ·-- slice
   rename_i T x lo hi h
   have hx:x∈o.op.operands:=by rw[h];simp[Op.operands]
   rw[hev x hx]
   cases hs:slX (st.ev x) lo with
   | false=>exact Fr3.fail
   | true=>exact Fr3.of2 (Zgb h hs hev fun id hi ver=>hagrT.obj (hm x hx id (Zem hi)) ver)
  ·-- alloc
   rename_i T h
   have he:isE o.op=true:=by rw[h];rfl
   simp only[opA,h]
   split
   ·exact Za5 (is:=[]) (fun e hd=>hroot he e hd) (fun id hi=>by simp at hi) hagr
   ·exact Fr3.fail
  ·-- box
   rename_i T x h
   have he:isE o.op=true:=by rw[h];rfl
   rw[h] at hev
   simp only[opA,h,hev x (by simp[Op.operands])]
   split
   ·exact Za5 (is:=[]) (fun e hd=>hroot he e hd) (fun id hi=>by simp at hi) hagr
   ·exact Fr3.fail
  ·-- build
   rename_i T parts h
   rw[h] at hev
   have hp:parts.toList.map (fun p=>(p.1,st2.ev p.2))=parts.toList.map (fun p=>(p.1,st.ev p.2)):=List.map_congr_left fun p hp=>by
    rw[hev p.2 (by simp only[Op.operands];simp;exact ⟨p.1,by simpa using hp⟩)]
   simp only[opA,h,hp]
   refine Fr3.of2 ?_
   split
   ·exact Fr2.cond Fr2.fail Fr2.opt
   ·split
    ·exact Fr2.opt
    ·exact Fr2.fail
   ·exact Fr2.fail
  ·-- buildSlice
   rename_i T len parts h
   have he:isE o.op=true:=by rw[h];rfl
   rw[h] at hev hm
   have hmem:∀p∈parts.toList,p.2∈(Op.buildSlice T len parts).operands:=fun p hp=>by simp only[Op.operands];simp;exact ⟨p.1,by simpa using hp⟩
   have hp:parts.toList.map (fun p=>(p.1,st2.ev p.2))=parts.toList.map (fun p=>(p.1,st.ev p.2)):=List.map_congr_left fun p hp=>by rw[hev p.2 (hmem p hp)]
   simp only[opA,h,hp]
   split
   ·exact Fr3.fail
   ·split
    ·rename_i sz z hs hz
     refine Fr3.cond ?_ Fr3.fail
     split
     ·exact Fr3.fail
     ·rename_i cs hcs
      have hids:∀id∈menL cs,id∈touE o st:=fun id hi=>by
       rcases ZhH hcs hi with h0 | ⟨p,hp,hi⟩
       ·exfalso
        rw[Zi3 fun x hx=>?_] at h0
        ·simp at h0
        ·obtain ⟨i,_,rfl⟩:=List.mem_map.1 hx
         rw[List.getD_eq_getElem?_getD]
         cases hg:z[i % z.length]? with
         | none=>rfl
         | some y=>
          have hy:y∈z:=List.mem_of_getElem? hg
          unfold zeroAV at hz
          obtain ⟨u,_,rfl⟩:=Option.map_eq_some_iff.1 hz
          obtain ⟨v,_,rfl⟩:=List.mem_map.1 hy
          exact Zjz v
       ·obtain ⟨q,hq,rfl⟩:=List.mem_map.1 hp
        exact hm q.2 (hmem q hq) id hi
      rw[Zee hagrT hids]
      split
      ·exact Fr3.fail
      ·rename_i cs2 is hd
       split
       ·exact Fr3.fail
       ·exact Za5 (fun e hd=>hroot he e hd) (fun id hi=>hW he id (.inr (hids id (Zd0 hd id hi)))) hagr
    ·exact Fr3.fail
  ·-- store
   rename_i T x v h
   have he:isE o.op=true:=by rw[h];rfl
   rw[h] at hev hm
   have hmx:=hm x (by simp[Op.operands])
   have hmv:=hm v (by simp[Op.operands])
   simp only[opA,h,hev x (by simp[Op.operands]),hev v (by simp[Op.operands])]
   split
   ·rename_i vs z hvs hz
    refine Fr3.cond ?_ Fr3.fail
    generalize st.ev x=a at hmx ⊢
    split
    ·rename_i id ver off
     have hid:=hW he id (.inr (hmx id (List.mem_singleton.2 rfl)))
     rw[hagr.obj hid.2]
     split
     ·rename_i T' cs tg _
      refine Fr3.cond ?_ Fr3.fail
      exact Fr3.upd (o:=[(id,ver,.box T' (setRange cs off vs) tg)]) (v:=.top) fun p hp=>by
       simp only[List.mem_singleton] at hp
       subst hp
       exact hid.1
     ·exact Fr3.fail
    ·rename_i id ver i j
     have hid:=hW he id (.inr (hmx id (List.mem_singleton.2 rfl)))
     have hids:∀id∈menL vs,id∈touE o st:=fun id hi=>by
      obtain ⟨y,hy,hi⟩:=Zj9 hi
      exact hmv id (ZhC hvs hy hi)
     rw[Zee hagrT hids]
     split
     ·exact Fr3.fail
     ·rename_i vs2 is hd
      have his:∀i∈is,i∈wrE o st∧i∈touE o st++wrE o st:=fun i hi=>hW he i (.inr (hids i (Zd0 hd i hi)))
      rw[ZkK hagr (fun i hi=>(his i hi).2) hid.2]
      split
      ·rename_i E t l _
       refine Fr3.cond ?_ Fr3.fail
       split
       ·rename_i e _
        have key:∀s:St,((s.lock is).setOb id ver (.row E t (l.set i e) false)).put o.dst .top=app (lockU s is++[(id,ver,.row E t (l.set i e) false)]) o.dst .top s:=fun s=>by
         rw[Zdq]
         unfold app
         rw[Zae]
         rfl
        rw[key st,key st2,Zc8 hagr fun i hi=>(his i hi).2]
        refine Fr3.upd fun p hp=>?_
        rcases List.mem_append.1 hp with hp | hp
        ·exact (his _ (Zdb p hp)).1
        ·simp only[List.mem_singleton] at hp
         subst hp
         exact hid.1
       ·exact Fr3.fail
      ·exact Fr3.fail
    ·exact Fr3.fail
   ·exact Fr3.fail
  ·-- makeSlice
   rename_i T n c h
   have he:isE o.op=true:=by rw[h];rfl
   simp only[opA,h,hev n (by rw[h];simp[Op.operands]),hev c (by rw[h];simp[Op.operands])]
   refine Fr3.bind Det.toI fun p=>Fr3.bind Det.toI fun q=>?_
   split
   ·exact Fr3.fail
   ·split
    ·exact Fr3.fail
    ·exact Fr3.guard (Za5 (is:=[]) (fun e hd=>hroot he e hd) (fun id hi=>by simp at hi) hagr)
  ·-- makeMap
   rename_i T n h
   have he:isE o.op=true:=by rw[h];rfl
   cases n with
   | some n=>simp only[opA,h];exact Fr3.fail
   | none=>
    simp only[opA,h]
    split
    ·split
     ·exact Fr3.cond (Za5 (is:=[]) (fun e hd=>hroot he e hd) (fun id hi=>by simp at hi) hagr) Fr3.fail
     ·exact Fr3.fail
    ·exact Fr3.fail
  ·exact Fr3.fail
end
end Go.Ev
namespace Go.Ev
variable [Tabs] [Orgs]
open Go
theorem ZiG {cl:Cl} (hcl:DetC cl) {f:FuncId} {args:List AV} {dst:Option Nat} {st:St} {k:St→Option Ans} {y:Ans} (h:callE cl f args dst st k=some y):callA cl f args dst st k=some y:=by
 unfold callE at h
 unfold callA
 cases hg:allG (give st (takes cl f) 6) args with
 | none=>rw[hg] at h;cases h
 | some p=>
  obtain ⟨forms,is,os⟩:=p
  rw[hg] at h
  cases os with
  | cons x r=>cases h
  | nil=>
   simp only at h
   cases ha:args.all argE with
   | false=>rw[ha] at h;cases h
   | true=>
    rw[ha] at h
    simp only[nodupB,apartB,List.all_nil,Bool.and_true,cond_true] at h ⊢
    rcases hcl f forms with hd | ⟨⟨r,outs⟩,hd⟩
    ·simp only[M.bind,hd] at h;cases h
    ·simp only[M.bind,hd] at h ⊢
     cases hc:(ansE r&&outs.all isTop) with
     | false=>rw[hc] at h;cases h
     | true=>
      rw[hc] at h
      simp only[Bool.and_eq_true] at hc
      simp only[ZfU _ hc.2,Bool.or_false,dropIds,Zfo _ _ _ hc.2]
      exact h
theorem ZiP {cl:Cl} (hcl:DetC cl) {f:FuncId} {args:List AV} {dst:Option Nat} {st:St} {k:St→Option Ans} {y:Ans} (h:callE cl f args dst st k=some y):callX cl f args dst st k=some y:=by
 unfold callX
 cases hs:same2 args with
 | none=>exact ZiG hcl h
 | some x=>
  exfalso
  unfold callE at h
  cases hg:allG (give st (takes cl f) 6) args with
  | none=>rw[hg] at h;cases h
  | some p=>
   obtain ⟨forms,is,os⟩:=p
   rw[hg] at h
   cases os with
   | cons a b=>cases h
   | nil=>exact ZgL hs hg rfl
theorem Zls {P:Program} {cl:Cl} (hcl:DetC cl) {o:Oper} {st:St} {k:St→Option Ans} {y:Ans} (h:opE P cl o st k=some y):opA P cl o st k=some y:=by
 unfold opE at h
 cases hv:isV o.op with
 | true=>rw[hv] at h;exact h
 | false=>
  rw[hv] at h
  simp only[cond_false] at h
  cases hop:o.op <;> rw[hop] at h <;> first | exact h | (cases h;done) | skip
  case slice T x lo hi mx=>
   cases mx with
   | some m=>cases h
   | none=>
    simp only at h
    cases hs:slX (st.ev x) lo with
    | false=>rw[hs] at h;cases h
    | true=>rw[hs] at h;exact h
  rename_i c
  simp only at h
  cases hc:c.callee with
  | invoke r m=>rw[hc] at h;cases h
  | builtin b=>rw[hc] at h;cases b <;> first | exact h | (cases h;done)
  | value f=>
   rw[hc] at h
   simp only at h
   simp only[opA,hop,hc]
   cases hf:st.ev f with
   | cst u=>
    rw[hf] at h
    cases u with
    | func g first caps=>
     cases g with
     | func g=>
      simp only at h ⊢
      cases he:(first.isEmpty&&caps.isEmpty) with
      | false=>rw[he] at h;cases h
      | true=>rw[he] at h;exact ZiP hcl h
     | _=>cases h
    | _=>cases h
   | _=>rw[hf] at h;cases h
section
variable {P:Program} {Mod F0:Nat→Prop} {w0:World} {cl:Cl} {ops:Array Oper} {st0:St}
structure Up where
 v:AV
 o:Obs
def accE (ops:Array Oper) (st0:St) (us:Nat→Up) (S:Nat→Bool):Nat→St
 | 0=>st0
 | n+1=>if S n then app (us n).o (dstOf ops n) (us n).v (accE ops st0 us S n) else accE ops st0 us S n
variable {us:Nat→Up}
theorem Zey (S:Nat→Bool):∀n,(accE ops st0 us S n).tm.length=st0.tm.length
 | 0=>rfl
 | n+1=>by unfold accE;split <;> simp[ZgR,ZjQ,Zey S n]
theorem ZjX {o:Obs} {st:St} {d:Option Nat} {v:AV} {t:Nat} (h:d≠some t):(app o d v st).tm.getD t .top=st.tm.getD t .top:=by rw[ZgR];exact ZhY h
theorem ZkH {o:Obs} {st st2:St} {v:AV} {t:Nat} (h:st.tm.length=st2.tm.length):(app o (some t) v st).tm.getD t .top=(app o (some t) v st2).tm.getD t .top:=by rw[ZgR,ZgR];exact Zi0 h
theorem ZhF {S T:Nat→Bool} {t:Nat} :∀n,(∀j,j < n→dstOf ops j=some t→S j=T j)→(accE ops st0 us S n).tm.getD t .top=(accE ops st0 us T n).tm.getD t .top
 | 0,_=>rfl
 | n+1,h=>by
  have ih:=ZhF n fun j hj=>h j (by omega)
  unfold accE
  by_cases hd:dstOf ops n=some t
  ·rw[h n (by omega) hd,hd]
   split
   ·exact ZkH (by rw[Zey,Zey])
   ·exact ih
  ·split <;> split <;> simp only[ZjX hd,ih]
theorem ZhR {S T:Nat→Bool} {id:Id} :∀n,(∀j,j < n→(∃p∈(us j).o,p.1=id)→S j=T j)→find id (accE ops st0 us S n).ob=find id (accE ops st0 us T n).ob
 | 0,_=>rfl
 | n+1,h=>by
  have ih:=ZhR n fun j hj=>h j (by omega)
  unfold accE
  by_cases hd:∃p∈(us n).o,p.1=id
  ·rw[h n (by omega) hd]
   split
   ·rw[ZdV,ZdV];exact Z4 ih
   ·exact ih
  ·have hne:∀p∈(us n).o,p.1≠id:=fun p hp e=>hd ⟨p,hp,e⟩
   split <;> split <;> simp only[ZdV,ZaU hne,ih]
theorem ZcO {S T:Nat→Bool} :∀n,(∀j,j < n→S j=T j)→accE ops st0 us S n=accE ops st0 us T n
 | 0,_=>rfl
 | n+1,h=>by
  unfold accE
  rw[h n (by omega),ZcO n fun j hj=>h j (by omega)]
theorem Zi1 {S:Nat→Bool} {i:Nat} (hi:S i=false):∀n,i < n→(∀j,i < j→j < n→S j=true→(∀t,dstOf ops i=some t→dstOf ops j≠some t)∧∀p∈(us i).o,∀p'∈(us j).o,p.1≠p'.1)→
  app (us i).o (dstOf ops i) (us i).v (accE ops st0 us S n)=accE ops st0 us (addS S i) n
 | 0,h,_=>by omega
 | n+1,h,hj=>by
  by_cases hin:i=n
  ·subst hin
   unfold accE
   rw[hi,if_neg (by simp),if_pos (by simp[addS]),ZcO (T:=addS S i) i fun j hj=>by simp[addS];intro e;omega]
  ·have ih:=Zi1 hi n (by omega) fun j h1 h2=>hj j h1 (by omega)
   have hne:addS S i n=S n:=by simp[addS];intro e;omega
   unfold accE
   rw[hne]
   split
   ·rename_i hS
    obtain ⟨h1,h2⟩:=hj n (by omega) (by omega) hS
    rw[←ih,ZkW h2 fun t ht=>h1 t ht]
   ·exact ih
def StepE (P:Program) (cl:Cl) (ops:Array Oper) (o:Oper) (st:St) (u:Up) (lg:List Id×List Id):Prop:=
 (wantA ops o st=some true∧lg=(wrE o st,touE o st)∧(∀p∈u.o,p.1∈wrE o st)∧∀k,opE P cl o st k=k (app u.o o.dst u.v st))∨(wantA ops o st=some false∧u=⟨sk,[]⟩∧lg=([],[]))
def ChainE (P:Program) (cl:Cl) (ops:Array Oper):List Oper→St→List Up→LogE→St→Prop
 | [],st,[],[],st'=>st'=st
 | o :: r,st,u :: us,g :: gs,st'=>StepE P cl ops o st u g∧ChainE P cl ops r (app u.o o.dst u.v st) us gs st'
 | _,_,_,_,_=>False
theorem Zk1 (X:List Id) (st:St):agr X st st:=fun _ _=>rfl
theorem Zj5 (hcl:DetC cl) (o:Oper) (st:St):(∀k,opE P cl o st k=none)∨∃u:Up,(∀p∈u.o,p.1∈wrE o st)∧∀k,opE P cl o st k=k (app u.o o.dst u.v st):=by
 rcases Zh5 (P:=P) hcl (Zk1 _ st) (fun _ _=>rfl) with h | ⟨v,ob,h0,h1,_⟩
 ·exact .inl h
 ·exact .inr ⟨⟨v,ob⟩,h0,h1⟩
theorem Zfd (hcl:DetC cl) {k:St×LogE→Option Ans} {y:Ans} :∀(l:List Oper) (st:St) (log:LogE),opsE P cl ops l st log k=some y→
  ∃us gs st',ChainE P cl ops l st us gs st'∧us.length=l.length∧gs.length=l.length∧k (st',log++gs)=some y
 | [],st,log,h=>⟨[],[],st,rfl,rfl,rfl,by simpa[opsE,M.pure] using h⟩
 | o :: r,st,log,h=>by
  have run:wantA ops o st=some true→(opE P cl o st) (fun st'=>opsE P cl ops r st' (log++[(wrE o st,touE o st)]) k)=some y→∃us gs st',ChainE P cl ops (o :: r) st us gs st'∧us.length=(o :: r).length∧gs.length=(o :: r).length∧k (st',log++gs)=some y:=fun hw h=>by
   rcases Zj5 (P:=P) hcl o st with hd | ⟨u,h0,hd⟩
   ·rw[hd] at h;cases h
   ·rw[hd] at h
    obtain ⟨us,gs,st',hc,l1,l2,hk⟩:=Zfd hcl r _ _ h
    exact ⟨u :: us,(wrE o st,touE o st) :: gs,st',⟨.inl ⟨hw,rfl,h0,hd⟩,hc⟩,by simp[l1],by simp[l2],by simpa using hk⟩
  have skip:wantA ops o st=some false→opsE P cl ops r (st.put o.dst sk) (log++[([],[])]) k=some y→∃us gs st',ChainE P cl ops (o :: r) st us gs st'∧us.length=(o :: r).length∧gs.length=(o :: r).length∧k (st',log++gs)=some y:=fun hw h=>by
   obtain ⟨us,gs,st',hc,l1,l2,hk⟩:=Zfd hcl r _ _ h
   exact ⟨⟨sk,[]⟩ :: us,([],[]) :: gs,st',⟨.inr ⟨hw,rfl,rfl⟩,hc⟩,by simp[l1],by simp[l2],by simpa using hk⟩
  cases hg:o.guard with
  | none=>
   simp only[opsE,hg] at h
   exact run (by simp[wantA,hg]) h
  | some jw=>
   obtain ⟨j,want⟩:=jw
   cases ht:(ops[j]?).bind (·.dst) with
   | none=>simp only[opsE,hg,ht] at h;cases h
   | some t=>
    cases hb:st.tm.getD t .top with
    | d T b=>
     cases T with
     | bool=>
      have hset:({ st with tm:=st.tm.set t (.d .bool b) } :St)=st:=by
       cases st with
       | mk tmm obb=>simp only[St.mk.injEq,and_true];exact Zhs (st:=⟨tmm,obb⟩) hb (by simp)
      have hw:wantA ops o st=some (b==want):=by simp only[wantA,hg,dstOf,ht,hb]
      simp only[opsE,hg,ht,hb] at h
      cases b <;> cases want <;> simp only[M.bind,branch,cond_true,cond_false] at h <;> rw[hset] at h
      ·exact run hw h
      ·exact skip hw h
      ·exact skip hw h
      ·exact run hw h
     | _=>simp only[opsE,hg,ht,hb] at h;cases h
    | cst u=>
     simp only[opsE,hg,ht,hb] at h
     cases hn:notBool u with
     | false=>rw[hn] at h;cases h
     | true=>
      rw[hn] at h
      exact skip (by simp only[wantA,hg,dstOf,ht,hb,hn,cond_true]) h
    | _=>simp only[opsE,hg,ht,hb] at h;cases h
theorem Zfx {us0:List Up} {gs0:LogE} :∀(l:List Oper) (i:Nat) (us:List Up) (gs:LogE) (st st':St),i≤ops.size→ops.toList.drop i=l→us0.drop i=us→gs0.drop i=gs→ChainE P cl ops l st us gs st'→
  st=accE ops st0 (fun j=>us0.getD j ⟨.top,[]⟩) (fun _=>true) i→
  st'=accE ops st0 (fun j=>us0.getD j ⟨.top,[]⟩) (fun _=>true) ops.size∧∀j o,i≤j→ops[j]? =some o→StepE P cl ops o (accE ops st0 (fun j=>us0.getD j ⟨.top,[]⟩) (fun _=>true) j) (us0.getD j ⟨.top,[]⟩) (gs0.getD j ([],[]))
 | [],i,us,gs,st,st',hi,hl,_,_,hc,hst=>by
  have hsz:ops.size=i:=by
   have:=congrArg List.length hl
   simp at this
   omega
  cases us with
  | nil=>
   cases gs with
   | nil=>
    simp only[ChainE] at hc
    subst hc
    exact ⟨by rw[hsz];exact hst,fun j o hij ho=>by
     have:=(Array.getElem?_eq_some_iff.1 ho).1
     omega⟩
   | cons g gs=>exact hc.elim
  | cons u us=>cases gs <;> exact hc.elim
 | o :: r,i,[],gs,st,st',_,hl,_,_,hc,hst=>hc.elim
 | o :: r,i,u :: us,[],st,st',_,hl,_,_,hc,hst=>hc.elim
 | o :: r,i,u :: us,g :: gs,st,st',hi,hl,hu,hgs,hc,hst=>by
  obtain ⟨h1,h2⟩:=hc
  have ho:ops[i]? =some o:=by
   have:(ops.toList.drop i)[0]? =some o:=by rw[hl];rfl
   simpa using this
  have hl':ops.toList.drop (i+1)=r:=by rw[←List.tail_drop,hl];rfl
  have hu':us0.drop (i+1)=us:=by rw[←List.tail_drop,hu];rfl
  have hg':gs0.drop (i+1)=gs:=by rw[←List.tail_drop,hgs];rfl
  have hui:us0.getD i ⟨.top,[]⟩=u:=by
   have:(us0.drop i)[0]? =some u:=by rw[hu];rfl
   rw[List.getElem?_drop] at this
   simp only[Nat.add_zero] at this
   rw[List.getD_eq_getElem?_getD,this];rfl
  have hgi:gs0.getD i ([],[])=g:=by
   have:(gs0.drop i)[0]? =some g:=by rw[hgs];rfl
   rw[List.getElem?_drop] at this
   simp only[Nat.add_zero] at this
   rw[List.getD_eq_getElem?_getD,this];rfl
  have hst':app u.o o.dst u.v st=accE ops st0 (fun j=>us0.getD j ⟨.top,[]⟩) (fun _=>true) (i+1):=by
   unfold accE
   rw[if_pos rfl,←hst]
   simp only[hui,dstOf,ho,Option.bind_some]
  have hlt:=(Array.getElem?_eq_some_iff.1 ho).1
  obtain ⟨k1,k2⟩:=Zfx r (i+1) us gs _ st' (by omega) hl' hu' hg' h2 hst'
  refine ⟨k1,fun j o' hij ho'=>?_⟩
  by_cases hji:i=j
  ·subst hji
   rw[ho] at ho'
   cases ho'
   rw[←hst,hui,hgi]
   exact h1
  ·exact k2 j o' (by omega) ho'
theorem ZgW {a b:List Id} (h:disjB a b=true):∀x∈a,x∉b:=by
 intro x hx hb
 have:=List.all_eq_true.1 h x hx
 simp only[Bool.not_eq_true',List.any_eq_false] at this
 exact this x hb (Nat.beq_refl x)
theorem Zjv {log:LogE} (h:okLog ops log=true) {i j:Nat} (hij:i < j) (hj:j < ops.size):
  Nat.testBit ((aheads ops.toList []).getD j 0) i=true∨(∀x∈(log.getD i ([],[])).1,x∉(log.getD j ([],[])).1∧x∉(log.getD j ([],[])).2)∧∀x∈(log.getD j ([],[])).1,x∉(log.getD i ([],[])).2:=by
 have h1:=List.all_eq_true.1 h j (by simp[hj])
 have h2:=List.all_eq_true.1 h1 i (by simp[hij])
 rw[Bool.or_eq_true] at h2
 refine h2.imp id fun h2=>?_
 cases hi:log[i]? with
 | none=>rw[hi] at h2;cases h2
 | some p=>
  cases hj:log[j]? with
  | none=>rw[hi,hj] at h2;cases h2
  | some q=>
   rw[hi,hj] at h2
   obtain ⟨wi,ti⟩:=p
   obtain ⟨wj,tj⟩:=q
   simp only[Bool.and_eq_true] at h2
   rw[List.getD_eq_getElem?_getD,List.getD_eq_getElem?_getD,hi,hj]
   simp only[Option.getD_some]
   refine ⟨fun x hx=>?_,fun x hx=>ZgW h2.2 x hx⟩
   have:=ZgW h2.1 x hx
   simpa using this
end
end Go.Ev
end

section
namespace Go.Ev
variable [Tabs] [Orgs]
open Go
def lb (x:Nat) (l:Obs):Prop:=∀p∈l,x < p.1
theorem Zbk {x:Nat} {p:Nat×Obj} {r:Obs} :sortedB ((x,p) :: r)=true↔lb x r∧sortedB r=true:=by
 induction r generalizing x p with
 | nil=>exact ⟨fun _=>⟨fun q hq=>by simp at hq,rfl⟩,fun _=>rfl⟩
 | cons q r ih=>
  obtain ⟨y,q⟩:=q
  have e:sortedB ((x,p) :: (y,q) :: r)=(Nat.blt x y&&sortedB ((y,q) :: r)):=rfl
  rw[e,Bool.and_eq_true]
  constructor
  ·rintro ⟨h1,h2⟩
   have h1':x < y:=Nat.le_of_ble_eq_true h1
   refine ⟨fun z hz=>?_,h2⟩
   rcases List.mem_cons.1 hz with rfl | hz
   ·exact h1'
   ·exact Nat.lt_trans h1' ((ih.1 h2).1 z hz)
  ·rintro ⟨h1,h2⟩
   exact ⟨Nat.ble_eq_true_of_le (h1 (y,q) (by simp)),h2⟩
theorem Zkb {id:Nat} {p:Nat×Obj} :∀ {l:List (Nat×Nat×Obj)} {q:Nat×Nat×Obj},q∈ins id p l→q.1=id∨q∈l
 | [],q,h=>by simp[ins] at h;subst h;exact .inl rfl
 | (x,u) :: r,q,h=>by
  rw[Zco] at h
  split at h
  ·rcases List.mem_cons.1 h with rfl | h
   ·exact .inl rfl
   ·exact .inr (by simp[h])
  ·split at h
   ·rcases List.mem_cons.1 h with rfl | h
    ·exact .inl rfl
    ·exact .inr h
   ·rcases List.mem_cons.1 h with rfl | h
    ·exact .inr (by simp)
    ·exact (Zkb h).imp (fun e=>e) fun h=>by simp[h]
theorem ZgT {id:Nat} {p:Nat×Obj} :∀ {l:List (Nat×Nat×Obj)},sortedB l=true→sortedB (ins id p l)=true
 | [],_=>rfl
 | (x,u) :: r,h=>by
  obtain ⟨h1,h2⟩:=Zbk.1 h
  rw[Zco]
  split
  ·rename_i e
   exact Zbk.2 ⟨fun q hq=>by rw[←e];exact h1 q hq,h2⟩
  ·split
   ·rename_i h3 h4
    refine Zbk.2 ⟨fun q hq=>?_,h⟩
    have hlt:id < x:=by omega
    rcases List.mem_cons.1 hq with rfl | hq
    ·exact hlt
    ·exact Nat.lt_trans hlt (h1 q hq)
   ·rename_i h3 h4
    refine Zbk.2 ⟨fun q hq=>?_,ZgT h2⟩
    rcases Zkb hq with e | hq
    ·rw[e];omega
    ·exact h1 q hq
theorem ZbV:∀ {o l:Obs},sortedB l=true→sortedB (insAll o l)=true
 | [],_,h=>h
 | p :: r,l,h=>by unfold insAll;exact ZbV (ZgT h)
theorem ZaF (x:Nat) (p:Nat×Obj) (r:Obs) (id:Nat):find id ((x,p) :: r)=if x=id then some p else find id r:=by
 simp only[find]
 by_cases h:x=id
 ·subst h;simp
 ·rw[ZdN h,if_neg h];rfl
theorem Zgd {x:Nat} :∀ {l:Obs},lb x l→find x l=none
 | [],_=>rfl
 | (y,p) :: r,h=>by
  have:=h (y,p) (by simp)
  simp only at this
  rw[ZaF,if_neg (by omega)]
  exact Zgd fun q hq=>h q (by simp[hq])
theorem ZgN:∀ {l l':Obs},sortedB l=true→sortedB l'=true→(∀id,find id l=find id l')→l=l'
 | [],[],_,_,_=>rfl
 | [],(y,q) :: r',_,_,h=>by
  have:=h y
  rw[ZaF,if_pos rfl] at this
  cases this
 | (x,p) :: r,[],_,_,h=>by
  have:=h x
  rw[ZaF,if_pos rfl] at this
  cases this
 | (x,p) :: r,(y,q) :: r',h1,h2,h=>by
  obtain ⟨l1,s1⟩:=Zbk.1 h1
  obtain ⟨l2,s2⟩:=Zbk.1 h2
  have hxy:x=y:=by
   rcases Nat.lt_trichotomy x y with hlt | e | hlt
   ·have:=h x
    rw[ZaF,if_pos rfl,ZaF,if_neg (by omega),Zgd fun z hz=>Nat.lt_trans hlt (l2 z hz)] at this
    cases this
   ·exact e
   ·have:=h y
    rw[ZaF,if_neg (by omega),ZaF,if_pos rfl,Zgd fun z hz=>Nat.lt_trans hlt (l1 z hz)] at this
    cases this
  subst hxy
  have hp:p=q:=by
   have:=h x
   rw[ZaF,if_pos rfl,ZaF,if_pos rfl] at this
   exact Option.some.inj this
  subst hp
  have hr:r=r':=ZgN s1 s2 fun id=>by
   by_cases hid:x=id
   ·subst hid;rw[Zgd l1,Zgd l2]
   ·have:=h id
    rwa[ZaF,if_neg hid,ZaF,if_neg hid] at this
  rw[hr]
section
variable {P:Program} {Mod F0:Nat→Prop} {w0:World} {cl:Cl} {ops:Array Oper} {st0:St} {us:Nat→Up}
theorem ZdX (h:sortedB st0.ob=true) {S:Nat→Bool} :∀n,sortedB (accE ops st0 us S n).ob=true
 | 0=>h
 | n+1=>by
  unfold accE
  split
  ·rw[ZdV];exact ZbV (ZdX h n)
  ·exact ZdX h n
theorem Zjg {X:List Id} {st st2:St} {o o':Obs} {d:Option Nat} {v v':AV} (hagr:agr X st st2) (ho:∀p∈o,p.1∈X) (ho':∀p∈o',p.1∈X) (hl:st.tm.length=st2.tm.length) (hs:sortedB st2.ob=true)
  (h:app o d v st=app o' d v' st):app o d v st2=app o' d v' st2:=by
 have h1:insAll o st.ob=insAll o' st.ob:=by rw[←ZdV (d:=d) (v:=v),←ZdV (d:=d) (v:=v'),h]
 have h2:st.put d v=st.put d v':=by
  have:=congrArg St.tm h
  rw[ZgR,ZgR] at this
  have e:∀u,st.put d u=⟨(st.put d u).tm,st.ob⟩:=fun u=>by cases d <;> rfl
  rw[e v,e v',this]
 have h3:insAll o st2.ob=insAll o' st2.ob:=ZgN (ZbV hs) (ZbV hs) fun id=>by
  by_cases hid:id∈X
  ·rw[Z4 (hagr id hid),Z4 (o:=o') (hagr id hid),h1]
  ·rw[ZaU fun p hp e=>hid (by rw[←e];exact ho p hp),ZaU fun p hp e=>hid (by rw[←e];exact ho' p hp)]
 have h4:=Zk9 h2 hl
 unfold app
 rw[h3]
 have e:∀u,(⟨st2.tm,insAll o' st2.ob⟩:St).put d u=⟨(st2.put d u).tm,insAll o' st2.ob⟩:=fun u=>by cases d <;> rfl
 rw[e v,e v',h4]
theorem ZiC {i:Nat} :∀n,i≤n→accE ops st0 us (fun j=>decide (j < i)) n=accE ops st0 us (fun _=>true) i
 | 0,h=>by
  obtain rfl:i=0:=by omega
  rfl
 | n+1,h=>by
  by_cases hi:i=n+1
  ·subst hi
   exact ZcO _ fun j hj=>by simpa using hj
  ·rw[←ZiC n (by omega)]
   conv=>lhs;unfold accE
   rw[if_neg (by simp;omega)]
open Classical in
theorem Zk3 (hcl:Spec P cl) (hdet:DetC cl) {y:Ans} {k:St→Option Ans} {Q:Exit→Act→World→Prop} (hQ:∀st a w,Rel Mod F0 w0 st a w→k st=some y→Q .normal a w)
  (hok:drawOK ops=true) (hsort:sortedB st0.ob=true) {gs:Nat→List Id×List Id}
  (hlog:∀i j,i < j→j < ops.size→Nat.testBit ((aheads ops.toList []).getD j 0) i=true∨(∀x∈(gs i).1,x∉(gs j).1∧x∉(gs j).2)∧∀x∈(gs j).1,x∉(gs i).2)
  (hsteps:∀j o,ops[j]? =some o→StepE P cl ops o (accE ops st0 us (fun _=>true) j) (us j) (gs j)) (hk:k (accE ops st0 us (fun _=>true) ops.size)=some y):
  ∀(fuel:Nat) (listed:Array Bool) (a:Act) (w:World),listed.size=ops.size→Closed ops (fun j=>listed.getD j false)→(List.range ops.size).countP (fun j=>!listed.getD j true)≤fuel→
   Rel Mod F0 w0 (accE ops st0 us (fun j=>listed.getD j false) ops.size) a w→wpAny P .any ops Q fuel listed a w:=by
 have hwr:∀j o,ops[j]? =some o→∀p∈(us j).o,p.1∈(gs j).1:=fun j o ho p hp=>by
  rcases hsteps j o ho with ⟨_,hg,hid,_⟩ | ⟨_,hu,_⟩
  ·rw[hg];exact hid p hp
  ·rw[hu] at hp;simp at hp
 have hget:∀(listed:Array Bool) j,j < listed.size→listed.getD j true=listed.getD j false:=fun listed j hj=>by simp[hj]
 have allDone:∀(listed:Array Bool) a w,listed.size=ops.size→(∀j,j < ops.size→listed.getD j false=true)→Rel Mod F0 w0 (accE ops st0 us (fun j=>listed.getD j false) ops.size) a w→Q .normal a w:=by
  intro listed a w hs hall hr
  rw[ZcO (T:=fun _=>true) ops.size hall] at hr
  exact hQ _ a w hr hk
 have ofReady:∀(listed:Array Bool),listed.size=ops.size→Region.ready .any ops listed=[]→∀j,j < ops.size→listed.getD j false=true:=by
  intro listed hs hr j
  induction j using Nat.strongRecOn with
  | _ j ih=>
   intro hj
   cases hl:listed.getD j false with
   | true=>rfl
   | false=>
    have:j∈Region.ready .any ops listed:=by
     rw[mem_ready]
     refine ⟨by rw[hget listed j (by omega)];exact hl,ops[j],by simp[hj],fun e he hb=>?_⟩
     have:=((Zaz hok) j ops[j] (by simp[hj])).1 e he hb
     exact ih e.on this (by omega)
    rw[hr] at this
    cases this
 have step:∀(K:Array Bool→Act→World→Prop) (listed:Array Bool) (a:Act) (w:World) (i:Nat),listed.size=ops.size→Closed ops (fun j=>listed.getD j false)→
   Rel Mod F0 w0 (accE ops st0 us (fun j=>listed.getD j false) ops.size) a w→i∈Region.ready .any ops listed→
   (∀a' w',Closed ops (fun j=>(listed.setIfInBounds i true).getD j false)→Rel Mod F0 w0 (accE ops st0 us (fun j=>(listed.setIfInBounds i true).getD j false) ops.size) a' w'→K (listed.setIfInBounds i true) a' w')→
   wpOp P ops Q i (K (listed.setIfInBounds i true)) a w:=by
  intro K listed a w i hs hcld hr hi hK
  obtain ⟨hun,o,ho,hpre⟩:=mem_ready.1 hi
  have hlt:=(Array.getElem?_eq_some_iff.1 ho).1
  have hSi:listed.getD i false=false:=by rw[←hget listed i (by omega)];exact hun
  have hdi:dstOf ops i=o.dst:=by simp[dstOf,ho]
  have hbefore:∀j,Nat.testBit ((aheads ops.toList []).getD i 0) j=true→listed.getD j false=true:=by
   intro j hb
   obtain ⟨o2,ho2,e,he,hbnd,h⟩:=ZdE ops.toList [] i j (by simp) hb
   have:o2=o:=by
    simp only[List.length_nil,Nat.sub_zero,Array.getElem?_toList] at ho2
    rw[ho] at ho2
    cases ho2;rfl
   subst this
   have hon:=hpre e (by simpa using he) hbnd
   rcases h with h | ⟨_,h⟩
   ·rw[←h];exact hon
   ·exact ZaA hcld e.on j hon h
  have hslot:∀t∈o.looksAt ops,(accE ops st0 us (fun j=>listed.getD j false) ops.size).tm.getD t .top=(accE ops st0 us (fun _=>true) i).tm.getD t .top:=by
   intro t ht
   rw[←ZiC (i:=i) ops.size (by omega)]
   refine ZhF ops.size fun j hj hdj=>?_
   obtain ⟨p,hp⟩:∃p,ops[j]? =some p:=⟨ops[j],by simp[hj]⟩
   have hpd:p.dst=some t:=by simpa[dstOf,hp] using hdj
   rcases Nat.lt_trichotomy j i with hji | hji | hji
   ·rw[decide_eq_true hji]
    rcases (Zaz hok i o ho).2 j p hji hp with hb | hap
    ·exact hbefore j hb
    ·exact absurd ht ((Oper.apart_spec hap).1 t hpd)
   ·subst hji
    rw[hSi]
    simp
   ·rw[decide_eq_false (by omega)]
    cases hSj:listed.getD j false with
    | false=>rfl
    | true=>
     rcases (Zaz hok j p hp).2 i o hji ho with hb | hap
     ·have:listed.getD i false=true:=ZaA hcld j i hSj hb
      rw[hSi] at this
      cases this
     ·exact absurd ht ((Oper.apart_spec hap).2.2 t hpd)
  have hfind:∀id,id∈(gs i).1∨id∈(gs i).2→find id (accE ops st0 us (fun j=>listed.getD j false) ops.size).ob=find id (accE ops st0 us (fun _=>true) i).ob:=by
   intro id hid
   rw[←ZiC (i:=i) ops.size (by omega)]
   refine ZhR ops.size fun j hj ⟨p,hp,hpe⟩=>?_
   obtain ⟨q,hq⟩:∃q,ops[j]? =some q:=⟨ops[j],by simp[hj]⟩
   have hw:id∈(gs j).1:=by rw[←hpe];exact hwr j q hq p hp
   rcases Nat.lt_trichotomy j i with hji | hji | hji
   ·rw[decide_eq_true hji]
    rcases hlog j i hji hlt with hb | ⟨h1,_⟩
    ·exact hbefore j hb
    ·rcases hid with hid | hid
     ·exact absurd hid (h1 id hw).1
     ·exact absurd hid (h1 id hw).2
   ·subst hji
    rw[hSi]
    simp
   ·rw[decide_eq_false (by omega)]
    cases hSj:listed.getD j false with
    | false=>rfl
    | true=>
     rcases hlog i j hji hj with hb | ⟨h1,h2⟩
     ·have:listed.getD i false=true:=ZaA hcld j i hSj hb
      rw[hSi] at this
      cases this
     ·rcases hid with hid | hid
      ·exact absurd hw (h1 id hid).1
      ·exact absurd hid (h2 id hw)
  have hev:∀x∈o.op.operands,(accE ops st0 us (fun j=>listed.getD j false) ops.size).ev x=(accE ops st0 us (fun _=>true) i).ev x:=by
   intro x hx
   cases x with
   | tmp t=>exact hslot t (List.mem_append_left _ (List.mem_filterMap.2 ⟨.tmp t,by simpa using hx,rfl⟩))
   | _=>rfl
  have hwant:wantA ops o (accE ops st0 us (fun j=>listed.getD j false) ops.size)=wantA ops o (accE ops st0 us (fun _=>true) i):=by
   unfold wantA
   cases hg:o.guard with
   | none=>rfl
   | some jw=>
    obtain ⟨g,want⟩:=jw
    simp only
    cases ht:dstOf ops g with
    | none=>rfl
    | some t=>
     simp only
     rw[hslot t (by
      unfold Oper.looksAt
      rw[hg]
      refine List.mem_append_right _ ?_
      simp only
      rw[show (ops[g]?).bind (·.dst)=some t from ht]
      simp)]
  have hadd:app (us i).o o.dst (us i).v (accE ops st0 us (fun j=>listed.getD j false) ops.size)=accE ops st0 us (fun j=>(listed.setIfInBounds i true).getD j false) ops.size:=by
   rw[←hdi,Zi1 hSi ops.size hlt fun j hij hj hSj=>?_]
   ·refine ZcO _ fun j hj=>?_
    simp only[addS]
    by_cases hji:j=i
    ·subst hji;simp[hs,hlt]
    ·rw[getD_set_ne false (Ne.symm hji)];simp[hji]
   ·obtain ⟨p,hp⟩:∃p,ops[j]? =some p:=⟨ops[j],by simp[hj]⟩
    have hnb:¬Nat.testBit ((aheads ops.toList []).getD j 0) i=true:=fun hb=>by
     have:listed.getD i false=true:=ZaA hcld j i hSj hb
     rw[hSi] at this
     cases this
    refine ⟨fun t ht hdj=>?_,fun q hq q' hq' e=>?_⟩
    ·rcases (Zaz hok j p hp).2 i o hij ho with hb | hap
     ·exact hnb hb
     ·exact (Oper.apart_spec hap).2.1 t (by rw[←hdi];exact ht) (by simpa[dstOf,hp] using hdj)
    ·rcases hlog i j hij hj with hb | ⟨h1,_⟩
     ·exact hnb hb
     ·exact (h1 _ (hwr i o ho q hq)).1 (by rw[e];exact hwr j p hp q' hq')
  have hcld':Closed ops (fun j=>(listed.setIfInBounds i true).getD j false):=by
   intro j p hp hj e he hb
   by_cases hji:j=i
   ·subst hji
    rw[ho] at hp
    cases hp
    exact getD_set_true (hpre e he hb)
   ·simp only at hj
    rw[getD_set_ne false (Ne.symm hji)] at hj
    exact getD_set_true (hcld j p hp hj e he hb)
  unfold wpOp
  simp only[ho]
  rcases hsteps i o ho with ⟨hw,hg,hids,hop⟩ | ⟨hw,hu,hg⟩
  ·rw[if_pos (ZeK hr (by rw[hwant];exact hw))]
   refine .inl ?_
   have hagr:agr (touE o (accE ops st0 us (fun _=>true) i)++wrE o (accE ops st0 us (fun _=>true) i)) (accE ops st0 us (fun _=>true) i) (accE ops st0 us (fun j=>listed.getD j false) ops.size):=fun id hid=>by
    refine hfind id ?_
    rw[hg]
    rcases List.mem_append.1 hid with h | h
    ·exact .inr h
    ·exact .inl h
   rcases Zh5 (P:=P) hdet hagr hev with hn | ⟨v,o',h0,h1,h2⟩
   ·have:=hop fun _=>some y
    rw[hn] at this
    cases this
   ·have e1:app o' o.dst v (accE ops st0 us (fun _=>true) i)=app (us i).o o.dst (us i).v (accE ops st0 us (fun _=>true) i):=by
     have:=h1 fun s=>if s=app (us i).o o.dst (us i).v (accE ops st0 us (fun _=>true) i) then some y else none
     rw[hop,if_pos rfl] at this
     exact Classical.byContradiction fun hne=>by rw[if_neg hne] at this;cases this
    have e2:=Zjg hagr (fun p hp=>List.mem_append_right _ (h0 p hp)) (fun p hp=>List.mem_append_right _ (hids p hp)) (by rw[Zey,Zey]) (ZdX hsort _) e1
    have h3:=h2 fun s=>if s=app (us i).o o.dst (us i).v (accE ops st0 us (fun j=>listed.getD j false) ops.size) then some y else none
    rw[e2,if_pos rfl] at h3
    refine Oper.wp_mono (fun a' w' h'=>?_) (Zhc hcl (Zls hdet h3) hr Q)
    obtain ⟨st',hr',hst'⟩:=h'
    have:st'=app (us i).o o.dst (us i).v (accE ops st0 us (fun j=>listed.getD j false) ops.size):=Classical.byContradiction fun hne=>by rw[if_neg hne] at hst';cases hst'
    subst this
    rw[hadd] at hr'
    exact hK a' w' hcld' hr'
  ·have hwn:=ZeK hr (by rw[hwant];exact hw)
   rw[if_neg (by rw[hwn];decide)]
   have hr':=ZhN hr o.dst
   rw[hu] at hadd
   rw[←Zlt,hadd] at hr'
   exact hK _ w hcld' hr'
 intro fuel
 induction fuel with
 | zero=>
  intro listed a w hs hcld hcnt hr
  have hall:∀j,j < ops.size→listed.getD j false=true:=fun j hj=>by
   have:=List.countP_eq_zero.1 (Nat.le_zero.1 hcnt) j (by simp[hj])
   rw[hget listed j (by omega)] at this
   simpa using this
  refine ⟨List.eq_nil_iff_forall_not_mem.2 fun j hj=>?_,allDone listed a w hs hall hr⟩
  obtain ⟨h1,o,ho,_⟩:=mem_ready.1 hj
  have hlt:=(Array.getElem?_eq_some_iff.1 ho).1
  rw[hget listed j (by omega),hall j hlt] at h1
  cases h1
 | succ fuel ih=>
  intro listed a w hs hcld hcnt hr
  refine ⟨fun h=>allDone listed a w hs (ofReady listed hs h) hr,fun i hi=>step (fun listed=>wpAny P .any ops Q fuel listed) listed a w i hs hcld hr hi fun a' w' hc' hr'=>?_⟩
  refine ih _ a' w' (by simpa using hs) hc' ?_ hr'
  obtain ⟨hun,o,ho,_⟩:=mem_ready.1 hi
  have hlt:=(Array.getElem?_eq_some_iff.1 ho).1
  have:=Zge (p:=fun j=>!listed.getD j true) (p':=fun j=>!(listed.setIfInBounds i true).getD j true) (i:=i) (fun j hj=>by
   by_cases hji:i=j
   ·subst hji;simp[hs,hlt] at hj
   ·rw[getD_set_ne true hji] at hj;exact hj) (by simpa using hun) (by simp[hs,hlt]) (List.range ops.size) (by simp[hlt])
  omega
theorem Zj4 (hcl:Spec P cl) (hdet:DetC cl) {id:Nat} {y:Ans} {k:St→Option Ans} {Q:Exit→Act→World→Prop} (hQ:∀st a w,Rel Mod F0 w0 st a w→k st=some y→Q .normal a w)
  (hm:P.follows .mixedOrders=true) (hok:drawOK ops=true) {st:St} {a:Act} {w:World} (h:runE P cl ops st k=some y) (hr:Rel Mod F0 w0 st a w):(Code.region id ops true).wp P Q a w:=by
 unfold runE at h
 obtain ⟨us,gs,st',hc,l1,l2,hk⟩:=Zfd hdet ops.toList st [] h
 rw[List.nil_append] at hk
 simp only at hk
 cases hb:(sortedB st.ob&&okLog ops gs) with
 | false=>rw[hb] at hk;cases hk
 | true=>
  rw[hb] at hk
  rw[Bool.and_eq_true] at hb
  have hk':k st'=some y:=hk
  obtain ⟨h1,h2⟩:=Zfx (st0:=st) (us0:=us) (gs0:=gs) ops.toList 0 us gs st st' (Nat.zero_le _) rfl rfl rfl hc rfl
  subst h1
  refine wp_region_any hm (Zk3 (gs:=fun j=>gs.getD j ([],[])) hcl hdet hQ hok hb.1 (fun i j hij hj=>Zjv hb.2 hij hj) (fun j o ho=>h2 j o (Nat.zero_le _) ho) hk' ops.size (Array.replicate ops.size false) a _ (by simp) ?_ (Nat.le_trans List.countP_le_length (by simp)) ?_)
  ·intro j o ho hj
   by_cases hlt:j < ops.size <;> simp[hlt] at hj
  ·have:accE ops st (fun j=>us.getD j ⟨.top,[]⟩) (fun j=>(Array.replicate ops.size false).getD j false) ops.size=st:=by
    have:∀n,accE ops st (fun j=>us.getD j ⟨.top,[]⟩) (fun j=>(Array.replicate ops.size false).getD j false) n=st:=by
     intro n
     induction n with
     | zero=>rfl
     | succ n ih=>
      unfold accE
      rw[if_neg,ih]
      by_cases hlt:n < ops.size <;> simp[hlt]
    exact this _
   rw[this]
   obtain ⟨hd,F,ρ,hR,hE⟩:=hr
   have hE':Evo (fun _=>False) F w F { w with drawn:=w.drawn+1 } :=⟨rfl,rfl,rfl,Nat.le_refl _,fun _ h=>h,fun _ h=>.inl h,fun _ _ _=>rfl⟩
   obtain ⟨hR',hE2⟩:=hR.world hE' (fun _ h=>h.elim) (fun _ _ h=>h) hR.low
   exact ⟨hd,F,ρ,hR',hE.trans hE2⟩
end
end Go.Ev
end

section
namespace Go.Ev
variable [Tabs] [Orgs]
open Go
section
variable {P:Program} {Mod F0:Nat→Prop} {w0:World} {cl:Cl} {tb:Tb} {y:Ans} {ps:List (Nat×(Lt→Kt))}
def Good (Mod F0:Nat→Prop) (w0:World) (y:Ans) (ps:List (Nat×(Lt→Kt))) (n:Nat) (k:Lt→Kt) (a:Act) (w:World):Prop:=
 ∃m st,m≤n∧Rel Mod F0 w0 st a w∧k (Ls ps m) st=some y
def QC (Mod F0:Nat→Prop) (w0:World) (y:Ans) (ps:List (Nat×(Lt→Kt))) (n:Nat) (k:Lt→Kt) (x:Lt→Nat→Kt) (r:Lt→Kt):Exit→Act→World→Prop
 |.normal,a,w=>Good Mod F0 w0 y ps n k a w
 |.exit j,a,w=>Good Mod F0 w0 y ps n (fun L=>x L j) a w
 |.ret,a,w=>Good Mod F0 w0 y ps n r a w
 | _,_,_=>False
theorem Good.le {n n':Nat} (h:n≤n') {k:Lt→Kt} {a:Act} {w:World} (hg:Good Mod F0 w0 y ps n k a w):Good Mod F0 w0 y ps n' k a w:=
 let ⟨m,st,hm,hr⟩:=hg;⟨m,st,Nat.le_trans hm h,hr⟩
theorem QC.le {n n':Nat} (h:n≤n') {k:Lt→Kt} {x:Lt→Nat→Kt} {r:Lt→Kt} :∀e a w,QC Mod F0 w0 y ps n k x r e a w→QC Mod F0 w0 y ps n' k x r e a w
 |.normal,_,_,hg=>Good.le h hg
 |.exit j,_,_,hg=>Good.le h (k:=fun L=>x L j) hg
 |.ret,_,_,hg=>Good.le h hg
 |.goto _,_,_,hg=>hg
 |.panic _,_,_,hg=>hg
 |.outgrown,_,_,hg=>hg
theorem Zfz {p:Nat→Prop} :∀n,p n→∃m,p m∧∀j,p j→m≤j:=by
 intro n
 induction n using Nat.strongRecOn with
 | _ n ih=>
  intro hn
  by_cases h:∃m,m < n∧p m
  ·obtain ⟨m,hm,hp⟩:=h
   exact ih m hm hp
  ·exact ⟨n,hn,fun j hj=>Nat.le_of_not_lt fun hlt=>h ⟨j,hlt,hj⟩⟩
open Classical in
noncomputable def least (p:Nat→Prop):Nat:=if h:∃n,p n then Classical.choose (let ⟨n,hn⟩:=h;Zfz n hn) else 0
theorem ZgZ {p:Nat→Prop} {n:Nat} (h:p n):p (least p)∧∀j,p j→least p≤j:=by
 have he:∃n,p n:=⟨n,h⟩
 unfold least
 rw[dif_pos he]
 exact Classical.choose_spec (let ⟨n,hn⟩:=he;Zfz n hn)
theorem ZkU {c:Operand} {st:St} {a:Act} {w:World} {k:Bool→Option Ans} (hr:Rel Mod F0 w0 st a w) (h:M.bind (toB (st.ev c)) branch k=some y):∃t,a.eval c=.bool t∧k t=some y:=by
 obtain ⟨t,hb,h⟩:=(Sat.bind (q:=fun t=>st.ev c=.d .bool t) Sat.toB (fun b hb=>Sat.mono Sat.branch (fun t ht=>by rw[ht];exact hb))) k y h
 obtain ⟨_,F,ρ,hR,_⟩:=hr
 have:=Zg hR c
 rw[hb] at this
 exact ⟨t,Zat this,h⟩
theorem Zkc {n i:Nat} {st:St} (h:Ls ps n i st=some y):∃m,n=m+1∧procOf ps i (Ls ps m) st=some y:=by
 cases n with
 | zero=>cases h
 | succ m=>exact ⟨m,rfl,h⟩
def Has (ps:List (Nat×(Lt→Kt))) (qs:List (Nat×(Lt→Kt))):Prop:=∀j p,(j,p)∈qs→∀L st,procOf ps j L st=p L st
theorem Has.left {qs rs:List (Nat×(Lt→Kt))} (h:Has ps (qs++rs)):Has ps qs:=fun j p hj=>h j p (by simp[hj])
theorem Has.right {qs rs:List (Nat×(Lt→Kt))} (h:Has ps (qs++rs)):Has ps rs:=fun j p hj=>h j p (by simp[hj])
theorem ZQ (hcl:Spec P cl) (hdet:DetC cl):∀(c:Code) (i:Nat) (k:Lt→Kt) (x:Lt→Nat→Kt) (r:Lt→Kt),Has ps (procs P cl tb c i k x r)→
  ∀(n:Nat) (st:St) (a:Act) (w:World),evC P cl tb (Ls ps n) c i (k (Ls ps n)) (x (Ls ps n)) (r (Ls ps n)) st=some y→Rel Mod F0 w0 st a w→c.wp P (QC Mod F0 w0 y ps n k x r) a w
 |.skip,i,k,x,r,_,n,st,a,w,h,hr=>wp_skip ⟨n,st,Nat.le_refl _,hr,h⟩
 |.region id ops draw,i,k,x,r,_,n,st,a,w,h,hr=>by
  cases draw with
  | true=>
   simp only[evC,cond_true] at h
   cases hc:(P.follows .mixedOrders&&drawOK ops) with
   | false=>rw[hc] at h;cases h
   | true=>
    rw[hc] at h
    rw[Bool.and_eq_true] at hc
    simp only[cond_true] at h
    cases hD:ops.toList.all (isD P) with
    | true=>
     rw[hD] at h
     exact ZkV hcl hdet (fun st a w hr hk=>⟨n,st,Nat.le_refl _,hr,hk⟩) hc.1 hc.2 h hr
    | false=>
     rw[hD] at h
     exact Zj4 hcl hdet (fun st a w hr hk=>⟨n,st,Nat.le_refl _,hr,hk⟩) hc.1 hc.2 h hr
  | false=>
   refine wp_region ?_
   have h':opsA P cl ops ops.toList st (k (Ls ps n))=some y:=by simpa[evC] using h
   have:=Zdt (Q:=QC Mod F0 w0 y ps n k x r) hcl (fun st a w hr hk=>⟨n,st,Nat.le_refl _,hr,hk⟩) ops.toList 0 st a w rfl h' hr
   simpa[List.range_eq_range'] using this
 |.seq a b,i,k,x,r,hps,n,st,ac,w,h,hr=>by
  refine wp_seq ?_
  cases hl:labOf tb i with
  | none=>
   simp only[procs,hl,List.nil_append] at hps
   simp only[evC,hl] at h
   refine wp_mono (ZQ hcl hdet a (i+1) (fun L=>evC P cl tb L b (i+1+nn a) (k L) (x L) (r L)) x r hps.left n st ac w h hr) fun e a' w' he=>?_
   cases e with
   | normal=>
    obtain ⟨m,st',hm,hr',hk⟩:=he
    exact wp_mono (ZQ hcl hdet b (i+1+nn a) k x r hps.right m st' a' w' hk hr') (QC.le hm)
   | _=>exact he
  | some lab=>
   simp only[procs,hl] at hps
   simp only[evC,hl] at h
   refine wp_mono (ZQ hcl hdet a (i+1) (fun L st=>L i (normL P lab st)) x r hps.left.right n st ac w h hr) fun e a' w' he=>?_
   cases e with
   | normal=>
    obtain ⟨m,st',hm,hr',hk⟩:=he
    obtain ⟨m',rfl,hk⟩:=Zkc hk
    have hk:procOf ps i (Ls ps m') (normL P lab st')=some y:=hk
    rw[hps.left.left i _ (List.mem_singleton.2 rfl)] at hk
    exact wp_mono (ZQ hcl hdet b (i+1+nn a) k x r hps.right m' _ a' w' hk (Zf9 hr')) (QC.le (by omega))
   | _=>exact he
 |.cond c a b,i,k,x,r,hps,n,st,ac,w,h,hr=>by
  simp only[procs] at hps
  simp only[evC] at h
  obtain ⟨t,ht,h⟩:=ZkU hr h
  refine wp_cond ht ?_
  cases t with
  | true=>exact ZQ hcl hdet a i k x r hps.left n st ac w h hr
  | false=>exact ZQ hcl hdet b (i+nn a) k x r hps.right n st ac w h hr
 |.block id c,i,k,x,r,hps,n,st,a,w,h,hr=>by
  simp only[procs] at hps
  simp only[evC] at h
  refine wp_block (wp_mono (ZQ hcl hdet c i k _ r hps n st a w h hr) fun e a' w' he=>?_)
  cases e with
  | exit j=>
   obtain ⟨m,st',hm,hr',hk⟩:=he
   simp only[Exit.inBlock]
   split
   ·rename_i hj
    subst hj
    simp only[Nat.beq_refl,cond_true] at hk
    exact ⟨m,st',hm,hr',hk⟩
   ·rename_i hj
    simp only[ZdN hj,cond_false] at hk
    exact ⟨m,st',hm,hr',hk⟩
  | _=>exact he
 |.loop c,i,k,x,r,hps,n,st,a,w,h,hr=>by
  cases hl:labOf tb i with
  | none=>simp[evC,hl] at h
  | some lab=>
   simp only[procs,hl] at hps
   simp only[evC,hl] at h
   have hbody:∀m st,Ls ps m i st=some y→∃m',m=m'+1∧evC P cl tb (Ls ps m') c (i+1) (fun st=>Ls ps m' i (normL P lab st)) (x (Ls ps m')) (r (Ls ps m')) st=some y:=by
    intro m st hm
    obtain ⟨m',rfl,hk⟩:=Zkc hm
    rw[hps i _ (List.mem_cons_self ..)] at hk
    exact ⟨m',rfl,hk⟩
   let B:Act→World→Nat→Prop:=fun a w m=>∃st,m≤n∧Rel Mod F0 w0 st a w∧evC P cl tb (Ls ps m) c (i+1) (fun st=>Ls ps m i (normL P lab st)) (x (Ls ps m)) (r (Ls ps m)) st=some y
   obtain ⟨n',hn',hb1⟩:=hbody n _ h
   refine wp_loop (fun a w=>∃m,B a w m) (fun a w=>least (B a w)) ⟨n',_,by omega,Zf9 hr,hb1⟩ fun a w ⟨m0,hm0⟩=>?_
   obtain ⟨hB,hmin⟩:=ZgZ hm0
   obtain ⟨st1,hle,hr1,h1⟩:=hB
   refine wp_mono (ZQ hcl hdet c (i+1) (fun L st=>L i (normL P lab st)) x r (fun j p hj=>hps j p (by simp[hj])) (least (B a w)) st1 a w h1 hr1) fun e a' w' he=>?_
   cases e with
   | normal=>
    obtain ⟨m,st',hm,hr',hk⟩:=he
    obtain ⟨m',hm',hk1⟩:=hbody m _ hk
    have hB':B a' w' m':=⟨_,by omega,Zf9 hr',hk1⟩
    exact ⟨⟨m',hB'⟩,by have:=(ZgZ hB').2 m' hB';omega⟩
   | exit j=>exact QC.le hle (.exit j) a' w' he
   | ret=>exact QC.le hle .ret a' w' he
   | _=>exact he
 |.exit id,i,k,x,r,_,n,st,a,w,h,hr=>wp_exit ⟨n,st,Nat.le_refl _,hr,h⟩
 |.ret,i,k,x,r,_,n,st,a,w,h,hr=>wp_ret ⟨n,st,Nat.le_refl _,hr,h⟩
 |.rangeFunc _ _ _ _,_,_,_,_,_,_,_,_,_,h,_=>by simp[evC] at h
 |.scope _,_,_,_,_,_,_,_,_,_,h,_=>by simp[evC] at h
 |.label _,_,_,_,_,_,_,_,_,_,h,_=>by simp[evC] at h
 |.goto _,_,_,_,_,_,_,_,_,_,h,_=>by simp[evC] at h
theorem ZjW (h:nodupB (ps.map (·.1))=true):Has ps ps:=by
 intro j p hj L st
 have hn:=ZcU h
 clear h
 induction ps with
 | nil=>cases hj
 | cons q r ih=>
  obtain ⟨j',p'⟩:=q
  simp only[List.map_cons,List.nodup_cons] at hn
  unfold procOf
  rcases List.mem_cons.1 hj with e | hj
  ·cases e
   rw[Nat.beq_refl];rfl
  ·have hne:j'≠j:=fun e=>hn.1 (by subst e;exact List.mem_map.2 ⟨(j',p),hj,rfl⟩)
   rw[ZdN hne]
   exact ih hj hn.2
end
end Go.Ev
end

section
namespace Go.Ev
variable [Tabs] [Orgs]
open Go
section
variable {P:Program} {Mod F:Nat→Prop} {ρ:Rho} {w:World} {st:St} {cl:Cl} {tb:Tb}
theorem ZeG:∀(xs:List AV) (i:Nat) (st:St) (ρ:Rho) (ys:List AV) (vs:List Value) (st':St) (L:List Nat),initA st i xs=some (ys,st')→R Mod F ρ w st #[]→TReps F w xs vs L→Fr Mod F ρ w st L→(∀k v,vs[k]? =some v→v=Orgs.org (i+k))→
  ∃ρ',R Mod F ρ' w st' #[]∧CsRep F ρ' w st' ys vs∧Came st ρ st' ρ' L
 | [],j,st,ρ,ys,vs,st',L,h,hR,hT,hF,_=>by
  simp only[initA,Option.some.injEq,Prod.mk.injEq] at h
  obtain ⟨rfl,rfl⟩:=h
  cases hT
  exact ⟨ρ,hR,.nil,Came.refl⟩
 | x :: xs,j,st,ρ,ys,vs,st',L,h,hR,hT,hF,hv=>by
  simp only[initA] at h
  obtain ⟨⟨y,st1⟩,h1,h⟩:=Option.bind_eq_some_iff.1 h
  obtain ⟨⟨zs,st2⟩,h2,h⟩:=Option.map_eq_some_iff.1 h
  simp only[Prod.mk.injEq] at h
  obtain ⟨rfl,rfl⟩:=h
  obtain ⟨v,us,L1,L2,rfl,rfl,t1,t2⟩:=hT.split
  obtain ⟨ρ1,r1,a1,c1⟩:=ZkR h1 hR t1 hF.left (hv 0 v rfl)
  obtain ⟨ρ2,r2,a2,c2⟩:=ZeG xs (j+1) st1 ρ1 zs us st2 L2 h2 r1 t2 (hF.right c1) (fun k v hk=>by rw[show j+1+k=j+(k+1) by omega];exact hv (k+1) v (by simpa using hk))
  exact ⟨ρ2,r2,.cons (a1.mono (Keeps.refl _ _) c2.ref) a2,c1.trans c2 (fun b hb=>by simp[hb]) (fun b hb=>by simp[hb])⟩
def resM (tm:Array Value):ResultVar→Sem Value
 |.tmp t=>pure (tm.getD t undef)
 |.cell a t=>do loadVar t (←asAddr (tm.getD a undef))
theorem Zjy {fn:Func} {tm:Array Value} :results fn tm=(do
  let vs ←fn.results.mapM (resM tm)
  pure (if h:vs.size=1 then vs[0] else .tuple vs)):=by
 unfold results
 congr 1
theorem Zkv {tm:Array Value} (hR:R Mod F ρ w st tm) {r:ResultVar} {x:AV} (h:resA P st r=some x):
  ∃v,(resM tm r).run P w=.ok v w∧ARep F ρ w st x v:=by
 have hev:∀t,ARep F ρ w st (st.tm.getD t .top) (tm.getD t undef):=fun t=>by
  rw[List.getD_eq_getElem?_getD,Array.getD_eq_getD_getElem?]
  cases h:st.tm[t]? with
  | none=>exact .top _
  | some y=>
   obtain ⟨v,hv,ha⟩:=hR.tms t y h
   rw[hv]
   exact ha
 cases r with
 | tmp t=>
  simp only[resA,Option.some.injEq] at h
  subst h
  exact ⟨_,by simp[resM],hev t⟩
 | cell a T=>
  simp only[resA] at h
  split at h
  ·rename_i cs z hb ha hz
   split at h
   ·rename_i hle
    cases h
    obtain ⟨ad,vs,hv,hcs,hat⟩:=Zds hR hb (hev a)
    have hle':z≤vs.length:=by rw[←hcs.1];exact hle
    have hl:(vs.take z).length=z:=by simp[Nat.min_eq_left hle']
    have hload:=run_loadCells_list (P:=P) w ad (vs.take z) (fun j u hu=>hat j u (by
     rw[List.getElem?_take] at hu
     split at hu
     ·exact hu
     ·cases hu))
    rw[hl] at hload
    refine ⟨.agg (vs.take z).toArray,?_,.ag _ _ (by simp[hl,hcs.1,Nat.min_eq_left hle']) fun i c u h1 h2=>(hcs.take z).2 i c u h1 (by simpa using h2)⟩
    simp[resM,hv,asAddr,loadVar,ZcL ha,Zu hz,hload]
   ·cases h
  ·rename_i cs z hb ha hz
   obtain ⟨ad,vs,hv,hcs,hat⟩:=Zds hR hb (hev a)
   have hlt:0 < vs.length:=by rw[←hcs.1];exact (List.getElem?_eq_some_iff.1 h).1
   have h0:=hat 0 vs[0] (by simp[hlt])
   have e0:ad.add 0=ad:=by simp[Addr.add]
   rw[e0] at h0
   refine ⟨vs[0],?_,hcs.2 0 x _ h (by simp[hlt])⟩
   simp[resM,hv,asAddr,loadVar,ZcL ha,load,Sem.run,h0]
  ·cases h
theorem ZgX {tm:Array Value} (hR:R Mod F ρ w st tm):∀(rs:List ResultVar) (xs:List AV),resAll P st rs=some xs→
  ∃vs,(rs.mapM (resM tm)).run P w=.ok vs w∧CsRep F ρ w st xs vs
 | [],xs,h=>by
  simp only[resAll,Option.some.injEq] at h
  subst h
  exact ⟨[],by simp,.nil⟩
 | r :: rs,xs,h=>by
  simp only[resAll] at h
  obtain ⟨x,h1,h⟩:=Option.bind_eq_some_iff.1 h
  obtain ⟨ys,h2,rfl⟩:=Option.map_eq_some_iff.1 h
  obtain ⟨v,hv,ha⟩:=Zkv (P:=P) hR h1
  obtain ⟨vs,hvs,hc⟩:=ZgX hR rs ys h2
  refine ⟨v :: vs,?_,.cons ha hc⟩
  rw[List.mapM_cons]
  simp only[Sem.run_bind,hv,hvs,Result.andThen_ok,Sem.run_pure]
theorem TReps.fix {F:Nat→Prop} {w:World} {hints:List (Id×TypeId)} :∀(n:Nat) {xs:List AV} {vs:List Value} {L:List Nat},TReps F w xs vs L→∀(id:Id) (j:Nat),TReps F w (fixCs (fixA P hints n) id j xs) vs L
 | 0,_,_,_,h,id,j=>by
  have:∀(xs:List AV) (j:Nat),fixCs (fixA P hints 0) id j xs=xs:=by
   intro xs
   induction xs with
   | nil=>intro j;rfl
   | cons x r ih=>intro j;simp only[fixCs,ih];rfl
  rw[this]
  exact h
 | n+1,_,_,_,h,id,j=>by
  induction h generalizing id j with
  | nil=>exact .nil
  | top h ih=>exact .top (ih id (j+1))
  | @flat x v r vs L hx ha h ih=>
   have other:∀y,y=x→TReps F w (y :: fixCs (fixA P hints (n+1)) id (j+1) r) (v :: vs) L:=fun y e=>by subst e;exact .flat hx ha (ih id (j+1))
   cases x with
   | nil=>
    have hv:v=.slice none 0 0:=by cases ha;rfl
    subst hv
    simp only[fixCs,fixA]
    split
    ·cases Nat.beq _ 1 with
     | true=>
      simp only[cond_true]
      unfold nilData
      split
      ·exact .flat rfl (.d _ _ _ ⟨none,0,rfl,Nat.le_refl _,fun i x hx=>by simp at hx⟩) (ih id (j+1))
      ·exact .flat rfl ha (ih id (j+1))
     | false=>
      simp only[cond_false]
      unfold nilRow
      split
      ·rename_i E t _ _
       exact TReps.rw (E:=E) (t:=t) (l:=[]) (v:=.slice none 0 0) ⟨[],⟨by simp,.inl ⟨rfl,rfl⟩⟩,fun i x hx=>by simp at hx⟩ (ih id (j+1))
      ·exact .flat rfl ha (ih id (j+1))
    ·exact .flat rfl ha (ih id (j+1))
   | ag cs=>cases hx
   | tu cs=>cases hx
   | _=>exact other _ rfl
  | ag h1 h2 ih1 ih2=>exact .ag (TReps.fix n h1 _ 0) (ih2 id (j+1))
  | tu h1 h2 ih1 ih2=>exact .tu (TReps.fix n h1 _ 0) (ih2 id (j+1))
  | bx hb h1 h2 ih1 ih2=>exact .bx hb h1 (ih2 id (j+1))
  | rw h1 h2 ih=>exact .rw h1 (ih id (j+1))
  | mv h1 h2 ih=>exact .mv h1 (ih id (j+1))
theorem TReps.fixOne {F:Nat→Prop} {w:World} {x:AV} {v:Value} {L:List Nat} (h:TReps F w [x] [v] L):TReps F w [(match labOf tb hintK with | some lab=>fixA P lab.hints 6 (childId 0 0) x | none=>x)] [v] L:=by
 split
 ·exact TReps.fix 6 h 0 0
 ·exact h
theorem TReps.join {F:Nat→Prop} {w:World} {x:AV} {v:Value} {xs:List AV} {vs:List Value} {L1 L2:List Nat} (h1:TReps F w [x] [v] L1) (h2:TReps F w xs vs L2):TReps F w (x :: xs) (v :: vs) (L1++L2):=by
 cases h1 with
 | top h=>cases h;exact .top h2
 | flat hx ha h=>cases h;exact .flat hx ha h2
 | ag h h'=>cases h';rw[List.append_nil];exact .ag h h2
 | tu h h'=>cases h';rw[List.append_nil];exact .tu h h2
 | bx hb h h'=>cases h';rw[List.append_nil,List.cons_append];exact .bx hb h h2
 | rw h h'=>cases h';rw[List.append_nil];exact .rw h h2
 | mv h h'=>cases h';rw[List.append_nil];exact .mv h h2
theorem Zic {tm:Array Value} (hR:R Mod F ρ w st tm):∀(args:List AV) (j:Nat) (vals:List Value) (os:List AV) (ids:List Id),outsG st j args=some (os,ids)→args.length=vals.length→
  (∀k v,vals[k]? =some v→v=Orgs.org (j+k))→TReps F w os vals (blocks ρ ids)∧∀id∈ids,∃ver o,find id st.ob=some (ver,o)∧o.free=true
 | [],j,vals,os,ids,h,hl,_=>by
  simp only[outsG,Option.some.injEq,Prod.mk.injEq] at h
  obtain ⟨rfl,rfl⟩:=h
  have:vals=[]:=List.eq_nil_of_length_eq_zero hl.symm
  subst this
  exact ⟨.nil,fun id hi=>by simp at hi⟩
 | a :: r,j,v :: vals,os,ids,h,hl,hv=>by
  simp only[outsG] at h
  obtain ⟨⟨os1,ids1⟩,h1,h⟩:=Option.bind_eq_some_iff.1 h
  obtain ⟨t1,k1⟩:=Zic hR r (j+1) vals os1 ids1 h1 (by simpa using hl) (fun k u hk=>by rw[show j+1+k=j+(k+1) by omega];exact hv (k+1) u (by simpa using hk))
  have htop:∀ {os' ids'},some (AV.top :: os1,ids1)=some (os',ids')→TReps F w os' (v :: vals) (blocks ρ ids')∧∀id∈ids',∃ver o,find id st.ob=some (ver,o)∧o.free=true:=fun e=>by
   simp only[Option.some.injEq,Prod.mk.injEq] at e
   obtain ⟨rfl,rfl⟩:=e
   exact ⟨.top t1,k1⟩
  simp only at h
  split at h
  ·split at h
   ·rename_i id ver ht
    split at h
    ·rename_i T cs k ho
     cases hjk:Nat.beq j k with
     | false=>rw[hjk] at h;cases h
     | true=>
      rw[hjk] at h
      simp only[cond_true] at h
      obtain ⟨⟨o,is,i⟩,hg,h⟩:=Option.map_eq_some_iff.1 h
      simp only[Prod.mk.injEq] at h
      obtain ⟨rfl,rfl⟩:=h
      have hjk:=Nat.eq_of_beq_eq_true hjk
      subst hjk
      obtain ⟨htg,b,arr,hρ,hh,hsz,hc⟩:=hR.obs id ver _ (Zm.1 ho)
      have hvv:v=ρ id:=(hv 0 v rfl).trans (htg j rfl).symm
      have hx:ARep F ρ w st (.pt id ver 0) v:=.pt _ _ _ _ ⟨ver,_,Zm.1 ho,Nat.le_refl _⟩ (by rw[hvv,hρ];rfl) fun _ _=>⟨b,hρ,by rw[hvv,hρ]⟩
      obtain ⟨hT,hok⟩:=Zdx hR (fun _ h=>h) 6 true _ _ o is i hg (.inl rfl) hx
      refine ⟨?_,fun id' hi=>?_⟩
      ·have:=hT.join t1
       unfold blocks at this ⊢
       rw[List.flatMap_append]
       exact this
      ·rcases List.mem_append.1 hi with hi | hi
       ·exact hok.1 id' hi
       ·exact k1 id' hi
    ·cases h
   ·exact htop h
  ·exact htop h
theorem Zhv {fn:Func} {args:List AV} {vals:List Value} {tm:Array Value} {w0:World} {L:List Nat} {ans:Ans} (hR:R Mod F ρ w st tm) (hMod:∀b,Mod b→ModC L w0 b) (hl:args.length=vals.length) (hv:∀k v,vals[k]? =some v→v=Orgs.org (0+k)) (h:finA P tb fn args st=some ans):
  ∃F2 v Lr Lo,Evo Mod F w F2 w∧(∀b,F2 b→b < w.heap.size)∧(results fn tm).run P w=.ok v w∧TReps F2 w [ans.1] [v] Lr∧TReps F2 w ans.2 vals Lo∧(Lr++Lo).Nodup∧∀b∈Lr++Lo,¬F2 b∧ModC L w0 b∧b < w.heap.size:=by
 unfold finA at h
 split at h
 ·cases h
 rename_i xs hxs
 split at h
 ·rename_i y is ids hg
  split at h
  case h_2=>cases h
  rename_i os oi hog
  cases hnd:nodupB (ids++oi) with
  | false=>rw[hnd] at h;cases h
  | true=>
   rw[hnd] at h
   simp only[cond_true,Option.some.injEq] at h
   subst h
   obtain ⟨vs,hvs,hc⟩:=ZgX (P:=P) hR _ _ hxs
   have hres:(results fn tm).run P w=.ok (if h:vs.length=1 then vs[0] else .tuple vs.toArray) w:=by
    rw[Zjy,Array.mapM_eq_mapM_toList]
    simp only[Sem.run_bind,Sem.run_map,hvs,Result.andThen_ok,Sem.run_pure]
    simp
   have hx:ARep F ρ w st (oneOrAll xs) (if h:vs.length=1 then vs[0] else .tuple vs.toArray):=by
    by_cases h1:vs.length=1
    ·rw[dif_pos h1]
     clear hvs hres
     obtain ⟨v,rfl⟩:∃v,vs=[v]:=List.length_eq_one_iff.1 h1
     obtain ⟨x,rfl⟩:∃x,xs=[x]:=List.length_eq_one_iff.1 hc.1
     exact hc.2 0 x v rfl rfl
    ·rw[dif_neg h1]
     have:oneOrAll xs=.tu xs:=by
      match xs,hc.1 with
      | [],_=>rfl
      | [x],e=>exact absurd e.symm h1
      | _ :: _ :: _,_=>rfl
     rw[this]
     exact .tu _ _ (by simpa using hc.1) fun i c u h1 h2=>hc.2 i c u h1 (by simpa using h2)
   have hlow:=hR.low
   obtain ⟨F2,hR,hE,href⟩:∃F2,R Mod F2 ρ w (lockRes tb (oneOrAll xs) st) tm∧Evo Mod F w F2 w∧Ref st ρ (lockRes tb (oneOrAll xs) st) ρ:=by
    unfold lockRes
    split
    ·obtain ⟨F2,h1,h2,h3,_⟩:=ZbS _ hR
     exact ⟨F2,h1,h2,h3⟩
    ·exact ⟨F,hR,Evo.refl _ _ _,Ref.refl⟩
   have hx:=hx.mono (hE.keeps hlow) href
   obtain ⟨hT,hok⟩:=Zdx hR (fun _ h=>h) 6 true _ _ y is ids hg (.inl rfl) hx
   obtain ⟨hTo,hoko⟩:=Zic hR args 0 vals os oi hog hl hv
   have hall:∀id∈ids++oi,∃ver o,find id (lockRes tb (oneOrAll xs) st).ob=some (ver,o)∧o.free=true:=fun id hi=>(List.mem_append.1 hi).elim (hok.1 id) (hoko id)
   have hbl:blocks ρ ids++blocks ρ oi=blocks ρ (ids++oi):=by unfold blocks;rw[List.flatMap_append]
   refine ⟨F2,_,_,_,hE,hR.low,hres,TReps.fixOne hT,hTo,by rw[hbl];exact Zdk hR (ZcU hnd) hall,fun b hb=>?_⟩
   rw[hbl] at hb
   obtain ⟨id,hid,hbi⟩:=Zdu.1 hb
   obtain ⟨ver,o,hf,hfr⟩:=hall id hid
   obtain ⟨s1,s2,s3,_⟩:=hR.sep _ _ _ _ hf hfr hbi
   exact ⟨s1,hMod b s2,s3⟩
 ·cases h
omit [Orgs] in
theorem Zew (hcl:Spec P cl) (hdet:DetC cl) {f:FuncId} {fn:Func} {c:Code} {args:List AV} {n:Nat} {ans:Ans} (hf:P.funcs[f]? =some fn) (hb:fn.body=some c)
  (hnd:nodupB ((procsF P cl tb fn c args).map (·.1))=true) (h:evF P cl tb fn n args=some ans):CallOK P f args ans:=by
 refine ⟨?_,fun r e=>by
  subst e
  unfold evF at h
  rw[hb] at h
  simp only[entryA] at h
  have:initA ⟨[],[]⟩ 0 (.pt 0 0 1 :: r)=none:=rfl
  rw[this] at h
  cases h⟩
 intro F w vals L hT hL hLF hlow htab
 letI:Orgs:=⟨fun j=>vals.getD j undef⟩
 have hvo:∀k v,vals[k]? =some v→v=Orgs.org (0+k):=fun k v hk=>by
  rw[Nat.zero_add]
  show v=vals.getD k undef
  rw[List.getD_eq_getElem?_getD,hk];rfl
 refine calls_of_wp hf hb ?_
 unfold evF at h
 rw[hb] at h
 simp only[entryA] at h
 have hlen:=hT.length
 have hR0:R (ModC L w) F ρ0 w ⟨[],[]⟩ #[]:=⟨rfl,fun i x hx=>by simp at hx,fun id ver o hf=>by simp[find] at hf,fun id ver o b hf=>by simp[find] at hf,fun id ver E t l hf=>by simp[find] at hf,hlow,fun b hb=>.inr hb,htab⟩
 have hF0:Fr (ModC L w) F ρ0 w ⟨[],[]⟩ L:=⟨hL,fun b hb=>⟨(hLF b hb).1,.inl hb,(hLF b hb).2,fun ⟨id,ver,o,hf,_⟩=>by simp[find] at hf⟩⟩
 cases hi:initA ⟨[],[]⟩ 0 args with
 | none=>rw[hi] at h;cases h
 | some p=>
  obtain ⟨vs,st⟩:=p
  rw[hi] at h
  simp only at h
  obtain ⟨ρ1,r1,a1,c1⟩:=ZeG args 0 ⟨[],[]⟩ ρ0 vs vals st L hi hR0 hT hF0 hvo
  have hvl:vs.length=vals.length:=a1.1
  have hrel:Rel (ModC L w) F w { st with tm:=vs++tops (fn.ntmps - vs.length) } { tmps:=vals.toArray++Array.replicate (fn.ntmps - vals.toArray.size) undef,defers:=[] } w:=by
   refine ⟨rfl,F,ρ1,⟨?_,fun i x hx=>?_,fun id ver o hf=>?_,r1.sep,r1.data,r1.low,r1.hi,r1.tabs⟩,Evo.refl _ _ _⟩
   ·simp[Zac,hvl]
   ·rw[List.getElem?_append] at hx
    split at hx
    ·rename_i hlt
     have hlt':i < vals.length:=by omega
     refine ⟨vals[i],by simp[Array.getElem?_append,hlt'],?_⟩
     exact ARep.of_ob (st:=st) (st':=⟨vs++tops (fn.ntmps - vs.length),st.ob⟩) rfl (a1.2 i x vals[i] hx (by simp[hlt']))
    ·rename_i hge
     have hlt:=(List.getElem?_eq_some_iff.1 hx).1
     obtain rfl:=ZeJ _ _ _ hx
     rw[Zac] at hlt
     refine ⟨undef,?_,.top _⟩
     have:¬i < vals.length:=by omega
     simp[Array.getElem?_append,this,Array.getElem?_replicate]
     omega
   ·exact ORep.mono (Keeps.refl _ _) (Ref.of_ob (st:=st) (st':=⟨vs++tops (fn.ntmps - vs.length),st.ob⟩) rfl) (fun _ _=>rfl) (r1.obs id ver o hf)
  have hwp:=ZQ (Mod:=ModC L w) (F0:=F) (w0:=w) (y:=ans) (tb:=tb) (ps:=procsF P cl tb fn c args) hcl hdet c 0 (fun _=>finA P tb fn args) (fun _ _ _=>none) (fun _=>finA P tb fn args) (ZjW hnd) n _ _ _ h hrel
  refine wp_mono hwp fun e a w' he=>?_
  have fin:Good (ModC L w) F w ans (procsF P cl tb fn c args) n (fun _=>finA P tb fn args) a w'→
    a.defers=[]∧∃v,(results fn a.tmps).run P w'=.ok v w'∧CallPost F w L vals ans v w':=by
   rintro ⟨m,st',_,⟨hd,F',ρ',hR,hE⟩,hk⟩
   obtain ⟨F2,v,Lr,Lo,hE2,hlow2,h1,h2,h3,h4,h5⟩:=Zhv (L:=L) (w0:=w) hR (fun _ h=>h) hlen hvo hk
   exact ⟨hd,v,h1,F2,Lr,Lo,hE.trans hE2,hlow2,h2,h3,(List.perm_append_comm.nodup_iff).1 h4,fun b hb=>h5 b (by simp only[List.mem_append] at hb ⊢;exact hb.symm)⟩
  cases e with
  | normal=>exact fin he
  | ret=>exact fin he
  | exit j=>obtain ⟨m,st',_,_,hk⟩:=he;cases hk
  | _=>exact he.elim
end
end Go.Ev
namespace Go.Ev
instance (priority:=low) noOrgs:Orgs:=⟨fun _=>undef⟩
variable [Tabs]
def mkTm (n:Nat) (l:List (Nat×AV)):List AV:=l.foldl (fun tm p=>tm.set p.1 p.2) (tops n)
end Go.Ev
end

section
namespace Go.Ev
variable [Tabs]
open Go
abbrev Run:=List AV→M Ans
abbrev Tbl:=List (FuncId×Run)
def runOf:Tbl→FuncId→Run
 | [],_=>fun _=>fail
 | (g,r) :: t,f=>bif Nat.beq g f then r else runOf t f
def clOf (t:Tbl):Cl:=fun f xs=>runOf t f xs
def EntOK (P:Program) (f:FuncId) (r:Run):Prop:=Known P f∧∀xs,Det (r xs)∧Sat (r xs) (CallOK P f xs)
theorem Zdc {P:Program} :∀ {t:Tbl},(∀p∈t,EntOK P p.1 p.2)→Spec P (clOf t)∧DetC (clOf t)
 | [],_=>⟨fun f xs=>Sat.fail,fun f xs=>Det.fail⟩
 | (g,r) :: t,h=>by
  obtain ⟨h1,h2⟩:=Zdc (t:=t) fun p hp=>h p (by simp[hp])
  have h0:=h (g,r) (by simp)
  constructor
  ·intro f xs
   show Sat (runOf ((g,r) :: t) f xs) _
   unfold runOf
   cases hb:Nat.beq g f with
   | true=>
    have:=Nat.eq_of_beq_eq_true hb
    subst this
    exact (h0.2 xs).2.mono fun a ha=>⟨h0.1,ha⟩
   | false=>exact h1 f xs
  ·intro f xs
   show Det (runOf ((g,r) :: t) f xs)
   unfold runOf
   cases hb:Nat.beq g f with
   | true=>exact (h0.2 xs).1
   | false=>exact h2 f xs
abbrev Sig:=List (Bool×Ty)
@[reducible] def Args:Sig→Type
 | []=>Unit
 | p :: r=>El p.2×Args r
def ofForm (p:Bool×Ty) (x:AV):Option (El p.2):=
 match p.1,x with
 | true,.ag cs=>packAll p.2 cs
 | false,.ag _=>none
 | false,x=>packAll p.2 [x]
 | true,_=>none
def ofForms:(s:Sig)→List AV→Option (Args s)
 | [],[]=>some ()
 | p :: r,x :: xs=>(ofForm p x).bind fun a=>(ofForms r xs).map fun b=>(a,b)
 | _,_=>none
def toForm (p:Bool×Ty) (v:El p.2):AV:=match p.1 with | true=>.ag (flat p.2 v) | false=>(flat p.2 v).headD .top
def toForms:(s:Sig)→Args s→List AV
 | [],_=>[]
 | p :: r,a=>toForm p a.1 :: toForms r a.2
def typed (s:Sig) (run:Args s→M AV):Run:=fun xs=>match ofForms s xs with
 | none=>fail
 | some a=>M.bind (run a) fun r=>M.pure (r,xs.map fun _=>.top)
section
variable {F:Nat→Prop} {w:World}
theorem Zj1:∀ {t:Ty} {cs:List AV} {v:El t} {r:List AV},pack t cs=some (v,r)→∃ds,cs=ds++r∧ds.all leafB=true:=by
 intro t
 induction t with
 | int k=>
  intro cs v r hp
  match cs,hp with
  |.d (.int k') v :: r',hp=>
   simp only[pack] at hp
   split at hp
   ·cases hp;exact ⟨[_],rfl,rfl⟩
   ·cases hp
 | bool=>
  intro cs v r hp
  match cs,hp with
  |.d .bool v :: r',hp=>simp only[pack] at hp;cases hp;exact ⟨[_],rfl,rfl⟩
 | str=>
  intro cs v r hp
  match cs,hp with
  |.d .str v :: r',hp=>simp only[pack] at hp;cases hp;exact ⟨[_],rfl,rfl⟩
 | sl t ih=>
  intro cs v r hp
  match cs,hp with
  |.nil :: r',hp=>simp only[pack] at hp;cases hp;exact ⟨[_],rfl,rfl⟩
  |.d (.sl t') v :: r',hp=>
   simp only[pack] at hp
   split at hp
   ·cases hp;exact ⟨[_],rfl,rfl⟩
   ·cases hp
 | pr a b iha ihb=>
  intro cs v r h
  simp only[pack] at h
  obtain ⟨⟨x,r1⟩,h1,h⟩:=Option.bind_eq_some_iff.1 h
  obtain ⟨⟨y,r2⟩,h2,h⟩:=Option.map_eq_some_iff.1 h
  simp only[Prod.mk.injEq] at h
  obtain ⟨_,rfl⟩:=h
  obtain ⟨d1,rfl,e1⟩:=iha h1
  obtain ⟨d2,rfl,e2⟩:=ihb h2
  exact ⟨d1++d2,by simp,by rw[List.all_append,e1,e2];rfl⟩
 | un=>
  intro cs v r h
  simp only[pack,Option.some.injEq,Prod.mk.injEq] at h
  obtain ⟨_,rfl⟩:=h
  exact ⟨[],rfl,rfl⟩
theorem Zdf {t:Ty} {cs:List AV} {v:El t} (h:packAll t cs=some v):cs.all leafB=true:=by
 unfold packAll at h
 split at h
 ·rename_i u hu
  obtain ⟨ds,e,hl⟩:=Zj1 hu
  rw[e,List.append_nil]
  exact hl
 ·cases h
theorem Zes:∀ {t:Ty} {v:El t},(flat t v).all leafB=true
 |.int _,_=>rfl
 |.bool,_=>rfl
 |.str,_=>rfl
 |.sl _,_=>rfl
 |.pr a b,v=>by simp only[flat,List.all_append,Zes,Bool.and_self]
 |.un,_=>rfl
theorem ZiE {x:AV} (h:leafB x=true):flatB x=true:=by cases x <;> simp only[leafB] at h <;> first | (cases h;done) | rfl
theorem Zg2:∀ {cs:List AV} {vs:List Value} {L:List Nat},TReps F w cs vs L→cs.all leafB=true→L=[]∧CsRep F ρ0 w st0 cs vs:=by
 intro cs vs L h
 induction h with
 | nil=>exact fun _=>⟨rfl,.nil⟩
 | flat hx ha _ ih=>
  intro hl
  simp only[List.all_cons,Bool.and_eq_true] at hl
  obtain ⟨rfl,hc⟩:=ih hl.2
  exact ⟨rfl,.cons ha hc⟩
 | top=>intro hl;simp[leafB] at hl
 | ag=>intro hl;simp[leafB] at hl
 | tu=>intro hl;simp[leafB] at hl
 | bx=>intro hl;simp[leafB] at hl
 | rw=>intro hl;simp[leafB] at hl
 | mv=>intro hl;simp[leafB] at hl
theorem ZdD:∀ {cs:List AV} {vs:List Value},CsRep F ρ0 w st0 cs vs→cs.all leafB=true→TReps F w cs vs []
 | [],vs,h,_=>by
  have:vs=[]:=List.length_eq_zero_iff.1 h.1.symm
  subst this
  exact .nil
 | c :: cs,[],h,_=>by have:=h.1;simp at this
 | c :: cs,v :: vs,h,hl=>by
  simp only[List.all_cons,Bool.and_eq_true] at hl
  exact .flat (ZiE hl.1) (h.2 0 c v rfl rfl) (ZdD ⟨by have:=h.1;simpa using this,fun i c u h1 h2=>h.2 (i+1) c u h1 h2⟩ hl.2)
theorem Zhf {p:Bool×Ty} {x:AV} {a:El p.2} {v:Value} {L:List Nat} (h:ofForm p x=some a) (hT:TReps F w [x] [v] L):L=[]∧TReps F w [toForm p a] [v] []:=by
 obtain ⟨g,t⟩:=p
 cases g with
 | true=>
  cases x with
  | ag cs=>
   simp only[ofForm] at h
   cases hT with
   | flat hx=>cases hx
   | ag h1 hn=>
    cases hn
    obtain ⟨rfl,hc⟩:=Zg2 h1 (Zdf h)
    have hl:=Zav h hc
    have hf:CsRep F ρ0 w st0 (flat t a) _:=ZbU hl
    refine ⟨rfl,?_⟩
    have:=TReps.ag (ZdD hf Zes) TReps.nil
    simpa[toForm] using this
  | _=>cases h
 | false=>
  have h':packAll t [x]=some a:=by
   cases x <;> first | (cases h;done) | exact h
  have hl0:=Zdf h'
  obtain ⟨rfl,hc⟩:=Zg2 hT hl0
  have hl:=Zav h' hc
  have hf:CsRep F ρ0 w st0 (flat t a) [v]:=ZbU hl
  have hq:=ZdD hf Zes
  refine ⟨rfl,?_⟩
  have hlen:=hf.1
  simp only[toForm]
  match hm:flat t a,hlen with
  | [c],_=>rw[hm] at hq;simpa using hq
theorem ZhU:∀ {s:Sig} {xs:List AV} {a:Args s} {vs:List Value} {L:List Nat},ofForms s xs=some a→TReps F w xs vs L→L=[]∧TReps F w (toForms s a) vs []
 | [],[],a,vs,L,_,hT=>by cases hT;exact ⟨rfl,.nil⟩
 | [],_ :: _,a,vs,L,h,_=>by cases h
 | p :: s,[],a,vs,L,h,_=>by cases h
 | p :: s,x :: xs,a,vs,L,h,hT=>by
  simp only[ofForms] at h
  obtain ⟨b,h1,h⟩:=Option.bind_eq_some_iff.1 h
  obtain ⟨c,h2,rfl⟩:=Option.map_eq_some_iff.1 h
  obtain ⟨v,us,L1,L2,rfl,rfl,t1,t2⟩:=hT.split
  obtain ⟨rfl,q1⟩:=Zhf h1 t1
  obtain ⟨rfl,q2⟩:=ZhU h2 t2
  refine ⟨rfl,?_⟩
  have:=q1.append q2
  simpa[toForms] using this
end
theorem ZdR:∀ {s:Sig} {xs:List AV} {a:Args s},ofForms s xs=some a→xs.length=(toForms s a).length
 | [],[],_,_=>rfl
 | [],_ :: _,_,h=>by cases h
 | _ :: _,[],_,h=>by cases h
 | p :: s,x :: xs,a,h=>by
  simp only[ofForms] at h
  obtain ⟨b,h1,h⟩:=Option.bind_eq_some_iff.1 h
  obtain ⟨c,h2,rfl⟩:=Option.map_eq_some_iff.1 h
  simp[toForms,ZdR h2]
theorem ZhJ {p:Bool×Ty} {i v o:Nat} :ofForm p (.pt i v o)=none:=by
 obtain ⟨g,t⟩:=p
 cases g with
 | true=>rfl
 | false=>
  cases h:ofForm (false,t) (.pt i v o) with
  | none=>rfl
  | some a=>
   have h':packAll t [.pt i v o]=some a:=h
   have:=Zdf h'
   exact (Bool.false_ne_true this).elim
theorem Zjs {i v o:Nat} {r:List AV} :∀ {s:Sig},ofForms s (.pt i v o :: r)=none
 | []=>rfl
 | p :: s=>by simp only[ofForms,ZhJ];rfl
theorem Zkx {P:Program} {f:FuncId} (hk:Known P f) {s:Sig} {run:Args s→M AV} (hd:∀a,Det (run a)) (h:∀a,Sat (run a) fun r=>CallOK P f (toForms s a) (r,(toForms s a).map fun _=>.top)):EntOK P f (typed s run):=by
 refine ⟨hk,fun xs=>⟨?_,?_⟩⟩
 ·unfold typed
  split
  ·exact Det.fail
  ·exact Det.bind (hd _) fun r=>Det.pure _
 ·unfold typed
  split
  ·exact Sat.fail
  ·rename_i a ha
   refine Sat.bind (h a) fun r hr=>Sat.pure ⟨?_,fun q e=>by rw[e,Zjs] at ha;cases ha⟩
   intro F w vals L hT hL hLF hlow htab
   obtain ⟨rfl,hT'⟩:=ZhU ha hT
   have:=hr.1 F w vals [] hT' hL hLF hlow htab
   have he:(toForms s a).map (fun _=>AV.top)=xs.map fun _=>AV.top:=by
    apply List.ext_getElem
    ·simp[ZdR ha]
    ·simp
   rw[he] at this
   exact this
theorem Zi6 {P:Program} {t:Tbl} (ht:∀p∈t,EntOK P p.1 p.2) {tb:Tb} {f:FuncId} {fn:Func} {c:Code} (hf:P.funcs[f]? =some fn) (hname:(fn.name== "runtime.NumGoroutine")=false) (hb:fn.body=some c) {s:Sig} {run:Args s→M AV}
  (hd:∀a,Det (run a)) (hnd:∀a,nodupB ((procsF P (clOf t) tb fn c (toForms s a)).map (·.1))=true)
  (h:∀a,Sat (run a) fun r=>∃n,evF P (clOf t) tb fn n (toForms s a)=some (r,(toForms s a).map fun _=>.top)):EntOK P f (typed s run):=by
 obtain ⟨h1,h2⟩:=Zdc ht
 exact Zkx ⟨fn,c,hf,hname,hb⟩ hd fun a=>(h a).mono fun r ⟨n,hr⟩=>Zew h1 h2 hf hb (hnd a) hr
end Go.Ev
end

section
namespace Go.Ev
variable [Tabs]
open Go
inductive DT (α:Type) where
 | leaf (a:α)
 | no
 | br (c:Bool) (t f:DT α)
def DT.run {α:Type} (k:α→Option Ans):DT α→Option Ans
 |.leaf a=>k a
 |.no=>none
 |.br c t f=>bif c then t.run k else f.run k
def DT.val {α:Type} (d:α):DT α→α
 |.leaf a=>a
 |.no=>d
 |.br c t f=>bif c then t.val d else f.val d
def DT.ok {α:Type} :DT α→Bool
 |.leaf _=>true
 |.no=>false
 |.br c t f=>bif c then t.ok else f.ok
def DT.all {α:Type} :DT α→Bool
 |.leaf _=>true
 |.no=>false
 |.br _ t f=>t.all&&f.all
def tps (l:List AV):List AV:=l.map fun _=>.top
def entT {α:Type} (s:Sig) (R:α→AV) (v:Args s→α):Run:=typed s fun a=>M.pure (R (v a))
def entG {α:Type} (s:Sig) (R:α→AV) (ok:Args s→Bool) (v:Args s→α):Run:=typed s fun a k=>bif ok a then k (R (v a)) else none
section
variable {P:Program} {t:Tbl} {tb:Tb} {f:FuncId} {fn:Func} {c:Code} {s:Sig} {α:Type} {R:α→AV}
theorem ZiM (ht:∀p∈t,EntOK P p.1 p.2) (hf:P.funcs[f]? =some fn) (hname:(fn.name== "runtime.NumGoroutine")=false) (hb:fn.body=some c)
  (hnd:∀a,nodupB ((procsF P (clOf t) tb fn c (toForms s a)).map (·.1))=true) {ok:Args s→Bool} {v:Args s→α}
  (h:∀a,ok a=true→∃n,evF P (clOf t) tb fn n (toForms s a)=some (R (v a),tps (toForms s a))):EntOK P f (entG s R ok v):=
 Zi6 ht hf hname hb (fun a=>Det.guard (Det.pure _)) hnd fun a=>Sat.guard fun hok=>Sat.pure (h a hok)
theorem ZiI (ht:∀p∈t,EntOK P p.1 p.2) (hf:P.funcs[f]? =some fn) (hname:(fn.name== "runtime.NumGoroutine")=false) (hb:fn.body=some c)
  (hnd:∀a,nodupB ((procsF P (clOf t) tb fn c (toForms s a)).map (·.1))=true) {v:Args s→α}
  (h:∀a,∃n,evF P (clOf t) tb fn n (toForms s a)=some (R (v a),tps (toForms s a))):EntOK P f (entT s R v):=
 Zi6 ht hf hname hb (fun a=>Det.pure _) hnd fun a=>Sat.pure (h a)
end
end Go.Ev
namespace Go.Ev
variable [Tabs]
theorem Zaf {P:Program} :∀p∈([]:Tbl),EntOK P p.1 p.2:=fun _ h=>nomatch h
theorem Zp {P:Program} {f:FuncId} {r:Run} {t:Tbl} (h:EntOK P f r) (ht:∀p∈t,EntOK P p.1 p.2):∀p∈(f,r) :: t,EntOK P p.1 p.2:=List.forall_mem_cons.2 ⟨h,ht⟩
end Go.Ev
end

section
namespace Go.Ev
variable [Tabs]
open Go
theorem Det.makeObj {st:St} {d:Option Nat} {o:Obj} {ref:Id→Nat→AV} :Det (makeObj st d o ref):=by
 unfold Go.Ev.makeObj
 split
 ·exact Det.pure _
 ·exact Det.fail
theorem Det.none {α:Type} :Det (fun _=>none:M α):=.inl fun _=>rfl
theorem Det.appendB {st:St} {d:Nat} {E:TypeId} {t:Ty} {bytes:Nat} {s:AV} {ys:List (El t)} :Det (appendB st d E t bytes s ys):=by
 unfold Go.Ev.appendB
 repeat' (first
  | exact Det.pure _
  | exact Det.fail
  | exact Det.guard (Det.pure _)
  | split)
theorem Det.appendA {P:Program} {st:St} {d:Nat} {T:TypeId} {s x:AV} :Det (appendA P st d T s x):=by
 unfold Go.Ev.appendA
 repeat' (first
  | exact Det.appendB
  | exact Det.fail
  | split)
theorem Det.appendZ {P:Program} {st:St} {d:Nat} {T:TypeId} {s:AV} {n:Int} :Det (appendZ P st d T s n):=by
 unfold Go.Ev.appendZ
 repeat' (first
  | exact Det.guard Det.appendB
  | exact Det.fail
  | split)
theorem Det.callA {cl:Cl} (hcl:DetC cl) {f:FuncId} {args:List AV} {d:Option Nat} {st:St} :Det (callA cl f args d st):=by
 unfold Go.Ev.callA
 split
 ·exact Det.fail
 ·refine Det.cond (Det.bind (hcl _ _) fun a=>?_) Det.fail
  repeat' (first
   | exact Det.pure _
   | exact Det.fail
   | split)
theorem Det.callX {cl:Cl} (hcl:DetC cl) {f:FuncId} {args:List AV} {d:Option Nat} {st:St} :Det (callX cl f args d st):=by
 unfold Go.Ev.callX
 split
 ·exact Det.callA fun f xs=>hcl f _
 ·exact Det.callA hcl
theorem Det.opt {st:St} {d:Option Nat} (x:Option AV):Det (match x with | Option.some v=>(M.pure (st.put d v):M St) | Option.none=>Go.Ev.fail):=by
 cases x
 ·exact Det.fail
 ·exact Det.pure _
theorem Det.elim {β:Type} {b:Option β} {x:St} {f:β→St} :Det (fun c=>Option.elim b ((M.pure x:M St) c) (fun v=>(M.pure (f v):M St) c)):=by
 cases b
 ·exact Det.pure _
 ·exact Det.pure _
theorem Ziq {P:Program} {cl:Cl} (hcl:DetC cl) (o:Oper) (st:St):Det (opA P cl o st):=by
 unfold opA
 repeat' (first
  | exact Det.pure _
  | exact Det.fail
  | exact Det.opt _
  | exact Det.elim
  | exact Det.makeObj
  | exact Det.appendA
  | exact Det.appendZ
  | exact Det.callA hcl
  | exact Det.callX hcl
  | (refine Det.bind (by first | exact Det.toI | exact Det.toB | exact Det.branch | exact Det.unA | exact Det.binA | exact Det.lenA | exact Det.boundI | exact Det.caseNat | exact Det.upto) fun _=>?_)
  | exact Det.guard (Det.pure _)
  | exact Det.guard Det.makeObj
  | (refine Det.cond ?_ ?_)
  | split)
theorem ZdA {P:Program} {cl:Cl} (hcl:DetC cl) {ops:Array Oper} :∀(l:List Oper) (st:St),Det (opsA P cl ops l st)
 | [],st=>Det.pure _
 | o :: r,st=>by
  unfold opsA
  split
  ·exact Det.bind (Ziq hcl o st) fun st=>ZdA hcl r st
  ·split
   ·exact Det.fail
   ·split
    ·refine Det.bind Det.branch fun b=>?_
     simp only
     split
     ·exact Det.bind (Ziq hcl o _) fun st=>ZdA hcl r st
     ·exact Det.bind (Ziq hcl o _) fun st=>ZdA hcl r st
     ·exact ZdA hcl r _
    ·exact Det.cond (ZdA hcl r _) Det.fail
    ·exact Det.fail
theorem Zhr {P:Program} {cl:Cl} (hcl:DetC cl) (o:Oper) (st:St):Det (opD P cl o st):=by
 rcases Zkk (P:=P) hcl o st with h | ⟨v,h⟩
 ·exact .inl h
 ·exact .inr ⟨_,h⟩
theorem ZdB {P:Program} {cl:Cl} (hcl:DetC cl) {ops:Array Oper} :∀(l:List Oper) (st:St),Det (opsD P cl ops l st)
 | [],st=>Det.pure _
 | o :: r,st=>by
  unfold opsD
  split
  ·exact Det.bind (Zhr hcl o st) fun st=>ZdB hcl r st
  ·split
   ·exact Det.fail
   ·split
    ·refine Det.bind Det.branch fun b=>?_
     simp only
     split
     ·exact Det.bind (Zhr hcl o _) fun st=>ZdB hcl r st
     ·exact Det.bind (Zhr hcl o _) fun st=>ZdB hcl r st
     ·exact ZdB hcl r _
    ·exact Det.cond (ZdB hcl r _) Det.fail
    ·exact Det.fail
theorem Zhx {P:Program} {cl:Cl} (hcl:DetC cl) (o:Oper) (st:St):Det (opE P cl o st):=by
 rcases Zj5 (P:=P) hcl o st with h | ⟨u,_,h⟩
 ·exact .inl h
 ·exact .inr ⟨_,h⟩
theorem Zdw {P:Program} {cl:Cl} (hcl:DetC cl) {ops:Array Oper} :∀(l:List Oper) (st:St) (log:LogE),Det (opsE P cl ops l st log)
 | [],st,log=>Det.pure _
 | o :: r,st,log=>by
  unfold opsE
  split
  ·exact Det.bind (Zhx hcl o st) fun st'=>Zdw hcl r st' _
  ·split
   ·exact Det.fail
   ·split
    ·refine Det.bind Det.branch fun b=>?_
     simp only
     split
     ·exact Det.bind (Zhx hcl o _) fun st'=>Zdw hcl r st' _
     ·exact Det.bind (Zhx hcl o _) fun st'=>Zdw hcl r st' _
     ·exact Zdw hcl r _ _
    ·exact Det.cond (Zdw hcl r _ _) Det.fail
    ·exact Det.fail
theorem Zkw {P:Program} {cl:Cl} (hcl:DetC cl) {ops:Array Oper} {st:St} :Det (runE P cl ops st):=
 Det.bind (Zdw hcl _ st []) fun p=>Det.cond (Det.pure _) Det.fail
def DK (g:(Ans→Option Ans)→Option Ans):Prop:=(∀f,g f=none)∨∃a,∀f,g f=f a
theorem DK.none:DK fun _=>Option.none:=.inl fun _=>rfl
theorem DK.of {m:M St} (h:Det m) {k:(Ans→Option Ans)→Kt} (hk:∀st,DK fun f=>k f st):DK fun f=>m (k f):=by
 rcases h with h | ⟨st,h⟩
 ·exact .inl fun f=>h _
 ·rcases hk st with h' | ⟨a,h'⟩
  ·exact .inl fun f=>(h _).trans (h' f)
  ·exact .inr ⟨a,fun f=>(h _).trans (h' f)⟩
theorem ZeZ {P:Program} {cl:Cl} (hcl:DetC cl):∀(c:Code) (i:Nat) (k:(Ans→Option Ans)→Kt) (x:(Ans→Option Ans)→Nat→Kt) (r:(Ans→Option Ans)→Kt),(∀st,DK fun f=>k f st)→(∀j st,DK fun f=>x f j st)→(∀st,DK fun f=>r f st)→
  ∀st,DK fun f=>evC P cl [] (fun _ _=>none) c i (k f) (x f) (r f) st
 |.skip,i,k,x,r,hk,hx,hr,st=>by simpa only[evC] using hk st
 |.region id ops draw,i,k,x,r,hk,hx,hr,st=>by
  cases draw with
  | false=>simpa only[evC,cond_false] using DK.of (ZdA hcl ops.toList st) hk
  | true=>
   simp only[evC,cond_true]
   cases (P.follows .mixedOrders&&drawOK ops) with
   | false=>exact DK.none
   | true=>
    simp only[cond_true]
    cases ops.toList.all (isD P) with
    | true=>exact DK.of (ZdB hcl ops.toList st) hk
    | false=>exact DK.of (Zkw hcl) hk
 |.seq a b,i,k,x,r,hk,hx,hr,st=>by
  simp only[evC,labOf]
  exact ZeZ hcl a (i+1) (fun f=>evC P cl [] (fun _ _=>none) b (i+1+nn a) (k f) (x f) (r f)) x r (ZeZ hcl b _ k x r hk hx hr) hx hr st
 |.cond c a b,i,k,x,r,hk,hx,hr,st=>by
  simp only[evC]
  rcases (Det.bind Det.toB fun b=>Det.branch:Det (M.bind (toB (st.ev c)) branch)) with h | ⟨t,h⟩
  ·exact .inl fun f=>h _
  ·cases t with
   | true=>
    rcases ZeZ hcl a i k x r hk hx hr st with h' | ⟨y,h'⟩
    ·exact .inl fun f=>(h _).trans (h' f)
    ·exact .inr ⟨y,fun f=>(h _).trans (h' f)⟩
   | false=>
    rcases ZeZ hcl b (i+nn a) k x r hk hx hr st with h' | ⟨y,h'⟩
    ·exact .inl fun f=>(h _).trans (h' f)
    ·exact .inr ⟨y,fun f=>(h _).trans (h' f)⟩
 |.block id c,i,k,x,r,hk,hx,hr,st=>by
  simp only[evC]
  exact ZeZ hcl c i k (fun f j st=>bif Nat.beq j id then k f st else x f j st) r hk (fun j st=>by
   cases Nat.beq j id
   ·exact hx j st
   ·exact hk st) hr st
 |.loop c,i,k,x,r,hk,hx,hr,st=>by simpa only[evC,labOf] using DK.none
 |.exit id,i,k,x,r,hk,hx,hr,st=>by simpa only[evC] using hx id st
 |.ret,i,k,x,r,hk,hx,hr,st=>by simpa only[evC] using hr st
 |.rangeFunc _ _ _ _,i,k,x,r,hk,hx,hr,st=>by simpa only[evC] using DK.none
 |.scope _,i,k,x,r,hk,hx,hr,st=>by simpa only[evC] using DK.none
 |.label _,i,k,x,r,hk,hx,hr,st=>by simpa only[evC] using DK.none
 |.refuse _,i,k,x,r,hk,hx,hr,st=>by simpa only[evC] using DK.none
 |.goto _,i,k,x,r,hk,hx,hr,st=>by simpa only[evC] using DK.none
def entE (P:Program) (t:Tbl) (fn:Func) (c:Code):Run:=fun xs f=>
 match initA ⟨[],[]⟩ 0 xs with
 | none=>none
 | some (vs,st)=>evC P (clOf t) [] (fun _ _=>none) c 0 (fun st=>(finA P [] fn xs st).bind f) (fun _ _=>none) (fun st=>(finA P [] fn xs st).bind f) { st with tm:=vs++tops (fn.ntmps - vs.length) }
theorem Zlk {P:Program} {t:Tbl} {f:FuncId} {fn:Func} {c:Code} (ht:∀p∈t,EntOK P p.1 p.2) (hf:P.funcs[f]? =some fn) (hname:(fn.name== "runtime.NumGoroutine")=false) (hb:fn.body=some c)
  (hnd:∀xs,nodupB ((procsF P (clOf t) [] fn c xs).map (·.1))=true):EntOK P f (entE P t fn c):=by
 obtain ⟨h1,h2⟩:=Zdc ht
 refine ⟨⟨fn,c,hf,hname,hb⟩,fun xs=>?_⟩
 have hfin:∀st,DK fun f=>(finA P [] fn xs st).bind f:=fun st=>by
  cases h:finA P [] fn xs st with
  | none=>exact .inl fun _=>rfl
  | some a=>exact .inr ⟨a,fun _=>rfl⟩
 have hd:DK (entE P t fn c xs):=by
  unfold entE
  cases hi:initA ⟨[],[]⟩ 0 xs with
  | none=>exact DK.none
  | some p=>exact ZeZ h2 c 0 (fun f st=>(finA P [] fn xs st).bind f) (fun _ _ _=>none) _ hfin (fun _ _=>DK.none) hfin _
 have he:entE P t fn c xs some=evF P (clOf t) [] fn 0 xs:=by
  unfold entE evF
  rw[hb]
  simp only[entryA]
  have hs:(fun st=>(finA P [] fn xs st).bind some)=finA P [] fn xs:=by funext st;cases finA P [] fn xs st <;> rfl
  cases initA ⟨[],[]⟩ 0 xs with
  | none=>rfl
  | some p=>simp only[hs];rfl
 refine ⟨hd,fun k y hk=>?_⟩
 rcases hd with hn | ⟨a,ha⟩
 ·rw[hn] at hk;cases hk
 ·rw[ha] at he hk
  exact ⟨a,Zew h1 h2 hf hb (hnd xs) he.symm,hk⟩
end Go.Ev
end

section
namespace Go.Ev
variable [Tabs]
open Go
inductive JT (J α:Type) where
 | leaf (a:α)
 | no
 | jmp (j:J)
 | br (c:Bool) (t f:JT J α)
def JT.run {J α:Type} (k:α→Option Ans) (g:J→Option Ans):JT J α→Option Ans
 |.leaf a=>k a
 |.no=>none
 |.jmp j=>g j
 |.br c t f=>bif c then t.run k g else f.run k g
inductive Goes {J α:Type} (T:J→JT J α):JT J α→α→Prop
 | leaf {a:α} :Goes T (.leaf a) a
 | jmp {j:J} {a:α} :Goes T (T j) a→Goes T (.jmp j) a
 | brt {t f:JT J α} {a:α} :Goes T t a→Goes T (.br true t f) a
 | brf {t f:JT J α} {a:α} :Goes T f a→Goes T (.br false t f) a
section
variable {J α:Type} {T:J→JT J α}
omit [Tabs]
theorem Zkl {a b:α} :Goes T (.leaf b) a↔b=a:=⟨fun h=>(by cases h;rfl),fun h=>h▸ .leaf⟩
theorem Zz {j:J} {a:α} :Goes T (.jmp j) a↔Goes T (T j) a:=⟨fun h=>(by cases h;assumption),.jmp⟩
theorem Ze {c:Bool} {t f:JT J α} {a:α} :Goes T (.br c t f) a↔if c=true then Goes T t a else Goes T f a:=by
 cases c
 ·exact ⟨fun h=>(by cases h;simpa),fun h=>.brf (by simpa using h)⟩
 ·exact ⟨fun h=>(by cases h;simpa),fun h=>.brt (by simpa using h)⟩
theorem Goes.br {c:Bool} {t f:JT J α} {a b:α} (ht:Goes T t a) (hf:Goes T f b):Goes T (.br c t f) (bif c then a else b):=by
 cases c
 ·exact .brf hf
 ·exact .brt ht
theorem Goes.brk {c:Bool} {t f:JT J α} {a b:α} {k1 k2:Bool} (hk:(bif c then k1 else k2)=true) (ht:k1=true→Goes T t a) (hf:k2=true→Goes T f b):Goes T (.br c t f) (bif c then a else b):=by
 cases c
 ·exact .brf (hf hk)
 ·exact .brt (ht hk)
theorem Goes.nok {a:α} (hk:false=true):Goes T .no a:=by cases hk
end
section
variable {P:Program} {cl:Cl} {tb:Tb} {fn:Func} {c:Code} {J α:Type} {T:J→JT J α} {ps:List (Nat×(Lt→Kt))} {S:J→Nat×St} {K:α→Ans} {args:List AV}
omit [Tabs]
theorem ZiV (hl:∀L j,procOf ps (S j).1 L (S j).2=(T j).run (fun v=>some (K v)) fun j=>L (S j).1 (S j).2) {d:JT J α} {a:α} (h:Goes T d a):
  ∃n,d.run (fun v=>some (K v)) (fun j=>Ls ps n (S j).1 (S j).2)=some (K a):=by
 induction h with
 | leaf=>exact ⟨0,rfl⟩
 | @jmp j a _ ih=>
  obtain ⟨n,hn⟩:=ih
  refine ⟨n+1,?_⟩
  show Ls ps (n+1) (S j).1 (S j).2=some (K a)
  show procOf ps (S j).1 (Ls ps n) (S j).2=some (K a)
  rw[hl]
  exact hn
 | brt _ ih=>exact ih
 | brf _ ih=>exact ih
theorem ZY (hb:fn.body=some c) {d:JT J α} (he:∀L,entryA P cl tb fn c L args=d.run (fun v=>some (K v)) fun j=>L (S j).1 (S j).2)
  (hl:∀L j,procOf (procsF P cl tb fn c args) (S j).1 L (S j).2=(T j).run (fun v=>some (K v)) fun j=>L (S j).1 (S j).2) {a:α} (h:Goes T d a):
  ∃n,evF P cl tb fn n args=some (K a):=by
 obtain ⟨n,hn⟩:=ZiV hl h
 refine ⟨n,?_⟩
 unfold evF
 rw[hb]
 simp only
 rw[he]
 exact hn
end
def bs (l:List Nat):ByteArray:=⟨(l.map UInt8.ofNat).toArray⟩
@[reducible] def eqB (a b:ByteArray):Bool:=a.data.toList==b.data.toList
@[reducible] def ltB (a b:ByteArray):Bool:=lessB a.data.toList b.data.toList
def bitAnd (k:IntKind) (a b:Int):Int:=k.wrap ((BitVec.ofInt k.bits a) &&& (BitVec.ofInt k.bits b)).toNat
def bitOr (k:IntKind) (a b:Int):Int:=k.wrap ((BitVec.ofInt k.bits a) ||| (BitVec.ofInt k.bits b)).toNat
@[reducible] def minI (a b:Int):Int:=if b < a then b else a
@[reducible] def maxI (a b:Int):Int:=if a < b then b else a
end Go.Ev
end

section
namespace Go.Ev
open Go Go.ChangeShapes Go.RowKit
variable [Tabs]
def fieldsC (chk:TypeId→Ty→Bool) (P:Program):List (TypeId×Nat)→Nat→Ty→Bool
 | [],_,.un=>true
 | [f],off,ty=>f.2==off&&(chk f.1 ty&&P.cellsOf f.1==ty.cells)
 | f :: r,off,.pr a b=>f.2==off&&(chk f.1 a&&(P.cellsOf f.1==a.cells&&fieldsC chk P r (off+a.cells) b))
 | _,_,_=>false
def tyC (P:Program):Nat→TypeId→Ty→Bool
 | 0,_,_=>false
 | n+1,t,ty=>match P.underlying t with
  | some (.int k)=>decide (ty=.int k)
  | some .bool=>decide (ty=.bool)
  | some .string=>decide (ty=.str)
  | some (.slice e)=>match ty with
   |.sl u=>tyC P n e u&&(P.cellsOf e==u.cells&&Nat.blt 0 u.cells)
   | _=>false
  | some (.struct fs)=>fieldsC (tyC P n) P (fs.toList.map fun f=>(f.type,f.offset)) 0 ty&&P.cellsOf t==ty.cells
  | some (.array k e)=>fieldsC (tyC P n) P ((List.range k).map fun i=>(e,i*P.cellsOf e)) 0 ty&&P.cellsOf t==ty.cells
  | _=>false
def small:(t:Ty)→El t→Prop
 |.int k,n=>k.min≤(show Int from n)∧(show Int from n)≤k.max
 |.str,s=>(show ByteArray from s).size≤maxLen
 |.sl t,l=>List.length (show List (El t) from l)≤maxLen∧∀x∈(show List (El t) from l),small t x
 |.pr a b,x=>small a x.1∧small b x.2
 | _,_=>True
section
variable {H:Type} {enc:TypeId×Value→H} {P:Program} {w:World} {base:Nat} {spare:Nat→Bool} {held:Bool}
theorem ZjV {a:Addr} {n:Nat} {cs:List Value} (h:w.cells? base a n=some cs):cs.length=n∧cellsAt w a cs:=by
 unfold World.cells? at h
 split at h
 ·have hl:cs.length=n:=by have:=mapM_some_length h;rw[List.length_range] at this;exact this
  refine ⟨hl,fun j v hv=>?_⟩
  have hj:j < cs.length:=(List.getElem?_eq_some_iff.1 hv).1
  have:=mapM_some_get h j j (by rw[List.getElem?_range (by omega)])
  rw[this];exact hv
 ·cases h
theorem Zfp {chk:TypeId→Ty→Bool} {F:Nat→Prop} (hchk:∀t ty cs d,chk t ty=true→(∃n,DataW.trod enc P w base spare held n t cs=some d)→∃x:El ty,LRep F w ty x cs∧small ty x):
  ∀(fs:List (TypeId×Nat)) (off:Nat) (ty:Ty) (cs:List Value),fieldsC chk P fs off ty=true→(∀f∈fs,∃n d,DataW.trod enc P w base spare held n f.1 ((cs.drop f.2).take (P.cellsOf f.1))=some d)→off+ty.cells≤cs.length→
   ∃x:El ty,LRep F w ty x ((cs.drop off).take ty.cells)∧small ty x
 | [],off,ty,cs,h,_,_=>by
  cases ty <;> simp only[fieldsC] at h <;> first | (cases h;done) | skip
  exact ⟨(),by simp[LRep,Ty.cells],trivial⟩
 | [f],off,ty,cs,h,hf,hl=>by
  have h':(f.2==off&&(chk f.1 ty&&P.cellsOf f.1==ty.cells))=true:=by
   cases ty <;> exact h
  simp only[Bool.and_eq_true,beq_iff_eq] at h'
  obtain ⟨h1,h2,h3⟩:=h'
  obtain ⟨n,d,hd⟩:=hf f (by simp)
  rw[h1,h3] at hd
  exact hchk _ _ _ d h2 ⟨n,hd⟩
 | f :: g :: r,off,ty,cs,h,hf,hl=>by
  cases ty with
  | pr a b=>
   have h':(f.2==off&&(chk f.1 a&&(P.cellsOf f.1==a.cells&&fieldsC chk P (g :: r) (off+a.cells) b)))=true:=h
   simp only[Bool.and_eq_true,beq_iff_eq] at h'
   obtain ⟨h1,h2,h3,h4⟩:=h'
   obtain ⟨n,d,hd⟩:=hf f (by simp)
   rw[h1,h3] at hd
   obtain ⟨x,hx,sx⟩:=hchk _ _ _ d h2 ⟨n,hd⟩
   simp only[Ty.cells] at hl
   obtain ⟨y,hy,sy⟩:=Zfp hchk (g :: r) (off+a.cells) b cs h4 (fun f' hf'=>hf f' (by simp only[List.mem_cons] at hf' ⊢;exact .inr hf')) (by omega)
   refine ⟨(x,y),?_,sx,sy⟩
   simp only[LRep]
   refine ⟨_,_,?_,hx,hy⟩
   simp only[Ty.cells]
   rw[List.take_add,List.drop_drop]
  | _=>simp[fieldsC] at h
theorem ZjZ {α:Type} {Q:Nat→α→Prop} :∀ {n:Nat},(∀i,i < n→∃x,Q i x)→∃l:List α,l.length=n∧∀i x,l[i]? =some x→Q i x
 | 0,_=>⟨[],rfl,fun i x hx=>by simp at hx⟩
 | n+1,h=>by
  obtain ⟨l,hl,hall⟩:=ZjZ (n:=n) fun i hi=>h i (by omega)
  obtain ⟨x,hx⟩:=h n (by omega)
  refine ⟨l++[x],by simp[hl],fun i y hy=>?_⟩
  by_cases hi:i < n
  ·rw[List.getElem?_append_left (by omega)] at hy
   exact hall i y hy
  ·rw[List.getElem?_append_right (by omega)] at hy
   have hik:i=n:=by
    have:=(List.getElem?_eq_some_iff.1 hy).1
    simp at this;omega
   subst hik
   simp[hl] at hy
   subst hy
   exact hx
theorem ZfP:∀(m:Nat) (t:TypeId) (ty:Ty) (cs:List Value) (d:DataW H×List MemPlace),tyC P m t ty=true→(∃n,DataW.trod enc P w base spare held n t cs=some d)→
  ∃x:El ty,LRep (fun b=>b < w.heap.size) w ty x cs∧small ty x
 | 0,_,_,_,_,h,_=>by cases h
 | m+1,t,ty,cs,d,h,⟨n,hd⟩=>by
  unfold tyC at h
  split at h
  ·rename_i k hu
   obtain rfl:=of_decide_eq_true h
   obtain ⟨i,rfl,_,hw⟩:=DataW.trod_int hu hd
   exact ⟨i,rfl,(show k.min≤i∧i≤k.max by simpa[Lit.wf] using hw)⟩
  ·rename_i hu
   obtain rfl:=of_decide_eq_true h
   obtain ⟨b,rfl,_⟩:=DataW.trod_bool hu hd
   exact ⟨b,rfl,trivial⟩
  ·rename_i hu
   obtain rfl:=of_decide_eq_true h
   obtain ⟨s,rfl,_,hs⟩:=DataW.trod_string hu hd
   exact ⟨s,rfl,hs⟩
  ·rename_i e hu
   split at h
   ·rename_i u
    simp only[Bool.and_eq_true,beq_iff_eq] at h
    obtain ⟨h1,h2,h0⟩:=h
    have hz:0 < u.cells:=Nat.le_of_ble_eq_true h0
    rcases DataW.trod_slice hu hd with ⟨rfl,_⟩ | ⟨a,len,cap,elems,rest,n',_,rfl,_,hb,hlc,hcm,hel,hat,_,_⟩
    ·exact ⟨[],⟨none,0,rfl,Nat.le_refl _,fun i x hx=>by simp at hx⟩,by simp[small]⟩
    ·have each:∀i,i < len→∃x:El u,(∃cs,LRep (fun b=>b < w.heap.size) w u x cs∧cellsAt w (a.add (i*u.cells)) cs∧(0 < cs.length→a.block < w.heap.size))∧small u x:=by
      intro i hi
      have h3:=hat i hi
      rw[List.getElem?_eq_getElem (by omega)] at h3
      obtain ⟨cs,hc,ht⟩:=Option.bind_eq_some_iff.1 h3
      rw[h2] at hc
      obtain ⟨hl,hca⟩:=ZjV hc
      obtain ⟨x,hx,sx⟩:=ZfP m e u cs _ h1 ⟨n',ht⟩
      refine ⟨x,⟨cs,hx,hca,fun hp=>?_⟩,sx⟩
      have h0:=hca 0 cs[0] (by simp[hp])
      have:=World.cells?_block hc (by omega)
      rwa[Addr.add_block] at this
     have:=ZjZ each
     obtain ⟨l,hl,hall⟩:=this
     refine ⟨l,⟨some a,cap,by rw[hl],by rw[hl];exact hlc,fun i x hx=>?_⟩,?_,fun x hx=>?_⟩
     ·obtain ⟨⟨cs,c1,c2,c3⟩,_⟩:=hall i x hx
      exact ⟨a,cs,rfl,c3 (by rw[c1.length];omega),c1,c2⟩
     ·rw[hl];omega
     ·obtain ⟨i,hi⟩:=List.getElem?_of_mem hx
      exact (hall i x hi).2
   ·cases h
  ·rename_i fs hu
   simp only[Bool.and_eq_true,beq_iff_eq] at h
   obtain ⟨h1,h2⟩:=h
   obtain ⟨xs,n',_,_,hl,hxl,hxs⟩:=DataW.trod_struct hu hd
   obtain ⟨x,hx,sx⟩:=Zfp (fun t ty cs d hc he=>ZfP m t ty cs d hc he) (fs.toList.map fun f=>(f.type,f.offset)) 0 ty cs h1 (fun f hf=>by
    obtain ⟨g,hg,e⟩:=List.mem_map.1 hf
    subst e
    obtain ⟨i,hi⟩:=List.getElem?_of_mem hg
    have:=hxs i g (by simpa using hi)
    have hlt:i < xs.length:=by
     have:=(List.getElem?_eq_some_iff.1 hi).1
     simp at this;omega
    rw[List.getElem?_eq_getElem hlt] at this
    exact ⟨n',_,this⟩) (by omega)
   refine ⟨x,?_,sx⟩
   rw[List.drop_zero,List.take_of_length_le (by omega)] at hx
   exact hx
  ·rename_i k e hu
   simp only[Bool.and_eq_true,beq_iff_eq] at h
   obtain ⟨h1,h2⟩:=h
   obtain ⟨xs,n',_,_,hl,hxl,hxs⟩:=DataW.trod_array hu hd
   obtain ⟨x,hx,sx⟩:=Zfp (fun t ty cs d hc he=>ZfP m t ty cs d hc he) ((List.range k).map fun i=>(e,i*P.cellsOf e)) 0 ty cs h1 (fun f hf=>by
    obtain ⟨i,hi,rfl⟩:=List.mem_map.1 hf
    rw[List.mem_range] at hi
    have:=hxs i hi
    rw[List.getElem?_eq_getElem (by omega)] at this
    exact ⟨n',_,this⟩) (by omega)
   refine ⟨x,?_,sx⟩
   rw[List.drop_zero,List.take_of_length_le (by omega)] at hx
   exact hx
  ·cases h
theorem ZhM {r:Reach} {b:Nat} {m:Nat} {t:TypeId} {ty:Ty} {v:Value} (hg:isAgg P t=some false) (ht:tyC P m t ty=true) (hv:Value.okWide P w r b t v):v.cells.toList=[v]:=by
 cases m with
 | zero=>cases ht
 | succ m=>
  unfold tyC at ht
  unfold isAgg at hg
  unfold Value.okWide at hv
  split at ht <;> rename_i hu
  case h_5=>rw[hu] at hg;simp at hg
  case h_6=>rw[hu] at hg;simp at hg
  case h_7=>cases ht
  all_goals
   rw[hu] at hv
   simp only[Cell.okWide,Cell.ok,hu] at hv
   cases v <;> first | rfl | (exact absurd hv (by simp))
def argsC (P:Program):List TypeId→Sig→Bool
 | [],[]=>true
 | t :: ts,(g,ty) :: s=>(match isAgg P t with | some g'=>g'==g | none=>false)&&(tyC P 12 t ty&&argsC P ts s)
 | _,_=>false
def smallArgs:(s:Sig)→Args s→Prop
 | [],_=>True
 | p :: r,a=>small p.2 a.1∧smallArgs r a.2
theorem Zi8 {r:Reach} {b:Nat} :∀(ts:List TypeId) (s:Sig) (vs:List Value) (ds:List (DataW H)) (ps:List MemPlace),argsC P ts s=true→
  (∀(j:Nat) t v,ts[j]? =some t→vs[j]? =some v→Value.okWide P w r b t v)→DataW.TrodAll enc P w base spare held ts vs ds ps→
  ∃a:Args s,TReps (fun b=>b < w.heap.size) w (toForms s a) vs []∧smallArgs s a∧ds.length=ts.length
 | [],[],vs,ds,ps,_,_,h=>by
  obtain ⟨rfl,rfl,rfl⟩:=trodAll_nil h
  exact ⟨(),.nil,trivial,rfl⟩
 | [],_ :: _,_,_,_,h,_,_=>by cases h
 | _ :: _,[],_,_,_,h,_,_=>by cases h
 | t :: ts,(g,ty) :: s,vs,ds,ps,h,hv,hd=>by
  simp only[argsC,Bool.and_eq_true] at h
  obtain ⟨hg,ht,hr⟩:=h
  obtain ⟨v,vs1,d,ds1,p,q,rfl,rfl,rfl,h1,h2⟩:=trodAll_cons hd
  obtain ⟨a,ha,sa,la⟩:=Zi8 ts s vs1 ds1 q hr (fun j t' v' e1 e2=>hv (j+1) t' v' e1 e2) h2
  obtain ⟨n,hn⟩:=h1
  obtain ⟨x,hx,sx⟩:=ZfP 12 t ty v.cells.toList _ ht ⟨n,hn⟩
  have hok:=hv 0 t v rfl rfl
  have hf:CsRep (fun b=>b < w.heap.size) ρ0 w st0 (flat ty x) v.cells.toList:=ZbU hx
  have hT:=ZdD hf Zes
  refine ⟨(x,a),?_,⟨sx,sa⟩,by simp[la]⟩
  cases hag:isAgg P t with
  | none=>rw[hag] at hg;cases hg
  | some g'=>
   rw[hag] at hg
   simp only[beq_iff_eq] at hg
   subst hg
   cases g' with
   | true=>
    have:∃cs,v=.agg cs:=by
     unfold isAgg at hag
     unfold Value.okWide at hok
     split at hok
     ·obtain ⟨cs,e,_⟩:=hok;exact ⟨cs,e⟩
     ·obtain ⟨cs,e,_⟩:=hok;exact ⟨cs,e⟩
     ·rename_i h1 h2
      split at hag
      ·rename_i fs hu;exact absurd hu (h1 fs)
      ·rename_i m e hu;exact absurd hu (h2 m e)
      ·cases hag
      ·cases hag
    obtain ⟨cs,rfl⟩:=this
    have:=TReps.ag hT ha
    simpa[toForms,toForm,Value.cells] using this
   | false=>
    have hs:=ZhM hag ht hok
    rw[hs] at hT hf
    have hlen:=hf.1
    show TReps _ w ((flat ty x).headD .top :: toForms s a) (v :: vs1) []
    match hm:flat ty x,hlen with
    | [c],_=>
     rw[hm] at hT
     have:=hT.append ha
     simpa using this
theorem Zkh {f:Func} {s:ChangeSpec} {W W':World} {args:Array Value} {v:Value} {ds gs:List (DataW H)} {before pa pv:List MemPlace} {apart fresh handsOn again:Bool}
  (hW:DataW.Whole enc P f.params.toList s.vars apart W args.toList ds gs before)
  (hres:∀(b:Nat) (sp:Nat→Bool) (hd:Bool),DataW.TrodAll enc P W' b sp hd f.resultTypes.toList (v.resultList f.resultTypes.size) (s.fn H (ds++gs)).results [])
  (hargs:∀sp:Nat→Bool,(∀p∈before,sp p.block=true)→DataW.TrodAll enc P W' 0 sp true f.params.toList args.toList (s.fn H (ds++gs)).args pa)
  (hvars:∀sp:Nat→Bool,(∀p∈before,sp p.block=true)→DataW.TrodVars enc P W' sp s.vars (s.fn H (ds++gs)).vars pv)
  (hps:before=pa++pv) (hk:W.keptBut W' (· ∈before)) (hfz:∀a:Addr,a.block < W.heap.size→W'.frozen? a=W.frozen? a)
  (hok:∀(j:Nat) (t:TypeId) (r:Value),f.resultTypes[j]? =some t→(v.resultList f.resultTypes.size)[j]? =some r→Value.okWide P W' .any 0 t r):
  s.post enc P f apart fresh handsOn again W args v W':=by
 have hold:∀p∈before,(fun b=>decide (b < W.heap.size)) p.block=true:=fun p hp=>by simpa using hW.lt p hp
 refine ⟨ds,gs,before,[],pa,pv,hW,hres _ _ _,hargs _ hold,hvars _ hold,World.keptBut_mono (fun p hp=>⟨hp,?_⟩) hk,fun _=>?_⟩
 ·rw[hps,List.mem_append] at hp
  exact Or.inr hp
 ·have hlt:=hW.lt
  obtain ⟨_,_,_,_,_,hz,hn⟩:=hW
  refine ⟨hok,_,_,([]++pa)++pv,⟨[]++pa,pv,trodAll_append (hargs _ (fun _ _=>rfl)) (hres _ _ _),hvars _ (fun _ _=>rfl),rfl,?_,?_⟩,?_⟩
  ·intro b off hp
   have hb:MemPlace.cell b off∈before:=by rw[hps];simpa using hp
   rw[hfz _ (hlt _ hb)]
   exact hz b off hb
  ·intro ha
   have:=hn ha
   rw[hps] at this
   simpa using this
  ·intro p hp _
   rw[hps]
   simpa using hp
end
theorem Zez {H:Type} {enc:TypeId×Value→H} {P:Program} {W W':World} {sp:Nat→Bool} (hl:laidOutB P=true) (hb:Below W.heap.size W W'):
  ∀ {ts:List TypeId} {vs:List Value} {ds:List (DataW H)} {ps:List MemPlace},(∀t∈ts,P.readableRec t=true∧t < P.types.size)→(∀p∈ps,p.block < W.heap.size)→(∀p∈ps,sp p.block=true)→
   DataW.TrodAll enc P W 0 (fun _=>true) true ts vs ds ps→DataW.TrodAll enc P W' 0 sp true ts vs ds ps
 | [],_,_,_,_,_,_,h=>by
  obtain ⟨rfl,rfl,rfl⟩:=trodAll_nil h
  rfl
 | t :: ts,_,_,_,ht,hlt,hsp,h=>by
  obtain ⟨v,vs1,d,ds1,p,q,rfl,rfl,rfl,h1,h2⟩:=trodAll_cons h
  refine ⟨p,q,?_,Zez hl hb (fun t' ht'=>ht t' (List.mem_cons_of_mem _ ht')) (fun x hx=>hlt x (List.mem_append_right _ hx)) (fun x hx=>hsp x (List.mem_append_right _ hx)) h2,rfl⟩
  exact WideElems.Trod_stays hl (ht t (by simp)).1 (ht t (by simp)).2 h1 (fun x hx=>hb.same (hlt x (List.mem_append_left _ hx))) (fun x hx=>hsp x (List.mem_append_left _ hx))
theorem ZhA {H:Type} {enc:TypeId×Value→H} {P:Program} {f:FuncId} {fn:Func} {s:ChangeSpec} {sg:Sig} {tb:TypeId} {fresh handsOn again:Bool} (hvars:s.vars=[]) (hres:fn.resultTypes= #[tb]) (hb:P.underlying tb=some .bool)
  (hl:laidOutB P=true) (hread:(fn.params.toList.all fun t=>P.readableRec t&&Nat.blt t P.types.size)=true) (hsg:argsC P fn.params.toList sg=true)
  (hs:∀ds:List (DataW H),ds.length=fn.params.toList.length→s.fn H ds= { results:=[.lit (.bool true)],args:=ds })
  {W:World} {base:Nat} {args:Array Value} {ds gs:List (DataW H)} {before:List MemPlace}
  (hval:∀(j:Nat) t v,fn.params[j]? =some t→args[j]? =some v→Value.okWide P W .any base t v)
  (hW:DataW.Whole enc P fn.params.toList s.vars false W args.toList ds gs before) (htab:Tabs.ok W) (hblocks:∀b∈Tabs.blocks,b < W.heap.size)
  (hcall:∀a:Args sg,smallArgs sg a→∃outs,CallOK P f (toForms sg a) (.d .bool true,outs)):
  Calls P f args W fun e W'=>∃v,e=.returned v∧s.post enc P fn false fresh handsOn again W args v W':=by
 have hW':=hW
 obtain ⟨p,q,hA,hV,rfl,_,_⟩:=hW
 rw[hvars] at hV
 obtain ⟨rfl,rfl⟩:=trodVars_none hV
 obtain ⟨a,hT,hsm,hlen⟩:=Zi8 fn.params.toList sg args.toList ds p hsg (fun j t v h1 h2=>hval j t v (by simpa using h1) (by simpa using h2)) hA
 obtain ⟨outs,hc⟩:=hcall a hsm
 have hcl:=hc.1 (fun b=>b < W.heap.size) W args.toList [] hT List.nodup_nil (fun b hb=>by simp at hb) (fun b hb=>hb) ⟨hblocks,htab⟩
 rw[Array.toArray_toList] at hcl
 refine Calls.mono hcl ?_
 intro e W' he
 cases e with
 | returned v=>
  obtain ⟨F',Lr,Lo,hE,hlow,hTr,_,_,_⟩:=he
  have hv:v=.bool true:=by
   cases hTr with
   | flat h1 h2 h3=>cases h2 with | d _ _ _ h=>simpa[LRep] using h
  subst hv
  have hsame:∀i,i < W.heap.size→W'.heap[i]? =W.heap[i]?:=fun i hi=>hE.same i hi (.inl hi)
  have hbel:Below W.heap.size W W':=⟨hE.os,hE.tape,hE.output,hE.size,hsame⟩
  have hlt:=hW'.lt
  have hfn:s.fn H (ds++[])= { results:=[.lit (.bool true)],args:=ds } :=by rw[List.append_nil];exact hs ds hlen
  have hvs:(s.fn H (ds++[])).vars=[]:=by rw[hfn]
  refine ⟨_,rfl,Zkh (pa:=p) (pv:=[]) hW' (fun b sp hd=>?_) (fun sp hsp=>?_) (fun sp _=>?_) rfl ⟨hE.os,hE.output,fun i hi=>?_⟩ (fun x hx=>?_) (ok_one hres rfl (okWide_bool_mk hb true))⟩
  ·rw[hfn,hres]
   exact trodAll_mk1 (shut_bool hb _)
  ·rw[hfn]
   refine Zez hl hbel (fun t ht=>?_) (fun x hx=>hlt x (by simpa using hx)) (fun x hx=>hsp x (by simpa using hx)) hA
   have:=List.all_eq_true.1 hread t ht
   simp only[Bool.and_eq_true] at this
   exact ⟨this.1,Nat.le_of_ble_eq_true this.2⟩
  ·rw[hvars,hvs]
   rfl
  ·rw[hsame i hi]
   cases W.heap[i]? with
   | none=>rfl
   | some o=>
    cases o with
    | cells c t fr=>exact ⟨rfl,rfl,rfl,fun _ _=>rfl⟩
    | map es clock=>exact .inr ⟨rfl,rfl⟩
    | _=>rfl
  ·unfold World.frozen?
   rw[hsame _ hx]
 | _=>exact he.elim
end Go.Ev
end

section
namespace Go.Ev
variable [Tabs]
open Go
inductive CK where
 | d (t:Ty)
 | w (E:TypeId) (t:Ty)
 | m (kt vt:Ty)
@[reducible] def CK.ty:CK→Ty
 |.d t=>t
 |.w _ t=>.sl t
 |.m kt vt=>.sl (.pr kt vt)
@[reducible] def cksTy:List CK→Ty
 | []=>.un
 | [c]=>c.ty
 | c :: r=>.pr c.ty (cksTy r)
inductive PK where
 | dat (g:Bool) (t:Ty)
 | obj (T:TypeId) (cs:List CK)
 | ptr (T S:TypeId) (cs:List CK) -- a box that holds the address of such a box
 | nilp
 | row (E:TypeId) (t:Ty) -- a row of one's own,handed over whole
@[reducible] def PK.ty:PK→Ty
 |.dat _ t=>t
 |.obj _ cs=>cksTy cs
 |.ptr _ _ cs=>cksTy cs
 |.nilp=>.un
 |.row _ t=>.sl t
abbrev PSig:=List PK
@[reducible] def PArgs:PSig→Type
 | []=>Unit
 | p :: r=>El p.ty×PArgs r
def ofCell:(c:CK)→AV→Option (El c.ty)
 |.d t,x=>ofForm (false,t) x
 |.w E t,.rw E' t' l=>if E'=E then (if h:t'=t then some (show List (El t) from h▸l) else none) else none
 |.w _ _,.nil=>some []
 |.m kt vt,.mv kt' vt' l=>if h:kt'=kt∧vt'=vt then some (show List (El kt×El vt) from h.1▸h.2▸l) else none
 | _,_=>none
def toCell:(c:CK)→El c.ty→AV
 |.d t,v=>toForm (false,t) v
 |.w E t,l=>.rw E t l
 |.m kt vt,l=>.mv kt vt l
def ofCells:(cs:List CK)→List AV→Option (El (cksTy cs))
 | [],[]=>some ()
 | [c],[x]=>ofCell c x
 | c :: d :: r,x :: xs=>(ofCell c x).bind fun a=>(ofCells (d :: r) xs).map fun b=>(a,b)
 | _,_=>none
def toCells:(cs:List CK)→El (cksTy cs)→List AV
 | [],_=>[]
 | [c],v=>[toCell c v]
 | c :: d :: r,v=>toCell c v.1 :: toCells (d :: r) v.2
def ofP:(p:PK)→AV→Option (El p.ty)
 |.dat g t,x=>ofForm (g,t) x
 |.obj T cs,.bx T' xs=>if T'=T then ofCells cs xs else none
 |.ptr T S cs,.bx T' [.bx S' xs]=>if T'=T∧S'=S then ofCells cs xs else none
 |.nilp,.cst (.pointer none)=>some ()
 |.row E t,x=>ofCell (.w E t) x
 | _,_=>none
def toP:(p:PK)→El p.ty→AV
 |.dat g t,v=>toForm (g,t) v
 |.obj T cs,v=>.bx T (toCells cs v)
 |.ptr T S cs,v=>.bx T [.bx S (toCells cs v)]
 |.nilp,_=>.cst (.pointer none)
 |.row E t,l=>.rw E t l
def ofPs:(s:PSig)→List AV→Option (PArgs s)
 | [],[]=>some ()
 | p :: r,x :: xs=>(ofP p x).bind fun a=>(ofPs r xs).map fun b=>(a,b)
 | _,_=>none
def toPs:(s:PSig)→PArgs s→List AV
 | [],_=>[]
 | p :: r,a=>toP p a.1 :: toPs r a.2
section
variable {F:Nat→Prop} {w:World}
theorem Zha {c:CK} {x:AV} {a:El c.ty} {v:Value} {L:List Nat} (h:ofCell c x=some a) (hT:TReps F w [x] [v] L):TReps F w [toCell c a] [v] L:=by
 cases c with
 | d t=>
  obtain ⟨rfl,q⟩:=Zhf (p:=(false,t)) h hT
  exact q
 | w E t=>
  by_cases hn:x=.nil
  ·subst hn
   simp only[ofCell,Option.some.injEq] at h
   subst h
   cases hT with
   | flat hx ha hr=>
    cases ha
    cases hr
    have:=TReps.rw (F:=F) (E:=E) (t:=t) (l:=[]) (v:=.slice none 0 0) ⟨[],⟨by simp,.inl ⟨rfl,rfl⟩⟩,fun i x hx=>by simp at hx⟩ (TReps.nil (w:=w))
    exact this
  cases x <;> simp only[ofCell] at h <;> first | (cases h;done) | (exact absurd rfl hn) | skip
  rename_i E' t' l
  split at h
  ·rename_i hE
   subst hE
   split at h
   ·rename_i ht
    subst ht
    cases h
    exact hT
   ·cases h
  ·cases h
 | m kt vt=>
  cases x <;> simp only[ofCell] at h <;> first | (cases h;done) | skip
  rename_i kt' vt' l
  split at h
  ·rename_i hk
   obtain ⟨h1,h2⟩:=hk
   subst h1
   subst h2
   cases h
   exact hT
  ·cases h
theorem Zgi:∀ {cs:List CK} {xs:List AV} {a:El (cksTy cs)} {vs:List Value} {L:List Nat},ofCells cs xs=some a→TReps F w xs vs L→TReps F w (toCells cs a) vs L
 | [],[],a,vs,L,_,hT=>hT
 | [],_ :: _,a,vs,L,h,_=>by cases h
 | [c],[x],a,vs,L,h,hT=>by
  obtain ⟨v,us,L1,L2,rfl,rfl,t1,t2⟩:=hT.split
  cases t2
  have:=Zha (c:=c) h t1
  simpa[toCells] using this
 | [c],[],a,vs,L,h,_=>by cases h
 | [c],_ :: _ :: _,a,vs,L,h,_=>by cases h
 | c :: d :: r,[],a,vs,L,h,_=>by cases h
 | c :: d :: r,x :: xs,a,vs,L,h,hT=>by
  simp only[ofCells] at h
  obtain ⟨b,h1,h⟩:=Option.bind_eq_some_iff.1 h
  obtain ⟨e,h2,rfl⟩:=Option.map_eq_some_iff.1 h
  obtain ⟨v,us,L1,L2,rfl,rfl,t1,t2⟩:=hT.split
  have q1:=Zha h1 t1
  have q2:=Zgi h2 t2
  have:=q1.append q2
  simpa[toCells] using this
theorem ZjS {p:PK} {x:AV} {a:El p.ty} {v:Value} {L:List Nat} (h:ofP p x=some a) (hT:TReps F w [x] [v] L):TReps F w [toP p a] [v] L:=by
 cases p with
 | dat g t=>
  obtain ⟨rfl,q⟩:=Zhf (p:=(g,t)) h hT
  exact q
 | obj T cs=>
  cases x <;> simp only[ofP] at h <;> first | (cases h;done) | skip
  rename_i T' xs
  split at h
  ·rename_i hTT
   subst hTT
   cases hT with
   | flat hx=>cases hx
   | bx hb h1 h2=>exact .bx hb (Zgi h h1) h2
  ·cases h
 | ptr T S cs=>
  match x,h with
  |.bx T' [.bx S' xs],h=>
   simp only[ofP] at h
   split at h
   ·rename_i hTT
    obtain ⟨rfl,rfl⟩:=hTT
    cases hT with
    | flat hx=>cases hx
    | bx hb h1 h2=>
     cases h1 with
     | flat hx=>cases hx
     | bx hb' h1' h2'=>exact .bx hb (.bx hb' (Zgi h h1') h2') h2
   ·cases h
 | nilp=>
  match x,h with
  |.cst (.pointer none),h=>exact hT
 | row E t=>exact Zha (c:=.w E t) h hT
theorem Ze9:∀ {s:PSig} {xs:List AV} {a:PArgs s} {vs:List Value} {L:List Nat},ofPs s xs=some a→TReps F w xs vs L→TReps F w (toPs s a) vs L
 | [],[],a,vs,L,_,hT=>hT
 | [],_ :: _,a,vs,L,h,_=>by cases h
 | p :: s,[],a,vs,L,h,_=>by cases h
 | p :: s,x :: xs,a,vs,L,h,hT=>by
  simp only[ofPs] at h
  obtain ⟨b,h1,h⟩:=Option.bind_eq_some_iff.1 h
  obtain ⟨c,h2,rfl⟩:=Option.map_eq_some_iff.1 h
  obtain ⟨v,us,L1,L2,rfl,rfl,t1,t2⟩:=hT.split
  have:=(ZjS h1 t1).append (Ze9 h2 t2)
  simpa[toPs] using this
end
def typedO (s:PSig) (run:PArgs s→M Ans) (els:Run):Run:=fun xs=>match ofPs s xs with
 | none=>els xs
 | some a=>run a
def noRun:Run:=fun _=>fail
theorem ZeV {P:Program} {f:FuncId} (hk:Known P f):EntOK P f noRun:=⟨hk,fun xs=>⟨Det.fail,Sat.fail⟩⟩
theorem ZlB {p:PK} {i v o:Nat} :ofP p (.pt i v o)=none:=by
 cases p with
 | dat g t=>exact ZhJ
 | row E t=>rfl
 | _=>rfl
theorem Zlh {i v o:Nat} {r:List AV} :∀ {s:PSig},ofPs s (.pt i v o :: r)=none
 | []=>rfl
 | p :: s=>by simp only[ofPs,ZlB];rfl
theorem Zii {P:Program} {f:FuncId} {s:PSig} {run:PArgs s→M Ans} {els:Run} (he:EntOK P f els) (hd:∀a,Det (run a)) (h:∀a,Sat (run a) (CallOK P f (toPs s a))):EntOK P f (typedO s run els):=by
 refine ⟨he.1,fun xs=>⟨?_,?_⟩⟩
 ·unfold typedO
  split
  ·exact (he.2 xs).1
  ·exact hd _
 ·unfold typedO
  split
  ·exact (he.2 xs).2
  ·rename_i a ha
   refine (h a).mono fun r hr=>⟨?_,fun q e=>by rw[e,Zlh] at ha;cases ha⟩
   intro F w vals L hT hL hLF hlow htab
   exact hr.1 F w vals L (Ze9 ha hT) hL hLF hlow htab
def entO {α:Type} (s:PSig) (K:α→Ans) (ok:PArgs s→Bool) (v:PArgs s→α) (els:Run:=noRun):Run:=typedO s (fun a k=>bif ok a then k (K (v a)) else none) els
section
variable {P:Program} {t:Tbl} {tb:Tb} {f:FuncId} {fn:Func} {c:Code} {s:PSig} {α:Type} {K:α→Ans} {els:Run}
theorem ZcW (he:EntOK P f els) (ht:∀p∈t,EntOK P p.1 p.2) (hf:P.funcs[f]? =some fn) (hb:fn.body=some c)
  (hnd:∀a,nodupB ((procsF P (clOf t) tb fn c (toPs s a)).map (·.1))=true) {ok:PArgs s→Bool} {v:PArgs s→α}
  (h:∀a,ok a=true→∃n,evF P (clOf t) tb fn n (toPs s a)=some (K (v a))):EntOK P f (entO s K ok v els):=by
 obtain ⟨h1,h2⟩:=Zdc ht
 exact Zii he (fun a=>Det.guard (Det.pure _)) fun a=>Sat.guard fun hok=>Sat.pure (by
  obtain ⟨n,hn⟩:=h a hok
  exact Zew h1 h2 hf hb (hnd a) hn)
theorem Zh6 (he:EntOK P f els) {ok:PArgs s→Bool} {v:PArgs s→α} (h:∀a,ok a=true→CallOK P f (toPs s a) (K (v a))):EntOK P f (entO s K ok v els):=
 Zii he (fun a=>Det.guard (Det.pure _)) fun a=>Sat.guard fun hok=>Sat.pure (h a hok)
theorem ZeW (hf:P.funcs[f]? =some fn) (hname:(fn.name== "runtime.NumGoroutine")=false) (hb:fn.body=some c):Known P f:=⟨fn,c,hf,hname,hb⟩
end
end Go.Ev
end

section
namespace Go.Ev
variable [Tabs]
open Go
theorem Zfw {P:Program} {tb:Tb} {f:FuncId} {fn:Func} {c:Code} {args:List AV} {ans:Ans} (hf:P.funcs[f]? =some fn) (hb:fn.body=some c) {vs:List AV} {st:St} (hi:initA ⟨[],[]⟩ 0 args=some (vs,st))
  (h:∀ [Orgs] (Mod F0:Nat→Prop) (w0:World) (a:Act) (w:World),Rel Mod F0 w0 { st with tm:=vs++tops (fn.ntmps - vs.length) } a w→
   c.wp P (fun e a' w'=>(e=.normal∨e=.ret)∧∃st',Rel Mod F0 w0 st' a' w'∧finA P tb fn args st'=some ans) a w):CallOK P f args ans:=by
 refine ⟨?_,fun r e=>by
  subst e
  have:initA ⟨[],[]⟩ 0 (.pt 0 0 1 :: r)=none:=rfl
  rw[this] at hi
  cases hi⟩
 intro F w vals L hT hL hLF hlow htab
 letI:Orgs:=⟨fun j=>vals.getD j undef⟩
 have hvo:∀k v,vals[k]? =some v→v=Orgs.org (0+k):=fun k v hk=>by
  rw[Nat.zero_add]
  show v=vals.getD k undef
  rw[List.getD_eq_getElem?_getD,hk];rfl
 refine calls_of_wp hf hb ?_
 have hlen:=hT.length
 have hR0:R (ModC L w) F ρ0 w ⟨[],[]⟩ #[]:=⟨rfl,fun i x hx=>by simp at hx,fun id ver o hf=>by simp[find] at hf,fun id ver o b hf=>by simp[find] at hf,fun id ver E t l hf=>by simp[find] at hf,hlow,fun b hb=>.inr hb,htab⟩
 have hF0:Fr (ModC L w) F ρ0 w ⟨[],[]⟩ L:=⟨hL,fun b hb=>⟨(hLF b hb).1,.inl hb,(hLF b hb).2,fun ⟨id,ver,o,hf,_⟩=>by simp[find] at hf⟩⟩
 obtain ⟨ρ1,r1,a1,c1⟩:=ZeG args 0 ⟨[],[]⟩ ρ0 vs vals st L hi hR0 hT hF0 hvo
 have hvl:vs.length=vals.length:=a1.1
 have hrel:Rel (ModC L w) F w { st with tm:=vs++tops (fn.ntmps - vs.length) } { tmps:=vals.toArray++Array.replicate (fn.ntmps - vals.toArray.size) undef,defers:=[] } w:=by
  refine ⟨rfl,F,ρ1,⟨?_,fun i x hx=>?_,fun id ver o hf=>?_,r1.sep,r1.data,r1.low,r1.hi,r1.tabs⟩,Evo.refl _ _ _⟩
  ·simp[Zac,hvl]
  ·rw[List.getElem?_append] at hx
   split at hx
   ·rename_i hlt
    have hlt':i < vals.length:=by omega
    refine ⟨vals[i],by simp[Array.getElem?_append,hlt'],?_⟩
    exact ARep.of_ob (st:=st) (st':=⟨vs++tops (fn.ntmps - vs.length),st.ob⟩) rfl (a1.2 i x vals[i] hx (by simp[hlt']))
   ·rename_i hge
    have hlt:=(List.getElem?_eq_some_iff.1 hx).1
    obtain rfl:=ZeJ _ _ _ hx
    rw[Zac] at hlt
    refine ⟨undef,?_,.top _⟩
    have:¬i < vals.length:=by omega
    simp[Array.getElem?_append,this,Array.getElem?_replicate]
    omega
  ·exact ORep.mono (Keeps.refl _ _) (Ref.of_ob (st:=st) (st':=⟨vs++tops (fn.ntmps - vs.length),st.ob⟩) rfl) (fun _ _=>rfl) (r1.obs id ver o hf)
 refine wp_mono (h (ModC L w) F w _ w hrel) fun e a w' he=>?_
 obtain ⟨hen,st',⟨hd,F',ρ',hR,hE⟩,hk⟩:=he
 obtain ⟨F2,v,Lr,Lo,hE2,hlow2,h1,h2,h3,h4,h5⟩:=Zhv (L:=L) (w0:=w) hR (fun _ h=>h) hlen hvo hk
 have fin:a.defers=[]∧∃v,(results fn a.tmps).run P w'=.ok v w'∧CallPost F w L vals ans v w':=
  ⟨hd,v,h1,F2,Lr,Lo,hE.trans hE2,hlow2,h2,h3,(List.perm_append_comm.nodup_iff).1 h4,fun b hb=>h5 b (by simp only[List.mem_append] at hb ⊢;exact hb.symm)⟩
 cases e with
 | normal=>exact fin
 | ret=>exact fin
 | _=>simp at hen
section
variable [Orgs] {P:Program} {Mod F0:Nat→Prop} {w0:World} {cl:Cl} {st st1:St} {a:Act} {w:World} {Q:Exit→Act→World→Prop}
theorem Zb8 (cl:Cl):∀(c:Code) (i:Nat) (k:Lt→Kt) (x:Lt→Nat→Kt) (r:Lt→Kt),procs P cl [] c i k x r=[]
 |.seq a b,i,k,x,r=>by simp[procs,labOf,Zb8 cl a,Zb8 cl b]
 |.cond _ a b,i,k,x,r=>by simp[procs,Zb8 cl a,Zb8 cl b]
 |.block _ c,i,k,x,r=>by simp[procs,Zb8 cl c]
 |.loop c,i,k,x,r=>by simp[procs,labOf]
 |.skip,_,_,_,_=>rfl
 |.region _ _ _,_,_,_,_=>rfl
 |.exit _,_,_,_,_=>rfl
 |.ret,_,_,_,_=>rfl
 |.goto _,_,_,_,_=>rfl
 |.label _,_,_,_,_=>rfl
 |.scope _,_,_,_,_=>rfl
 |.rangeFunc _ _ _ _,_,_,_,_=>rfl
 |.refuse _,_,_,_,_=>rfl
open Classical in
theorem piece (hcl:Spec P cl) (hdet:DetC cl) {c:Code} (g:St→St) (hg:∀ {st a w},Rel Mod F0 w0 st a w→Rel Mod F0 w0 (g st) a w)
  (h:∀(L:Lt) (k:Kt) (x:Nat→Kt) (r:Kt),evC P cl [] L c 0 (fun s=>k (g s)) x r st=k st1) (hr:Rel Mod F0 w0 st a w) (hQ:∀a' w',Rel Mod F0 w0 st1 a' w'→Q .normal a' w'):c.wp P Q a w:=by
 have hs:=ZQ (Mod:=Mod) (F0:=F0) (w0:=w0) (ps:=[]) (tb:=[]) (y:=(AV.top,[])) hcl hdet c 0 (fun _ s=>if g s=st1 then some (AV.top,[]) else none) (fun _ _ _=>none) (fun _ _=>none)
  (by rw[Zb8];intro j p hj;simp at hj) 0 st a w (by
   have:=h (Ls [] 0) (fun s=>if s=st1 then some (AV.top,[]) else none) (fun _ _=>none) (fun _=>none)
   rw[if_pos rfl] at this
   exact this) hr
 refine wp_mono hs fun e a' w' he=>?_
 cases e with
 | normal=>
  obtain ⟨m,st',_,hr',hk⟩:=he
  simp only at hk
  split at hk
  ·rename_i e
   exact hQ a' w' (e▸hg hr')
  ·cases hk
 | exit j=>obtain ⟨m,st',_,_,hk⟩:=he;cases hk
 | ret=>obtain ⟨m,st',_,_,hk⟩:=he;cases hk
 | _=>exact he.elim
theorem handOp {ops:Array Oper} {i:Nat} {o:Oper} {rest:List Nat} (ho:ops[i]? =some o) (hg:o.guard=none) (h:o.wp P a w (wpOps P ops Q rest) Q):wpOps P ops Q (i :: rest) a w:=by
 rw[wpOps_cons]
 unfold wpOp
 simp only[ho]
 have hw:Region.wanted o (yielded ops a.tmps)=true:=by unfold Region.wanted;rw[hg]
 rw[if_pos hw]
 exact .inl h
open Classical in
theorem evOp (hcl:Spec P cl) {ops:Array Oper} {i:Nat} {o:Oper} {rest:List Nat} (ho:ops[i]? =some o) (hg:o.guard=none) (h:∀k,opA P cl o st k=k st1) (hr:Rel Mod F0 w0 st a w)
  (hQ:∀a' w',Rel Mod F0 w0 st1 a' w'→wpOps P ops Q rest a' w'):wpOps P ops Q (i :: rest) a w:=by
 refine handOp ho hg (Oper.wp_mono (fun a' w' he=>?_) (Zhc (y:=(AV.top,[])) (k:=fun s=>if s=st1 then some (AV.top,[]) else none) hcl (by rw[h,if_pos rfl]) hr Q))
 obtain ⟨st',hr',hk⟩:=he
 split at hk
 ·rename_i e
  exact hQ a' w' (e▸hr')
 ·cases hk
open Classical in
theorem evOps (hcl:Spec P cl) {ops:Array Oper} (l:List Oper) (i:Nat) (hl:ops.toList.drop i=l) (h:∀k,opsA P cl ops l st k=k st1) (hr:Rel Mod F0 w0 st a w)
  (hQ:∀a' w',Rel Mod F0 w0 st1 a' w'→Q .normal a' w'):wpOps P ops Q (List.range' i l.length) a w:=
 Zdt (y:=(AV.top,[])) (k:=fun s=>if s=st1 then some (AV.top,[]) else none) hcl (fun st' a' w' hr' hk=>by
  split at hk
  ·rename_i e
   exact hQ a' w' (e▸hr')
  ·cases hk) l i st a w hl (by rw[h,if_pos rfl]) hr
end
theorem ORep.orgs {O1 O2:Orgs} {F:Nat→Prop} {ρ:Rho} {w:World} {st:St} {v:Value} {o:Obj} (ht:∀j,o.tag=some j→O1.org j=O2.org j) (h: @ORep O1 F ρ w st v o): @ORep O2 F ρ w st v o:=by
 cases o with
 | box T cs tg=>exact ⟨fun j e=>(h.1 j e).trans (ht j e),h.2⟩
 | gone tg=>exact fun j e=>(h j e).trans (ht j e)
 | row E t l lk=>exact h
 | map kt vt l=>exact h
 | sit s p=>exact h
theorem R.orgs {O1 O2:Orgs} {Mod F:Nat→Prop} {ρ:Rho} {w:World} {st:St} {tm:Array Value} (h: @R O1 _ Mod F ρ w st tm) (ht:∀id ver o j,find id st.ob=some (ver,o)→o.tag=some j→O1.org j=O2.org j): @R O2 _ Mod F ρ w st tm:=by
 cases h with
 | mk h1 h2 h3 h4 h5 h6 h7 h8=>exact @R.mk O2 _ Mod F ρ w st tm h1 h2 (fun id ver o hf=>ORep.orgs (ht id ver o · hf) (h3 id ver o hf)) h4 h5 h6 h7 h8
theorem R.mod [Orgs] {Mod Mod' F:Nat→Prop} {ρ:Rho} {w:World} {st:St} {tm:Array Value} (h:R Mod F ρ w st tm) (hi:∀b,w.heap.size≤b→Mod' b)
  (hm:∀id ver o b,find id st.ob=some (ver,o)→o.free=true→hb (ρ id)=some b→Mod b→Mod' b):R Mod' F ρ w st tm:=
 ⟨h.size,h.tms,h.obs,fun id ver o b h1 h2 h3=>let ⟨k1,k2,k3,k4⟩:=h.sep id ver o b h1 h2 h3;⟨k1,hm id ver o b h1 h2 h3 k2,k3,k4⟩,h.data,h.low,hi,h.tabs⟩
theorem Evo.mod {Mod Mod' F F':Nat→Prop} {w w':World} (h:Evo Mod' F w F' w') (hm:∀b,Mod' b→Mod b):Evo Mod F w F' w':=
 ⟨h.os,h.tape,h.output,h.size,h.more,fun b hb=>(h.new b hb).imp id (hm b),fun b hlt hF=>h.same b hlt (hF.imp id fun hn hm'=>hn (hm b hm'))⟩
end Go.Ev
end

section
namespace Go.Ev
variable [Tabs]
open Go
theorem Zj0 {es:Array MapEntry} (hn:(es.toList.map (·.born)).Nodup) {seen:Array Nat} {e:MapEntry} (he:e∈(leftOf es seen).toList):
  ∃A B,(leftOf es seen).toList=A++e :: B∧(leftOf es (seen.push e.born)).toList=A++B:=by
 obtain ⟨A,B,hAB⟩:=List.append_of_mem he
 refine ⟨A,B,hAB,?_⟩
 have h1:(leftOf es (seen.push e.born)).toList=(leftOf es seen).toList.filter fun x=>x.born !=e.born:=by
  unfold leftOf
  simp only[Array.toList_filter,List.filter_filter]
  congr 1
  funext x
  simp only[Array.contains_push]
  cases h:seen.contains x.born <;> cases h':(x.born==e.born) <;> simp_all
 have hnl:((leftOf es seen).toList.map (·.born)).Nodup:=by
  unfold leftOf
  simp only[Array.toList_filter]
  exact hn.sublist (List.filter_sublist.map _)
 rw[h1,hAB]
 rw[hAB,List.map_append,List.map_cons,List.nodup_append] at hnl
 obtain ⟨_,n2,n3⟩:=hnl
 rw[List.nodup_cons] at n2
 rw[List.filter_append,List.filter_cons]
 have hA:A.filter (fun x=>x.born !=e.born)=A:=List.filter_eq_self.2 fun x hx=>by
  have:=n3 x.born (List.mem_map.2 ⟨x,hx,rfl⟩) e.born (by simp)
  simpa using this
 have hB:B.filter (fun x=>x.born !=e.born)=B:=List.filter_eq_self.2 fun x hx=>by
  have:x.born≠e.born:=fun eq=>n2.1 (List.mem_map.2 ⟨x,hx,eq⟩)
  simpa using this
 rw[hA,hB]
 simp
structure RangeText where
 s1:Nat
 s2:Nat
 b0:Nat
 b1:Nat
 ops1:Array Oper
 ops2:Array Oper
 cr:Code
 tit:Nat
 tn:Nat
 tok:Nat
 td:Nat
 on:Oper
 en:Oper
@[reducible] def RangeText.code (X:RangeText):Code:=.block X.b0 (.loop (.seq (.region X.s1 X.ops1 false) (.seq (.cond (.tmp X.tok) .skip (.exit X.b0)) (.block X.b1 (.seq (.region X.s2 X.ops2 false) X.cr)))))
structure RangeText.OK (X:RangeText):Prop where
 n1:X.ops1.size=2
 g1:X.ops1[0]? =some X.on
 op1:X.on.op=.next (.tmp X.tit) false
 d1:X.on.dst=some X.tn
 gd1:X.on.guard=none
 g2:X.ops2[0]? =some X.en
 op2:X.en.op=.entry (.tmp X.tit)
 d2:X.en.dst=some X.td
 gd2:X.en.guard=none
structure RangeEv (P:Program) (cl:Cl) (X:RangeText) {kt vt:Ty} (l:List (El kt×El vt)) (lab:Lab) (idm J:Nat) (stI stE:Value→List (El kt×El vt)→St) (stT stU:Value→List (El kt×El vt)→El kt×El vt→St):Prop where
 it:∀v done,(stI v done).ev (.tmp X.tit)=.cst v
 r1:∀v done e k,opsA P cl X.ops1 (X.ops1.toList.drop 1) ((stI v done).put (some X.tn) (.tu [mkB true,.d kt e.1,.d vt e.2])) k=k (stT v done e)
 rt:∀v done e,(stT v done e).ev (.tmp X.tok)=.d .bool true
 re:∀v done e,(stT v done e).ev (.tmp X.tit)=.cst v
 r2:∀v done e k,opsA P cl X.ops2 (X.ops2.toList.drop 1) ((stT v done e).put (some X.td) (.tu [.d kt e.1,.d vt e.2])) k=k (stU v done e)
 r3:∀v done e rest,(done++e :: rest).Perm l→∀(L:Lt) (k:Kt) (x:Nat→Kt) (r:Kt),evC P cl [] L X.cr 0 (fun s=>k (norm P lab s)) x r (stU v done e)=k (stI v (done++[e]))
 f1:∀v done k,opsA P cl X.ops1 (X.ops1.toList.drop 1) ((stI v done).put (some X.tn) (.tu [mkB false])) k=k (stE v done)
 ft:∀v done,(stE v done).ev (.tmp X.tok)=.d .bool false
section
variable [Orgs] {P:Program} {Mod F0:Nat→Prop} {w0:World} {cl:Cl} {Q:Exit→Act→World→Prop}
theorem ZcV {st:St} {F:Nat→Prop} {ρ:Rho} {w:World} {a:Act} (hR:R Mod F ρ w st a.tmps) {x:Operand} {y:AV} (h:st.ev x=y):ARep F ρ w st y (a.eval x):=h▸Zg hR x
def leftN (es:Array MapEntry) (r:Nat) (w:World):Nat:=match w.heap[r]? with
 | some (.mapIter _ _ seen _)=>(leftOf es seen).size
 | _=>0
theorem ZjJ (hcl:Spec P cl) (hdet:DetC cl) {X:RangeText} (hX:X.OK) {kt vt:Ty} (hlk:leafTy kt=true) (hlv:leafTy vt=true) {l l0:List (El kt×El vt)} {lab:Lab} {idm J:Nat}
  {stI stE:Value→List (El kt×El vt)→St} {stT stU:Value→List (El kt×El vt)→El kt×El vt→St} (hE:RangeEv P cl X l lab idm J stI stE stT stU)
  {m r clock:Nat} {es:Array MapEntry} (hst:Stamps es clock) (hes:es.toList.map (fun e=>(e.key,e.val))=l0.map (fun x=>(leafV kt x.1,leafV vt x.2))) (hp0:l0.Perm l)
  (hMr:Mod r) (hmr:m≠r)
  {a:Act} {w:World} (hd:a.defers=[]) {F:Nat→Prop} {ρ:Rho} (hR:R (fun b=>Mod b∧b≠r∧b≠m) F ρ w (stI (.pointer (some ⟨r,0,none⟩)) []) a.tmps) (hEv:Evo Mod F0 w0 F w)
  (hm:w.heap[m]? =some (.map es clock)) (hr:w.heap[r]? =some (.mapIter (some m) clock #[] clock)) (hFm:¬F m) (hFr:¬F r)
  (hQ:∀done a' w' F' ρ',done.Perm l→R (fun b=>Mod b∧b≠r∧b≠m) F' ρ' w' (stE (.pointer (some ⟨r,0,none⟩)) done) a'.tmps→a'.defers=[]→Evo Mod F0 w0 F' w'→w'.heap[m]? =some (.map es clock)→¬F' m→Q .normal a' w'):
  X.code.wp P Q a w:=by
 let it:Value:=.pointer (some ⟨r,0,none⟩)
 let M':Nat→Prop:=fun b=>Mod b∧b≠r∧b≠m
 let I:Act→World→Prop:=fun a w=>a.defers=[]∧∃F ρ done rest seen c0,R M' F ρ w (stI it done) a.tmps∧Evo Mod F0 w0 F w∧w.heap[m]? =some (.map es clock)∧w.heap[r]? =some (.mapIter (some m) clock seen c0)∧clock≤c0∧¬F m∧¬F r∧
  (done++rest).Perm l∧(leftOf es seen).toList.map (fun e=>(e.key,e.val))=rest.map (fun x=>(leafV kt x.1,leafV vt x.2))
 have h0:I a w:=by
  refine ⟨hd,F,ρ,[],l0, #[],clock,hR,hEv,hm,hr,Nat.le_refl _,hFm,hFr,hp0,?_⟩
  rw[←hes,show (leftOf es #[]).toList=es.toList by unfold leftOf;simp only[Array.toList_filter];exact List.filter_eq_self.2 (fun x _=>by simp)]
 unfold RangeText.code
 refine wp_block (wp_loop I (fun _ w=>leftN es r w) h0 fun a w hI=>?_)
 obtain ⟨hd,F,ρ,done,rest,seen,c0,hR,hEv,hm,hr,hc0,hFm,hFr,hperm,hleft⟩:=hI
 have hrl:r < w.heap.size:=(Array.getElem?_eq_some_iff.1 hr).1
 have hml:m < w.heap.size:=(Array.getElem?_eq_some_iff.1 hm).1
 refine wp_seq (wp_region ?_)
 rw[hX.n1,show List.range 2=0 :: List.range' 1 1 from rfl]
 have hlen1:(X.ops1.toList.drop 1).length=1:=by simp[hX.n1]
 have hr11:List.range' 1 1=List.range' 1 (X.ops1.toList.drop 1).length:=by rw[hlen1]
 refine handOp hX.g1 hX.gd1 ?_
 have hit:a.eval (.tmp X.tit)=it:=Zf4 (ZcV hR (hE.it it done))
 have hold:∀x∈es.toList,x.born < clock:=fun x hx=>hst.1 x.born (List.mem_map.2 ⟨x,hx,rfl⟩)
 unfold Oper.wp
 rcases run_next_at (P:=P) w X.on.type r m clock c0 seen es clock hr hm hold hc0 with ⟨hz,hrun⟩ | ⟨e,he,w1,hw1,hrun⟩
 ·-- nothing is left
  have hx:(execOp a.eval X.on).run P w=.ok (.value (.tuple #[.bool false])) w:=by
   simp only[execOp,hX.op1,hit]
   simp[it,hrun]
  rw[hx]
  show wpOps P X.ops1 _ (List.range' 1 1) (a.put X.on.dst _) w
  rw[hX.d1,hr11]
  have hR1:R M' F ρ w ((stI it done).put (some X.tn) (.tu [mkB false])) (a.put (some X.tn) (.tuple #[.bool false])).tmps:=
   R.put (a:=a) hR (.tu _ _ (by simp) fun i c v h1 h2=>by
    match i with
    | 0=>simp at h1 h2;subst h1;subst h2;exact Zau _
    | n+1=>simp at h1) (some X.tn)
  refine evOps (Mod:=M') (F0:=F) (w0:=w) (st1:=stE it done) hcl _ 1 rfl (hE.f1 it done) ⟨by rw[Zq];exact hd,F,ρ,hR1,Evo.refl _ _ _⟩ fun a' w' hr'=>?_
  obtain ⟨hd',F',ρ',hR',hE'⟩:=hr'
  have hok:a'.eval (.tmp X.tok)=.bool false:=Zat (ZcV hR' (hE.ft it done))
  refine wp_seq (wp_cond_false hok (wp_exit ?_))
  show Exit.inBlock X.b0 Q (.exit X.b0) a' w'
  simp only[Exit.inBlock,if_true]
  have hrest:rest=[]:=by
   have h1:(leftOf es seen).toList.length=0:=by simpa using hz
   have h2:=congrArg List.length hleft
   simp only[List.length_map] at h2
   exact List.eq_nil_of_length_eq_zero (by omega)
  subst hrest
  rw[List.append_nil] at hperm
  refine hQ done a' w' F' ρ' hperm hR' hd' (hEv.trans (hE'.mod fun b hb=>hb.1)) ?_ ?_
  ·rw[hE'.same m hml (.inr fun h=>h.2.2 rfl)];exact hm
  ·exact fun h=>(hE'.new m h).elim hFm fun h=>h.2.2 rfl
 ·-- one entry comes out
  have hx:(execOp a.eval X.on).run P w=.ok (.value (.tuple #[.bool true,e.key,e.val])) (ChangeMaps.setBlock w1 r (.mapIter (some m) clock (seen.push e.born) clock)):=by
   simp only[execOp,hX.op1,hit]
   simp[it,hrun]
  rw[hx]
  generalize hw2:ChangeMaps.setBlock w1 r (.mapIter (some m) clock (seen.push e.born) clock)=w2
  have w2heap:∀b,b≠r→w2.heap[b]? =w.heap[b]?:=fun b hb=>by
   subst hw2
   rcases hw1 with h | h
   ·rw[h];exact Array.getElem?_setIfInBounds_ne (Ne.symm hb)
   ·rw[h];exact Array.getElem?_setIfInBounds_ne (Ne.symm hb)
  have w2r:w2.heap[r]? =some (.mapIter (some m) clock (seen.push e.born) clock):=by
   subst hw2
   rcases hw1 with h | h
   ·rw[h];exact Array.getElem?_setIfInBounds_self_of_lt hrl
   ·rw[h];exact Array.getElem?_setIfInBounds_self_of_lt (show r < w.heap.size from hrl)
  have w2size:w2.heap.size=w.heap.size:=by
   subst hw2
   rcases hw1 with h | h
   ·rw[h];exact Array.size_setIfInBounds
   ·rw[h];exact Array.size_setIfInBounds (xs:=w.heap)
  have w2os:w2.os=w.os∧w2.tape=w.tape∧w2.output=w.output:=by
   subst hw2
   rcases hw1 with h | h <;> rw[h] <;> exact ⟨rfl,rfl,rfl⟩
  show wpOps P X.ops1 _ (List.range' 1 1) (a.put X.on.dst _) w2
  rw[hX.d1,hr11]
  obtain ⟨A,B,hA,hB⟩:=Zj0 hst.2 he
  obtain ⟨A',B',e',hrest,hA',he',hB'⟩:∃A' B' e',rest=A'++e' :: B'∧A.map (fun e=>(e.key,e.val))=A'.map (fun x=>(leafV kt x.1,leafV vt x.2))∧(e.key,e.val)=(leafV kt e'.1,leafV vt e'.2)∧B.map (fun e=>(e.key,e.val))=B'.map (fun x=>(leafV kt x.1,leafV vt x.2)):=by
   rw[hA,List.map_append,List.map_cons] at hleft
   obtain ⟨A',R',e1,e2,e3⟩:=List.map_eq_append_iff.1 hleft.symm
   obtain ⟨e',B',e4,e5,e6⟩:=List.map_eq_cons_iff.1 e3
   exact ⟨A',B',e',by rw[e1,e4],e2.symm,e5.symm,e6.symm⟩
  simp only[Prod.mk.injEq] at he'
  obtain ⟨hk1,hv1⟩:=he'
  have hperm2:(done++e' :: (A'++B')).Perm l:=by
   refine List.Perm.trans ?_ hperm
   rw[hrest]
   exact (List.perm_middle.symm).append_left done
  have hR2:R M' F ρ w2 (stI it done) a.tmps∧Evo Mod F w F w2:=by
   have hRa:R (fun b=>Mod b∧b≠m) F ρ w (stI it done) a.tmps:=hR.mod (fun b hb=>⟨(hR.hi b hb).1,by omega⟩) fun id ver o b h1 h2 h3 h4=>⟨h4.1,h4.2.2⟩
   have hw:Evo (fun b=>b=r) F w F w2:=⟨w2os.1,w2os.2.1,w2os.2.2,by omega,fun _ h=>h,fun _ h=>.inl h,fun b _ hb=>w2heap b (hb.elim (fun h e=>hFr (e▸h)) id)⟩
   obtain ⟨h1,h2⟩:=hRa.world hw (fun b hb=>by subst hb;exact ⟨hMr,fun e=>hmr e.symm⟩) (fun b ⟨id,ver,o,k1,k2,k3⟩ hb=>by subst hb;exact (hR.sep id ver o b k1 k2 k3).2.1.2.1 rfl) (fun b hb=>by rw[w2size];exact hR.low b hb)
   refine ⟨h1.mod (fun b hb=>⟨(hR.hi b (by omega)).1,by omega,by omega⟩) fun id ver o b k1 k2 k3 k4=>(hR.sep id ver o b k1 k2 k3).2.1,h2.mod fun b hb=>hb.1⟩
  obtain ⟨hR2,hE2⟩:=hR2
  have hR3:R M' F ρ w2 ((stI it done).put (some X.tn) (.tu [mkB true,.d kt e'.1,.d vt e'.2])) (a.put (some X.tn) (.tuple #[.bool true,e.key,e.val])).tmps:=
   R.put (a:=a) hR2 (.tu _ _ (by simp) fun i c v h1 h2=>by
    match i with
    | 0=>simp at h1 h2;subst h1;subst h2;exact Zau _
    | 1=>simp at h1 h2;subst h1;subst h2;rw[hk1];exact ZdF hlk _
    | 2=>simp at h1 h2;subst h1;subst h2;rw[hv1];exact ZdF hlv _
    | n+3=>simp at h1) (some X.tn)
  refine evOps (Mod:=M') (F0:=F) (w0:=w2) (st1:=stT it done e') hcl _ 1 rfl (hE.r1 it done e') ⟨by rw[Zq];exact hd,F,ρ,hR3,Evo.refl _ _ _⟩ fun a3 w3 hr3=>?_
  have hkeep:∀ {F3:Nat→Prop} {w3:World},Evo M' F w2 F3 w3→w3.heap[m]? =some (.map es clock)∧w3.heap[r]? =some (.mapIter (some m) clock (seen.push e.born) clock):=fun h=>
   ⟨by rw[h.same m (by omega) (.inr fun h=>h.2.2 rfl),w2heap m hmr];exact hm,by rw[h.same r (by omega) (.inr fun h=>h.2.1 rfl)];exact w2r⟩
  obtain ⟨hd3,F3,ρ3,hR3,hE3⟩:=hr3
  have hok:a3.eval (.tmp X.tok)=.bool true:=Zat (ZcV hR3 (hE.rt it done e'))
  have hit3:a3.eval (.tmp X.tit)=it:=Zf4 (ZcV hR3 (hE.re it done e'))
  refine wp_seq (wp_cond_true hok (wp_skip ?_))
  refine wp_block (wp_seq (wp_region ?_))
  have hsz2:0 < X.ops2.size:=(Array.getElem?_eq_some_iff.1 hX.g2).1
  have hlen2:(X.ops2.toList.drop 1).length=X.ops2.size - 1:=by simp
  rw[show List.range X.ops2.size=0 :: List.range' 1 (X.ops2.toList.drop 1).length from by
   rw[hlen2,List.range_eq_range']
   obtain ⟨n,hn⟩:∃n,X.ops2.size=n+1:=⟨X.ops2.size - 1,by omega⟩
   rw[hn,List.range'_succ];rfl]
  refine handOp hX.g2 hX.gd2 ?_
  unfold Oper.wp
  obtain ⟨hm3,hr3'⟩:=hkeep hE3
  have hx3:(execOp a3.eval X.en).run P w3=.ok (.value (.tuple #[e.key,e.val])) w3:=by
   simp only[execOp,hX.op2,hit3]
   simp[it,run_entry_at (P:=P) w3 r m clock seen es clock e hr3' hm3 (mem_left he).1 hst.2]
  rw[hx3]
  show wpOps P X.ops2 _ _ (a3.put X.en.dst _) w3
  rw[hX.d2]
  have hR4:R M' F3 ρ3 w3 ((stT it done e').put (some X.td) (.tu [.d kt e'.1,.d vt e'.2])) (a3.put (some X.td) (.tuple #[e.key,e.val])).tmps:=
   R.put (a:=a3) hR3 (.tu _ _ (by simp) fun i c v h1 h2=>by
    match i with
    | 0=>simp at h1 h2;subst h1;subst h2;rw[hk1];exact ZdF hlk _
    | 1=>simp at h1 h2;subst h1;subst h2;rw[hv1];exact ZdF hlv _
    | n+2=>simp at h1) (some X.td)
  refine evOps (Mod:=M') (F0:=F) (w0:=w2) (st1:=stU it done e') hcl _ 1 rfl (hE.r2 it done e') ⟨by rw[Zq];exact hd3,F3,ρ3,hR4,hE3⟩ fun a4 w4 hr4=>?_
  refine piece (Mod:=M') (F0:=F) (w0:=w2) (st1:=stI it (done++[e'])) hcl hdet (norm P lab) (fun h=>ZbB h) (hE.r3 it done e' (A'++B') hperm2) hr4 fun a5 w5 hr5=>?_
  obtain ⟨hd5,F5,ρ5,hR5,hE5⟩:=hr5
  obtain ⟨hm5,hr5'⟩:=hkeep hE5
  refine ⟨⟨hd5,F5,ρ5,done++[e'],A'++B',seen.push e.born,clock,hR5,(hEv.trans hE2).trans (hE5.mod fun b hb=>hb.1),hm5,hr5',Nat.le_refl _,fun h=>(hE5.new m h).elim hFm fun h=>h.2.2 rfl,fun h=>(hE5.new r h).elim hFr fun h=>h.2.1 rfl,by simpa using hperm2,by rw[hB,List.map_append,List.map_append,hA',hB']⟩,?_⟩
  unfold leftN
  rw[hr5',hr]
  simp only
  have e1:(leftOf es seen).size=A.length+(B.length+1):=by rw[←Array.length_toList,hA];simp
  have e2:(leftOf es (seen.push e.born)).size=A.length+B.length:=by rw[←Array.length_toList,hB];simp
  omega
end
theorem Zhh {f:Id×Nat×Obj→Bool} :∀ {l:List (Id×Nat×Obj)},l.all f=true→∀ {id:Id} {p:Nat×Obj},find id l=some p→f (id,p)=true
 | [],_,id,p,h=>by cases h
 | (x,q) :: r,ha,id,p,h=>by
  simp only[List.all_cons,Bool.and_eq_true] at ha
  simp only[find] at h
  cases hb:Nat.beq x id with
  | true=>
   rw[hb] at h
   have:=Nat.eq_of_beq_eq_true hb
   subst this
   cases h
   exact ha.1
  | false=>rw[hb] at h;exact Zhh ha.2 h
@[reducible] def Orgs.at (O:Orgs) (J:Nat) (v:Value):Orgs:=⟨fun j=>if j=J then v else O.org j⟩
theorem goneR [Orgs] {Mod F:Nat→Prop} {ρ:Rho} {w:World} {st:St} {tm:Array Value} {id0 ver0 J m r:Nat} {o:Obj} (hR:R Mod F ρ w st tm) (hf0:find id0 st.ob=some (ver0,o)) (hρ:ρ id0=.map (some m)) (hofr:o.free=true)
  (hJ:Orgs.org J=.map (some m)) (hr:r < w.heap.size) (hrb:∀id ver o b,find id st.ob=some (ver,o)→o.free=true→hb (ρ id)=some b→b≠r):
  R (fun b=>Mod b∧b≠r∧b≠m) F ρ w (st.setOb id0 ver0 (.gone (some J))) tm:=by
 obtain ⟨s1,s2,s3,s4⟩:=hR.sep id0 ver0 _ m hf0 hofr (by rw[hρ];rfl)
 have h3:R Mod F ρ w (st.setOb id0 ver0 (.gone (some J))) tm:=by
  have:=(R.set' hR (id:=id0) (ver':=ver0) (o':=.gone (some J)) (h':=ρ id0) (w':=w) rfl rfl rfl (Nat.le_refl _) (.inl ⟨_,hf0,rfl,o.sim_gone _⟩) (fun _ _ _=>rfl) (fun e=>by cases e) (fun _ _ _ e=>by cases e) (fun j e=>by
   cases e
   rw[hρ,hJ])).1
  rwa[ZcG] at this
 refine h3.mod (fun b hb=>⟨h3.hi b hb,by omega,by omega⟩) fun id ver o b k1 k2 k3 k4=>?_
 rw[Zl] at k1
 split at k1
 ·cases k1;cases k2
 ·rename_i hne
  obtain ⟨_,_,t3,t4⟩:=hR.sep id ver o b k1 k2 k3
  refine ⟨k4,hrb id ver o b k1 k2 k3,fun e=>hne ?_⟩
  subst e
  exact (t4 id0 ver0 _ hf0 hofr (by rw[hρ];rfl)).symm
theorem backR [Orgs] {Mod F:Nat→Prop} {ρ:Rho} {w:World} {st:St} {tm:Array Value} {id0 J m r:Nat} {kt vt:Ty} {l:List (El kt×El vt)} (hR:R (fun b=>Mod b∧b≠r∧b≠m) F ρ w st tm) (hf0:find id0 st.ob=some (0,.gone (some J)))
  (hJ:Orgs.org J=.map (some m)) (hF:¬F m) (hMod:Mod m) (hm:m < w.heap.size) (hrep:MapRep w kt vt l (.map (some m))):R Mod F ρ w (st.setOb id0 0 (.map kt vt l)) tm:=by
 have hρ:ρ id0=.map (some m):=(hR.obs id0 0 _ hf0 J rfl).trans hJ
 have h1:R Mod F ρ w st tm:=hR.mod (fun b hb=>(hR.hi b hb).1) fun id ver o b k1 k2 k3 k4=>k4.1
 have:=(R.set' h1 (id:=id0) (ver':=0) (o':=.map kt vt l) (h':=ρ id0) (w':=w) rfl rfl rfl (Nat.le_refl _) (.inl ⟨_,hf0,rfl,trivial⟩) (fun _ _ _=>rfl) (fun _ b hb=>by
    rw[hρ] at hb
    cases hb
    exact ⟨hF,hMod,hm,fun i v o hi k1 k2 k3=>(hR.sep i v o m k1 k2 k3).2.1.2.2 rfl⟩) (fun _ _ _ e=>by cases e) (by rw[hρ];exact hrep)).1
 rwa[ZcG] at this
theorem startR [Orgs] {P:Program} {Mod F:Nat→Prop} {ρ:Rho} {w:World} {st:St} {a:Act} {lab:Lab} {v:Value} (hR:R Mod F ρ w st a.tmps) (d:Nat):∃ρ',R Mod F ρ' w (norm P lab (st.put (some d) (.cst v))) (a.put (some d) v).tmps:=
 Zg7 (R.put (a:=a) hR (.cst v) (some d))
theorem rangeLoop [O:Orgs] {P:Program} {Mod F0:Nat→Prop} {w0:World} {cl:Cl} {Q Q2:Exit→Act→World→Prop} (hcl:Spec P cl) (hdet:DetC cl) {X:RangeText} (hX:X.OK) {kt vt:Ty} (hlk:leafTy kt=true) (hlv:leafTy vt=true)
  {l:List (El kt×El vt)} {lab:Lab} {idm J:Nat} {stI stE:Value→List (El kt×El vt)→St} {stT stU:Value→List (El kt×El vt)→El kt×El vt→St} (hE:RangeEv P cl X l lab idm J stI stE stT stU)
  {st0:St} {orng:Oper} {T K V:TypeId} {tm idm0 ver0:Nat} (hop:orng.op=.range T (.tmp tm)) (hdst:orng.dst=some X.tit) (hT:P.underlying T=some (.map K V))
  (hev:st0.ev (.tmp tm)=.mp idm0 ver0) (hob:st0.obj idm0 ver0=some (.map kt vt l)) (hJ0:(st0.ob.all fun p=>p.2.2.tag !=some J)=true)
  (hI0:∀v,norm P lab ((st0.setOb idm0 ver0 (.gone (some J))).put (some X.tit) (.cst v))=stI v [])
  (hJ1:∀v done,find idm (stE v done).ob=some (0,.gone (some J))) (hJ2:∀v done,((stE v done).ob.all fun p=>Nat.beq p.1 idm || p.2.2.tag !=some J)=true)
  {a:Act} {w:World} (hr:Rel Mod F0 w0 st0 a w)
  (hQ:∀v done a' w',done.Perm l→Rel Mod F0 w0 ((stE v done).setOb idm 0 (.map kt vt l)) a' w'→Q .normal a' w'):
  orng.wp P a w (fun a' w'=>X.code.wp P Q a' w') Q2:=by
 obtain ⟨hd,F,ρ,hR,hEv⟩:=hr
 obtain ⟨m,es,clock,e1,e2,hm,l0,hp0,hnd,hes,hst⟩:=Ze5 hR hev hob
 have hf0:=Zm.1 hob
 obtain ⟨s1,s2,s3,s4⟩:=hR.sep idm0 ver0 _ m hf0 rfl (by rw[e2];rfl)
 have hx:(execOp a.eval orng).run P w=.ok (.value (.pointer (some ⟨w.heap.size,0,none⟩))) (w.alloc (.mapIter (some m) clock #[] clock)):=by
  simp only[execOp,hop,e1,Instr.range,Sem.run_bind,run_underlying hT,Result.andThen_ok]
  simp only[getObj,Sem.run,hm,Sem.run_bind,Result.andThen_ok,Sem.run_pure]
  simp
 unfold Oper.wp
 rw[hx]
 show X.code.wp P Q (a.put orng.dst _) _
 rw[hdst]
 generalize hr':w.heap.size=r
 generalize hw1:w.alloc (.mapIter (some m) clock #[] clock)=w1
 have h1sz:w1.heap.size=w.heap.size+1:=by rw[←hw1];simp
 have h1lt:∀b,b < w.heap.size→w1.heap[b]? =w.heap[b]?:=fun b hb=>by rw[←hw1];exact Zba w _ hb
 have h1r:w1.heap[r]? =some (.mapIter (some m) clock #[] clock):=by rw[←hw1,←hr'];exact Zax _ _
 have hw:Evo (fun b=>w.heap.size≤b) F w F w1:=⟨by rw[←hw1];rfl,by rw[←hw1];rfl,by rw[←hw1];rfl,by omega,fun _ h=>h,fun _ h=>.inl h,fun b hb _=>h1lt b hb⟩
 obtain ⟨hR1,hE1⟩:=hR.world hw hR.hi (fun b ⟨id,ver,o,k1,k2,k3⟩ hb=>by have:=(hR.sep id ver o b k1 k2 k3).2.2.1;omega) (fun b hb=>by have:=hR.low b hb;omega)
 have tagO:∀id ver o j,find id st0.ob=some (ver,o)→o.tag=some j→O.org j=(O.at J (.map (some m))).org j:=fun id ver o j hf ht=>by
  have:=Zhh hJ0 hf
  simp only[bne_iff_ne,ne_eq] at this
  show O.org j=if j=J then _ else _
  rw[if_neg (fun e=>this (by rw[ht,e]))]
 have hR2: @R (O.at J (.map (some m))) _ Mod F ρ w1 st0 a.tmps:=R.orgs hR1 tagO
 have hJm:(O.at J (.map (some m))).org J=.map (some m):=if_pos rfl
 have hR4:= @goneR _ (O.at J (.map (some m))) Mod F ρ w1 st0 a.tmps idm0 ver0 J m r _ hR2 hf0 e2 rfl hJm (by omega) (fun id ver o b k1 k2 k3=>by have:=(hR.sep id ver o b k1 k2 k3).2.2.1;omega)
 obtain ⟨ρ5,hR5⟩:= @startR _ (O.at J (.map (some m))) P _ _ _ _ _ a lab (.pointer (some ⟨r,0,none⟩)) hR4 X.tit
 rw[hI0] at hR5
 refine @ZjJ _ (O.at J (.map (some m))) P Mod F0 w0 cl Q hcl hdet X hX kt vt hlk hlv l l0 lab idm J stI stE stT stU hE m r clock es hst hes hp0 (hR.hi r (by omega)) (by omega) _ w1 (by rw[Zq];exact hd) F ρ5 hR5 (hEv.trans hE1) (by rw[h1lt m s3];exact hm) h1r s1 (fun h=>by have:=hR.low r h;omega) ?_
 intro done a' w' F' ρ' hp hRe hd' hEe hm' hFm'
 refine hQ (.pointer (some ⟨r,0,none⟩)) done a' w' hp ⟨hd',F',ρ',?_,hEe⟩
 have hR6:= @backR _ (O.at J (.map (some m))) Mod F' ρ' w' _ a'.tmps idm J m r kt vt l hRe (hJ1 _ done) hJm hFm' s2 ((Array.getElem?_eq_some_iff.1 hm').1) ⟨m,es,clock,rfl,hm',hlk,hlv,l0,hp0,hnd,hes,hst⟩
 refine R.orgs hR6 fun id ver o j hf ht=>?_
 rw[Zl] at hf
 split at hf
 ·cases hf;cases ht
 ·rename_i hne
  have:=Zhh (hJ2 (.pointer (some ⟨r,0,none⟩)) done) hf
  simp only[Bool.or_eq_true,bne_iff_ne,ne_eq] at this
  rcases this with h | h
  ·exact absurd (Nat.eq_of_beq_eq_true h) hne
  ·show (if j=J then _ else O.org j)=O.org j
   rw[if_neg (fun e=>h (by rw[ht,e]))]
end Go.Ev
end

section
namespace Go.Ev
variable [Tabs]
open Go
def SortOK (P:Program) (f:FuncId):Prop:=
 (∀(blk off cap:Nat) (zs:List Int) (w:World),Go.Sort.Holds (Value.int .i64) w blk off zs.toArray→blk < w.heap.size→zs.length < 4611686018427387904→
  Calls P f #[.slice (some ⟨blk,off,none⟩) zs.length cap] w fun e w'=>e=.returned (.tuple #[])∧∃n os,w'=Go.Sort.grow (Go.Sort.putRow (Value.int .i64) (Go.Sort.ahead w n) blk off (zs.mergeSort fun x y=>decide (x≤y)).toArray) os)∧
 ∀(p:Option Addr) (cap:Nat) (w:World),Calls P f #[.slice p 0 cap] w fun e w'=>e=.returned (.tuple #[])∧w'=w
@[reducible] def sorted (l:List Int):List Int:=l.mergeSort fun x y=>decide (x≤y)
theorem ZkP {w:World} {g off:Nat} {cur:Array Value} {e:TypeId} {ss:List Int} (hb:w.heap[g]? =some (.cells cur e (0,0))) (ht:(cur.toList.drop off).take ss.length=ss.map (Value.int .i64)):Go.Sort.Holds (Value.int .i64) w g off ss.toArray:=by
 intro j hj
 have hj':j < ss.length:=by simpa using hj
 refine ⟨?_,by simp[World.frozen?,hb]⟩
 have h1:((cur.toList.drop off).take ss.length)[j]? =(ss.map (Value.int .i64))[j]?:=by rw[ht]
 rw[List.getElem?_take_of_lt hj',List.getElem?_drop] at h1
 simp only[World.cell?,hb]
 simp only[Option.isSome_none,Bool.false_eq_true,if_false]
 rw[←Array.getElem?_toList,h1]
 simp[hj']
theorem ZgG {w:World} {g off n:Nat} {os:Array Go.Obj} {cur:Array Value} {e:TypeId} {fr:Nat×Nat} (d:Array Int) (hb:w.heap[g]? =some (.cells cur e fr)):
  (Go.Sort.grow (Go.Sort.putRow (Value.int .i64) (Go.Sort.ahead w n) g off d) os).heap[g]? =some (.cells (Go.Sort.putCells (Value.int .i64) off d cur) e fr):=by
 have hg:g < w.heap.size:=(Array.getElem?_eq_some_iff.1 hb).1
 rw[Go.Sort.heap_grow_old _ _ (by simpa using hg)]
 simp[Go.Sort.putRow,Go.Sort.mapBlock,Go.Sort.ahead,Array.getElem?_modify,hb,Go.Sort.onCells]
theorem Ze3 {w:World} {g off n:Nat} {os:Array Go.Obj} (d:Array Int):w.grownBy (Go.Sort.grow (Go.Sort.putRow (Value.int .i64) (Go.Sort.ahead w n) g off d) os) (some g):=by
 refine ⟨rfl,rfl,rfl,by simp,fun k hk hne=>?_⟩
 rw[Go.Sort.heap_grow_old _ _ (by simpa using hk)]
 have:g≠k:=fun e=>hne (by rw[e])
 simp[Go.Sort.putRow,Go.Sort.mapBlock,Go.Sort.ahead,Array.getElem?_modify,this]
theorem Zhd {w:World} {g off cap n:Nat} {e:TypeId} {os:Array Go.Obj} {cur:Array Value} {ss ts:List Int} (hl:ts.length=ss.length) (hb:w.heap[g]? =some (.cells cur e (0,0)))
  (h1:ss.length≤cap) (h2:cap≤maxLen) (h3:off+cap*1≤cur.size):
  ownsAt (Go.Sort.grow (Go.Sort.putRow (Value.int .i64) (Go.Sort.ahead w n) g off ts.toArray) os) e 1 (.slice (some ⟨g,off,none⟩) ss.length cap) ss.length (ts.map (Value.int .i64)):=by
 refine ⟨by simp[hl],.inr ⟨g,off,cap,_,rfl,ZgG _ hb,h1,h2,by simpa[Go.Sort.putCells] using h3,?_⟩⟩
 rw[Nat.mul_one,←hl]
 apply List.ext_getElem?
 intro j
 by_cases hj:j < ts.length
 ·rw[List.getElem?_take_of_lt hj,List.getElem?_drop,Array.getElem?_toList]
  simp[Go.Sort.putCells,hj,show off+j < cur.size by omega]
 ·rw[List.getElem?_take_eq_none (by omega),List.getElem?_eq_none (by simp;omega)]
theorem sortStep [Orgs] {P:Program} {Mod F0:Nat→Prop} {w0:World} {st:St} {o:Oper} {c:Call} {f ts id ver:Nat} {E:TypeId} {l:List Int} {fn:Func} {body:Code}
  (hop:o.op=.call c) (hc:c.callee=.value (.func f)) (hargs:c.args= #[.tmp ts]) (hfn:P.funcs[f]? =some fn) (hname:(fn.name== "runtime.NumGoroutine")=false) (hbody:fn.body=some body)
  (hev:st.ev (.tmp ts)=.own id ver none) (hob:st.obj id ver=some (.row E (.int .i64) l false)) (hS:SortOK P f) (hlim:l.length < 4611686018427387904)
  {a:Act} {w:World} (hr:Rel Mod F0 w0 st a w) {next:Act→World→Prop} {Q:Exit→Act→World→Prop}
  (hK:∀a' w',Rel Mod F0 w0 ((st.setOb id ver (.row E (.int .i64) (sorted l) false)).put o.dst .top) a' w'→next a' w'):o.wp P a w next Q:=by
 obtain ⟨hd,F,ρ,hR,hEv⟩:=hr
 have hf0:=Zm.1 hob
 have hv:=ZcV hR hev
 generalize hu:a.eval (.tmp ts)=u at hv
 cases hv with
 | own _ _ _ _ hbn h1 hp=>
  obtain ⟨_,A,cap,hρ,hu2⟩:=hp _ _ _ _ hob
  simp only[Option.getD_none] at hu2
  have hrun:(execOp a.eval o).run P w=.ok (.enter f #[u]) w:=by
   have hn:¬fn.name= "runtime.NumGoroutine" :=by simpa using hname
   have he:a.eval (.func f)=.func (.func f) #[] #[]:=rfl
   simp[execOp,hop,resolve,hc,he,Deferred.ofValue,invoke,callFunc,hfn,hn,hbody,hargs,hu]
  unfold Oper.wp
  rw[hrun,Oper.upon_enter]
  obtain ⟨cells,hown,hrep⟩:RowRep F w E (.int .i64) l (ρ id):=hR.obs id ver _ hf0
  have hlen:(sorted l).length=l.length:=List.length_mergeSort l
  have hcells:cells=l.map (Value.int .i64):=by
   apply List.ext_getElem?
   intro i
   have hl:cells.length=l.length:=by have:=hown.1;simpa[Ty.cells] using this
   rw[List.getElem?_map]
   cases hi:l[i]? with
   | none=>rw[List.getElem?_eq_none (by have:=List.getElem?_eq_none_iff.1 hi;omega)];rfl
   | some x=>
    obtain ⟨cs,hcs,hall⟩:=hrep i x hi
    have hcs':cs=[Value.int .i64 x]:=hcs
    have:=hall 0 (Value.int .i64 x) (by rw[hcs'];rfl)
    simpa[Ty.cells] using this
  rw[hρ] at hown
  rcases hown with ⟨_,⟨hv0,hn0⟩ | ⟨g,off,cap',cur,hv0,hb,hn,hcm,hsz,htk⟩⟩
  ·-- nothing
   have hl0:l=[]:=List.eq_nil_of_length_eq_zero hn0
   subst hl0
   rw[hu2,hv0]
   refine Calls.mono (hS.2 none 0 w) fun e w' he=>?_
   obtain ⟨rfl,rfl⟩:=he
   refine hK _ _ ⟨by rw[Zq];exact hd,F,ρ,?_,hEv⟩
   have hset:=(R.set' hR (id:=id) (ver':=ver) (o':=.row E (.int .i64) (sorted []) false) (h':=ρ id) (w':=w') rfl rfl rfl (Nat.le_refl _) (.inl ⟨_,hf0,rfl,⟨rfl,by simp[sorted]⟩⟩) (fun _ _ _=>rfl)
    (fun _ b hb=>by rw[hρ,hv0] at hb;cases hb) (fun _ _ _ e=>by cases e) (show RowRep F w' E (.int .i64) (sorted []) (ρ id) from by rw[show sorted []=[] from List.mergeSort_nil];exact hR.obs id ver _ hf0)).1
   rw[ZcG] at hset
   exact R.put (a:=a) hset (.top _) o.dst
  ·rw[hu2,hv0]
   have hgl:g < w.heap.size:=(Array.getElem?_eq_some_iff.1 hb).1
   have htk':(cur.toList.drop off).take l.length=l.map (Value.int .i64):=by rw[←hcells,←htk];simp[Ty.cells]
   have hH:=ZkP (ss:=l) hb htk'
   refine Calls.mono (hS.1 g off cap' l w hH hgl hlim) fun e w' he=>?_
   obtain ⟨rfl,n,os,rfl⟩:=he
   refine hK _ _ ?_
   have hgr:=Ze3 (w:=w) (g:=g) (off:=off) (n:=n) (os:=os) (sorted l).toArray
   have hρg:ρ id=.slice (some ⟨g,off,none⟩) l.length cap':=by rw[hρ,hv0]
   have hset:=R.set' hR (id:=id) (ver':=ver) (o':=.row E (.int .i64) (sorted l) false) (h':=ρ id) (w':=Go.Sort.grow (Go.Sort.putRow (Value.int .i64) (Go.Sort.ahead w n) g off (sorted l).toArray) os) hgr.os hgr.tape hgr.output hgr.size (.inl ⟨_,hf0,rfl,⟨rfl,hlen.symm⟩⟩)
    (fun k hk hne=>hgr.block k hk fun e=>hne ver _ hf0 rfl (by rw[hρg];simp at e;rw[e];rfl))
    (fun _ b hbb=>by
     obtain ⟨s1,s2,s3,s4⟩:=hR.sep id ver _ b hf0 rfl hbb
     exact ⟨s1,s2,Nat.lt_of_lt_of_le s3 hgr.size,fun i v o2 hi k1 k2 k3=>hi (s4 i v o2 k1 k2 k3)⟩)
    (fun _ _ _ e=>by cases e) (by
     show RowRep _ _ _ _ _ _
     rw[hρg]
     refine ⟨(sorted l).map (Value.int .i64),?_,fun i x hx=>⟨[Value.int .i64 x],rfl,fun j u hu=>?_⟩⟩
     ·have:=Zhd (n:=n) (os:=os) (ss:=l) (ts:=sorted l) hlen hb hn hcm (by simpa[Ty.cells] using hsz)
      rw[←hlen] at this
      rw[←hlen]
      exact this
     ·match j with
      | 0=>simp at hu;subst hu;simp[Ty.cells,hx]
      | j+1=>simp at hu)
   obtain ⟨hR',hE'⟩:=hset
   rw[ZcG] at hR'
   exact ⟨by rw[Zq];exact hd,F,ρ,R.put (a:=a) hR' (.top _) o.dst,hEv.trans hE'⟩
end Go.Ev
end

section
namespace Go.Ev
open Go
def fstC:Code→Code |.seq a _=>a | _=>.skip
def sndC:Code→Code |.seq _ b=>b | _=>.skip
def ropsC:Code→Array Oper |.region _ o _=>o | _=> #[]
def ridC:Code→Nat |.region i _ _=>i | _=>0
def innC:Code→Code |.block _ c=>c |.loop c=>c | _=>.skip
def bidC:Code→Nat |.block i _=>i | _=>0
def thenC:Code→Code |.cond _ a _=>a | _=>.skip
def opC (c:Code) (i:Nat):Oper:=(ropsC c)[i]?.getD default
def dstC (o:Oper):Nat:=o.dst.getD 0
def rangeText (b:Code):RangeText:=
 let l:=innC (innC b)
 let r:=innC (sndC (sndC l))
 {s1:=ridC (fstC l),s2:=ridC (fstC r),b0:=bidC b,b1:=bidC (sndC (sndC l)),ops1:=ropsC (fstC l),ops2:=ropsC (fstC r),cr:=sndC r,
  tit:=(match (opC (fstC l) 0).op with |.next (.tmp t) _=>t | _=>0),tn:=dstC (opC (fstC l) 0),tok:=dstC (opC (fstC l) 1),td:=dstC (opC (fstC r) 0),on:=opC (fstC l) 0,en:=opC (fstC r) 0 }
variable [Tabs]
section
variable [Orgs] {P:Program} {Mod F0:Nat→Prop} {w0:World} {cl:Cl} {tb:Tb}
theorem tailStep (hcl:Spec P cl) (hdet:DetC cl) {c:Code} {fin:Kt} {ps:List (Nat×(Lt→Kt))} (hps:procs P cl tb c 0 (fun _=>fin) (fun _ _ _=>none) (fun _=>fin)=ps) (hnd:nodupB (ps.map (·.1))=true)
  {S0:St} {J α:Type} {T:J→JT J α} {T0:JT J α} {S:J→Nat×St} {K:α→Ans} {v:α}
  (en:∀L,evC P cl tb L c 0 fin (fun _ _=>none) fin S0=T0.run (fun v=>some (K v)) fun j=>L (S j).1 (S j).2)
  (lp:∀L j,procOf ps (S j).1 L (S j).2=(T j).run (fun v=>some (K v)) fun j=>L (S j).1 (S j).2) (g:Goes T T0 v)
  {a:Act} {w:World} (hr:Rel Mod F0 w0 S0 a w):c.wp P (fun e a' w'=>(e=.normal∨e=.ret)∧∃st',Rel Mod F0 w0 st' a' w'∧fin st'=some (K v)) a w:=by
 obtain ⟨n,hn⟩:=ZiV lp g
 have hs:=ZQ (Mod:=Mod) (F0:=F0) (w0:=w0) (ps:=ps) (tb:=tb) (y:=K v) hcl hdet c 0 (fun _=>fin) (fun _ _ _=>none) (fun _=>fin) (by rw[hps];exact ZjW hnd) n S0 a w (by rw[en];exact hn) hr
 refine wp_mono hs fun e a' w' he=>?_
 cases e with
 | normal=>obtain ⟨m,st',_,hr',hk⟩:=he;exact ⟨.inl rfl,st',hr',hk⟩
 | ret=>obtain ⟨m,st',_,hr',hk⟩:=he;exact ⟨.inr rfl,st',hr',hk⟩
 | exit j=>obtain ⟨m,st',_,_,hk⟩:=he;cases hk
 | _=>exact he.elim
end
theorem Zix {l l':List Int} (h:l.Perm l'):sorted l=sorted l':=by
 have tr:∀a b c:Int,decide (a≤b)=true→decide (b≤c)=true→decide (a≤c)=true:=fun a b c h1 h2=>by simp at*;omega
 have to:∀a b:Int,(decide (a≤b) || decide (b≤a))=true:=fun a b=>by simp;omega
 have p1:=List.pairwise_mergeSort tr to l
 have p2:=List.pairwise_mergeSort tr to l'
 have hp:(sorted l).Perm (sorted l'):=(List.mergeSort_perm l _).trans (h.trans (List.mergeSort_perm l' _).symm)
 exact hp.eq_of_pairwise (fun a b _ _ h1 h2=>by simp at h1 h2;omega) p1 p2
end Go.Ev
end

section
namespace Go.Ev
variable [Tabs]
open Go
section
variable [Orgs] {P:Program} {Mod F0:Nat→Prop} {w0:World} {cl:Cl} {st:St} {a:Act} {w:World}
theorem endStep (hcl:Spec P cl) (hdet:DetC cl) {c:Code} {fin:Kt} {S0:St} {y:Ans} (h:∀L,evC P cl [] L c 0 fin (fun _ _=>none) fin S0=some y) (hr:Rel Mod F0 w0 S0 a w):
  c.wp P (fun e a' w'=>(e=.normal∨e=.ret)∧∃st',Rel Mod F0 w0 st' a' w'∧fin st'=some y) a w:=by
 have hs:=ZQ (Mod:=Mod) (F0:=F0) (w0:=w0) (ps:=[]) (tb:=[]) (y:=y) hcl hdet c 0 (fun _=>fin) (fun _ _ _=>none) (fun _=>fin) (by rw[Zb8];intro j p hj;simp at hj) 0 S0 a w (h _) hr
 refine wp_mono hs fun e a' w' he=>?_
 cases e with
 | normal=>obtain ⟨m,st',_,hr',hk⟩:=he;exact ⟨.inl rfl,st',hr',hk⟩
 | ret=>obtain ⟨m,st',_,hr',hk⟩:=he;exact ⟨.inr rfl,st',hr',hk⟩
 | exit j=>obtain ⟨m,st',_,_,hk⟩:=he;cases hk
 | _=>exact he.elim
end
end Go.Ev
end

section
namespace Go.Ev
open Go
theorem wrap_i64 {n:Int} (h0: -9223372036854775808≤n) (h1:n < 9223372036854775808):IntKind.i64.wrap n=n:=by
 have e:IntKind.i64.wrap n=if n % 18446744073709551616≥9223372036854775808 then n % 18446744073709551616 - 18446744073709551616 else n % 18446744073709551616:=by
  unfold IntKind.wrap
  simp[IntKind.signed,IntKind.bits]
 rw[e]
 split <;> omega
theorem ZaO {k:Nat} (h:k < 4611686018427387904):IntKind.i64.wrap ((k:Int)+1)=((k+1:Nat):Int):=by
 rw[wrap_i64 (by omega) (by omega)];omega
theorem ZeD {k n:Nat} (h:k < n):decide ((k:Int) < Int.ofNat n)=true:=by simp;omega
theorem Zbu {k n:Nat} (h:¬k < n):decide ((k:Int) < Int.ofNat n)=false:=by simp;omega
theorem ZaG {k n:Nat} (h:k < n):(decide ((0:Int)≤(k:Int))&&decide ((k:Int) < Int.ofNat n))=true:=by simp;omega
theorem nng {k:Nat} :decide ((0:Int)≤(k:Int))=true:=by simp
theorem ZcA {α:Type} {l:List α} {k:Nat} {d:α} (h:k < l.length):List.getD l k d=l[k]:=by simp[List.getD,h]
instance elDec:(t:Ty)→DecidableEq (El t)
 |.int _=>inferInstanceAs (DecidableEq Int)
 |.bool=>inferInstanceAs (DecidableEq Bool)
 |.str=>inferInstanceAs (DecidableEq ByteArray)
 |.sl t=> @instDecidableEqList _ (elDec t)
 |.pr a b=> @instDecidableEqProd _ _ (elDec a) (elDec b)
 |.un=>inferInstanceAs (DecidableEq Unit)
def same (t:Ty) (a b:El t):Bool:= @decide (a=b) (elDec t a b)
theorem down {n:Nat} {P:Nat→Prop} (hend:P n) (hstep:∀k,k < n→P (k+1)→P k):∀k,k≤n→P k:=by
 intro k hk
 obtain ⟨m,rfl⟩:∃m,n=k+m:=⟨n - k,by omega⟩
 induction m generalizing k with
 | zero=>exact hend
 | succ m ih=>exact hstep k (by omega) (ih (k+1) (by rw[show k+1+m=k+(m+1) by omega];exact hend) (fun j hj h=>hstep j (by omega) h) (by omega))
theorem ZcC {α:Type} {l:List α} {k:Nat} (h:k < l.length):l.drop k=l[k] :: l.drop (k+1):=List.drop_eq_getElem_cons h
end Go.Ev
end

section
namespace Go.Ev
variable [Tabs]
open Go
structure SE where
 key:Int
 b:Nat
 mb:Nat
 n:Int
 l:List (El (.int .i64)×El (.int .u64))
structure HS where
 m:Nat
 es:List SE
def SE.blocks (e:SE):List Nat:=[e.b,e.mb]
def HS.blocks (h:HS):List Nat:=h.m :: h.es.flatMap SE.blocks
def SetAt (T:TypeId) (w:World) (e:SE):Prop:=w.heap[e.b]? =some (.cells #[.int .i64 e.n,.map (some e.mb)] T (0,0))∧MapRep w (.int .i64) (.int .u64) e.l (.map (some e.mb))
def SE.ptr (e:SE):Value:=.pointer (some ⟨e.b,0,none⟩)
def Hold (T:TypeId) (w:World) (h:HS):Prop:=
 (∃es clock,w.heap[h.m]? =some (.map es clock)∧Stamps es clock∧es.toList.map (fun e=>(e.key,e.val))=h.es.map fun e=>(Value.int .i64 e.key,e.ptr))∧(h.es.map SE.key).Nodup∧∀e∈h.es,SetAt T w e
theorem SetAt.same {T:TypeId} {w w':World} {e:SE} (h:∀b∈e.blocks,w'.heap[b]? =w.heap[b]?) (hs:SetAt T w e):SetAt T w' e:=by
 obtain ⟨h1,r,es,clock,h2,h3,h4⟩:=hs
 cases h2
 exact ⟨by rw[h _ (by simp[SE.blocks])];exact h1,_,es,clock,rfl,by rw[h _ (by simp[SE.blocks])];exact h3,h4⟩
theorem Hold.same {T:TypeId} {w w':World} {h:HS} (hb:∀b∈h.blocks,w'.heap[b]? =w.heap[b]?) (hs:Hold T w h):Hold T w' h:=by
 obtain ⟨⟨es,clock,h1,h2,h3⟩,h4,h5⟩:=hs
 refine ⟨⟨es,clock,by rw[hb _ (by simp[HS.blocks])];exact h1,h2,h3⟩,h4,fun e he=>(h5 e he).same fun b hbb=>hb b ?_⟩
 simp only[HS.blocks,List.mem_cons,List.mem_flatMap]
 exact .inr ⟨e,he,hbb⟩
@[reducible] def Mh (Mod:Nat→Prop) (L:List Nat) (b:Nat):Prop:=Mod b∧b∉L
def RelH [Orgs] (T:TypeId) (Mod F0:Nat→Prop) (w0:World) (h:HS) (st:St) (a:Act) (w:World):Prop:=
 a.defers=[]∧h.blocks.Nodup∧∃F ρ,R (Mh Mod h.blocks) F ρ w st a.tmps∧Evo Mod F0 w0 F w∧Hold T w h∧∀b∈h.blocks,¬F b∧Mod b∧b < w.heap.size
section
variable [Orgs] {P:Program} {T:TypeId} {Mod F0:Nat→Prop} {w0:World} {cl:Cl} {h:HS} {st st1:St} {a:Act} {w:World} {Q:Exit→Act→World→Prop}
theorem RelH.out (hr:RelH T Mod F0 w0 h st a w):Rel Mod F0 w0 st a w:=by
 obtain ⟨hd,_,F,ρ,hR,hE,_,hb⟩:=hr
 exact ⟨hd,F,ρ,hR.mod (fun b hh=>(hR.hi b hh).1) fun _ _ _ _ _ _ _ h=>h.1,hE⟩
theorem RelH.next {st1:St} {a':Act} {w':World} {F:Nat→Prop} {ρ:Rho} (hn:h.blocks.Nodup) (hE:Evo Mod F0 w0 F w) (hH:Hold T w h) (hb:∀b∈h.blocks,¬F b∧Mod b∧b < w.heap.size)
  (hr:Rel (Mh Mod h.blocks) F w st1 a' w'):RelH T Mod F0 w0 h st1 a' w':=by
 obtain ⟨hd',F',ρ',hR',hE'⟩:=hr
 refine ⟨hd',hn,F',ρ',hR',hE.trans (hE'.mod fun b hb=>hb.1),hH.same fun b hbb=>hE'.same b (hb b hbb).2.2 (.inr fun hm=>hm.2 hbb),fun b hbb=>⟨fun hF=>(hE'.new b hF).elim (hb b hbb).1 fun hm=>hm.2 hbb,(hb b hbb).2.1,Nat.lt_of_lt_of_le (hb b hbb).2.2 hE'.size⟩⟩
theorem RelH.ev {x:Operand} {k:IntKind} {n:Int} (hr:RelH T Mod F0 w0 h st a w) (hx:st.ev x=.d (.int k) n):a.eval x=.int k n:=by
 obtain ⟨_,_,F,ρ,hR,_⟩:=hr
 exact ZH (ZcV hR hx)
theorem Rel.ev {x:Operand} {k:IntKind} {n:Int} (hr:Rel Mod F0 w0 st a w) (hx:st.ev x=.d (.int k) n):a.eval x=.int k n:=by
 obtain ⟨_,F,ρ,hR,_⟩:=hr
 exact ZH (ZcV hR hx)
end
end Go.Ev
end

section
namespace Go.Ev
variable [Tabs]
open Go
section
variable {P:Program} {f:FuncId} {E:TypeId} {F:Nat→Prop} {w:World}
end
end Go.Ev
end

section
namespace Go.Ev
variable [Tabs]
open Go
structure Hid where
 blocks:List Nat
 ok:(Nat→Prop)→World→Prop
 keep:∀ {F F':Nat→Prop} {w w':World},Keeps F w F' w'→(∀b∈blocks,w'.heap[b]? =w.heap[b]?)→ok F w→ok F' w'
def RelX [Orgs] (h:Hid) (Mod F0:Nat→Prop) (w0:World) (st:St) (a:Act) (w:World):Prop:=
 a.defers=[]∧h.blocks.Nodup∧∃F ρ,R (Mh Mod h.blocks) F ρ w st a.tmps∧Evo Mod F0 w0 F w∧h.ok F w∧∀b∈h.blocks,¬F b∧Mod b∧b < w.heap.size
section
variable [Orgs] {P:Program} {Mod F0:Nat→Prop} {w0:World} {cl:Cl} {h:Hid} {st st1:St} {a:Act} {w:World} {Q:Exit→Act→World→Prop}
theorem RelX.out (hr:RelX h Mod F0 w0 st a w):Rel Mod F0 w0 st a w:=by
 obtain ⟨hd,_,F,ρ,hR,hE,_,hb⟩:=hr
 exact ⟨hd,F,ρ,hR.mod (fun b hh=>(hR.hi b hh).1) fun _ _ _ _ _ _ _ h=>h.1,hE⟩
theorem RelX.next {a':Act} {w':World} {F:Nat→Prop} (hn:h.blocks.Nodup) (hE:Evo Mod F0 w0 F w) (hlow:∀b,F b→b < w.heap.size) (hH:h.ok F w) (hb:∀b∈h.blocks,¬F b∧Mod b∧b < w.heap.size)
  (hr:Rel (Mh Mod h.blocks) F w st1 a' w'):RelX h Mod F0 w0 st1 a' w':=by
 obtain ⟨hd',F',ρ',hR',hE'⟩:=hr
 have hs:∀b∈h.blocks,w'.heap[b]? =w.heap[b]?:=fun b hbb=>hE'.same b (hb b hbb).2.2 (.inr fun hm=>hm.2 hbb)
 exact ⟨hd',hn,F',ρ',hR',hE.trans (hE'.mod fun b hb=>hb.1),h.keep (hE'.keeps hlow) hs hH,fun b hbb=>⟨fun hF=>(hE'.new b hF).elim (hb b hbb).1 fun hm=>hm.2 hbb,(hb b hbb).2.1,Nat.lt_of_lt_of_le (hb b hbb).2.2 hE'.size⟩⟩
theorem RelX.ev {x:Operand} {k:IntKind} {n:Int} (hr:RelX h Mod F0 w0 st a w) (hx:st.ev x=.d (.int k) n):a.eval x=.int k n:=by
 obtain ⟨_,_,F,ρ,hR,_⟩:=hr
 exact ZH (ZcV hR hx)
abbrev MapD:=List (Int×List Int)
def MapOf (F:Nat→Prop) (w:World):List MapEntry→MapD→Prop
 | [],[]=>True
 | e :: es,x :: l=>(e.key=.int .i64 x.1∧LRep F w (.sl (.int .i64)) x.2 [e.val])∧MapOf F w es l
 | _,_=>False
theorem MapOf.keep {F F':Nat→Prop} {w w':World} (hk:Keeps F w F' w'):∀ {es:List MapEntry} {l:MapD},MapOf F w es l→MapOf F' w' es l
 | [],[],_=>trivial
 | e :: es,x :: l,h=>⟨⟨h.1.1,h.1.2.keep hk⟩,MapOf.keep hk h.2⟩
 | [],_ :: _,h=>h.elim
 | _ :: _,[],h=>h.elim
theorem MapOf.push {F:Nat→Prop} {w:World} {e:MapEntry} {x:Int×List Int} (h1:e.key=.int .i64 x.1) (h2:LRep F w (.sl (.int .i64)) x.2 [e.val]):∀ {es:List MapEntry} {l:MapD},MapOf F w es l→MapOf F w (es++[e]) (l++[x])
 | [],[],_=>⟨⟨h1,h2⟩,trivial⟩
 | e' :: es,x' :: l,h=>⟨h.1,MapOf.push h1 h2 h.2⟩
 | [],_ :: _,h=>h.elim
 | _ :: _,[],h=>h.elim
end
end Go.Ev
end

section
namespace Go.Ev
variable [Tabs]
open Go
theorem Zie {P:Program} {tb:Tb} {f:FuncId} {fn:Func} {c:Code} {form x:AV} {ans:Ans} (hf:P.funcs[f]? =some fn) (hb:fn.body=some c) {st:St} (hi:initA ⟨[],[]⟩ 0 [form]=some ([x],st))
  (h:∀ [Orgs] (Mod F0:Nat→Prop) (w0:World) (a:Act) (w:World),Rel Mod F0 w0 { st with tm:=x :: x :: tops (fn.ntmps - 2) } a w→
   c.wp P (fun e a' w'=>(e=.normal∨e=.ret)∧∃st',Rel Mod F0 w0 st' a' w'∧finA P tb fn [form] st'=some ans) a w):CallG P f twice [form] ans:=by
 intro F w vals L hT hL hLF hlow htab
 letI:Orgs:=⟨fun j=>vals.getD j undef⟩
 have hvo:∀k v,vals[k]? =some v→v=Orgs.org (0+k):=fun k v hk=>by
  rw[Nat.zero_add]
  show v=vals.getD k undef
  rw[List.getD_eq_getElem?_getD,hk];rfl
 refine calls_of_wp hf hb ?_
 have hlen:=hT.length
 have hR0:R (ModC L w) F ρ0 w ⟨[],[]⟩ #[]:=⟨rfl,fun i x hx=>by simp at hx,fun id ver o hf=>by simp[find] at hf,fun id ver o b hf=>by simp[find] at hf,fun id ver E t l hf=>by simp[find] at hf,hlow,fun b hb=>.inr hb,htab⟩
 have hF0:Fr (ModC L w) F ρ0 w ⟨[],[]⟩ L:=⟨hL,fun b hb=>⟨(hLF b hb).1,.inl hb,(hLF b hb).2,fun ⟨id,ver,o,hf,_⟩=>by simp[find] at hf⟩⟩
 obtain ⟨ρ1,r1,a1,c1⟩:=ZeG [form] 0 ⟨[],[]⟩ ρ0 [x] vals st L hi hR0 hT hF0 hvo
 have hvl: [x].length=vals.length:=a1.1
 obtain ⟨v0,rfl⟩:∃v0,vals=[v0]:=by
  cases vals with
  | nil=>simp at hvl
  | cons v0 r=>cases r with
   | nil=>exact ⟨v0,rfl⟩
   | cons _ _=>simp at hvl
 have hxv:=a1.2 0 x v0 rfl rfl
 have hrel:Rel (ModC L w) F w { st with tm:=x :: x :: tops (fn.ntmps - 2) } { tmps:=(twice [v0])++Array.replicate (fn.ntmps - (twice [v0]).size) undef,defers:=[] } w:=by
  refine ⟨rfl,F,ρ1,⟨?_,fun i y hx=>?_,fun id ver o hf=>?_,r1.sep,r1.data,r1.low,r1.hi,r1.tabs⟩,Evo.refl _ _ _⟩
  ·simp[Zac,twice];omega
  ·have hob:ARep F ρ1 w ⟨x :: x :: tops (fn.ntmps - 2),st.ob⟩ x v0:=ARep.of_ob (st:=st) (st':=⟨x :: x :: tops (fn.ntmps - 2),st.ob⟩) rfl hxv
   rcases i with _ | _ | i
   ·have:x=y:=by simpa using hx
    subst this
    exact ⟨v0,by simp[twice,Array.getElem?_append],hob⟩
   ·have:x=y:=by simpa using hx
    subst this
    exact ⟨v0,by simp[twice,Array.getElem?_append],hob⟩
   ·have hx:(tops (fn.ntmps - 2))[i]? =some y:=by simpa using hx
    have hlt:=(List.getElem?_eq_some_iff.1 hx).1
    obtain rfl:=ZeJ _ _ _ hx
    rw[Zac] at hlt
    refine ⟨undef,?_,.top _⟩
    simp[twice,Array.getElem?_append,Array.getElem?_replicate]
    omega
  ·exact ORep.mono (Keeps.refl _ _) (Ref.of_ob (st:=st) (st':=⟨x :: x :: tops (fn.ntmps - 2),st.ob⟩) rfl) (fun _ _=>rfl) (r1.obs id ver o hf)
 refine wp_mono (h (ModC L w) F w _ w hrel) fun e a w' he=>?_
 obtain ⟨hen,st',⟨hd,F',ρ',hR,hE⟩,hk⟩:=he
 obtain ⟨F2,v,Lr,Lo,hE2,hlow2,h1,h2,h3,h4,h5⟩:=Zhv (L:=L) (w0:=w) hR (fun _ h=>h) (by simp) hvo hk
 have fin:a.defers=[]∧∃v,(results fn a.tmps).run P w'=.ok v w'∧CallPost F w L [v0] ans v w':=
  ⟨hd,v,h1,F2,Lr,Lo,hE.trans hE2,hlow2,h2,h3,(List.perm_append_comm.nodup_iff).1 h4,fun b hb=>h5 b (by simp only[List.mem_append] at hb ⊢;exact hb.symm)⟩
 cases e with
 | normal=>exact fin
 | ret=>exact fin
 | _=>simp at hen
def sameRun {α:Type} (s:PSig) (K:α→Ans) (ok:PArgs s→Bool) (v:PArgs s→α) (base:Run):Run:=fun xs=>match xs with
 |.pt 0 0 1 :: r=>(match ofPs s r with
  | some a=>fun k=>bif ok a then k (K (v a)) else none
  | none=>fail)
 | xs=>base xs
theorem Zi9 {P:Program} {f:FuncId} {α:Type} {s:PSig} {K:α→Ans} {ok:PArgs s→Bool} {v:PArgs s→α} {base:Run} (he:EntOK P f base) (h:∀a,ok a=true→CallG P f twice (toPs s a) (K (v a))):EntOK P f (sameRun s K ok v base):=by
 refine ⟨he.1,fun xs=>?_⟩
 unfold sameRun
 split
 ·rename_i r
  split
  ·rename_i a ha
   refine ⟨Det.guard (Det.pure _),Sat.guard fun hk=>Sat.pure ⟨fun F w vals L hT=>?_,fun q e=>?_⟩⟩
   ·cases hT with
    | flat hx=>cases hx
   ·cases e
    intro F w vals L hT hL hLF hlow htab
    exact h a hk F w vals L (Ze9 ha hT) hL hLF hlow htab
  ·exact ⟨Det.fail,Sat.fail⟩
 ·exact he.2 xs
end Go.Ev
end

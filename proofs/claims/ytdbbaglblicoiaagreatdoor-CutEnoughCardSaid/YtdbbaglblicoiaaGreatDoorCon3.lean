/- Part of the proof of: The points that are chosen cut all delays; so do those of each way: for every input the law answers true. -/
import Derived.Test.YtdbbaglblicoiaaGreatDoorCon2
set_option maxRecDepth 100000
set_option linter.unusedSectionVars false
set_option linter.unusedVariables false
set_option linter.unusedSimpArgs false
section
namespace Go.Ev
open Go
theorem ZKr (t:List (El Za)):Anti (uB t):=fun {p q} h {x} hx=>ZPZ h hx
theorem ZFn {i:El Za} (hs:smallText i.2.2.2.2.2.1=true) (hw:(Zak i).2=true):(Zav i).2=false:=by
 have h0:ZO i=true:=hs
 unfold Zak at hw
 unfold Zav
 simp only[h0,cond_true] at hw ⊢
 cases hr:(Zw i !=(0:Int)) with
 | true=>rfl
 | false=>
  rw[hr] at hw
  simp only[cond_false] at hw ⊢
  have hr':Zw i=0:=by simpa[bne] using hr
  cases hm:ZF i.2.2.2.1 with
  | false=>rw[hm] at hw;exact (Bool.false_ne_true hw).elim
  | true=>
   have h9:¬(9:Int) < i.1:=fun h=>by
    have:=(ZEr hr' h).1
    rw[hm] at this
    cases this
   have e:∀k:Int,¬(9:Int) < k→(k==10)=false∧(k==11)=false:=fun k hk=>by
    constructor <;> rw[beq_eq_false_iff_ne] <;> omega
   obtain ⟨e1,e2⟩:=e i.1 h9
   unfold bne
   rw[e1,e2]
   rfl
theorem ZMI {p:El Zc} (hF:CutF p) {x:PairD} (hx:x∈Zk p) {j:Nat} (hn:nextB (thrT p x.1) x.2.1 j=true):(j:Int)=(show Int from x.2.1)+1:=by
 rw[←hF.eq] at hx
 obtain ⟨s,r,s1,_,hst,_,rfl⟩:=Zzd hx
 have hm:accA (ofC p) s∈ofC p:=by unfold accA;rw[ZG s1];exact List.getElem_mem s1
 obtain ⟨u,y,k,i,h1,h2,h3,h4,h5⟩:=ZzP hm
 have hu:=(List.getElem?_eq_some_iff.1 h1)
 have hk:=(List.getElem?_eq_some_iff.1 h2)
 have hw:(Zak i).2=true:=by
  unfold stB' at hst
  rw[Bool.and_eq_true] at hst
  unfold accI at h3
  rcases List.mem_append.1 h3 with h | h
  ·split at h
   ·rw[List.mem_singleton.1 h] at hst;exact (Bool.false_ne_true hst.1).elim
   ·cases h
  ·split at h
   ·assumption
   ·cases h
 have e1:(show Int from (delPair (ofC p) s r).1)=(u:Int):=h4
 have e2:(show Int from (delPair (ofC p) s r).2.1)=(k:Int):=h5
 have et:thrT p (delPair (ofC p) s r).1=y:=by
  show thrT p (show Int from (delPair (ofC p) s r).1)=y
  rw[e1]
  unfold thrT
  rw[Int.toNat_natCast,ZG hu.1,hu.2]
 have hn':nextB y (k:Int) j=true:=by
  have:nextB (thrT p (delPair (ofC p) s r).1) (show Int from (delPair (ofC p) s r).2.1) j=true:=hn
  rw[et,e2] at this
  exact this
 have hy:y∈p.2:=by rw[←hu.2];exact List.getElem_mem _
 have hi:i∈y:=by rw[←hk.2];exact List.getElem_mem _
 have hs:=Zk6 (Zoh ((smallA hF.small).thr y hy)) hi
 have hto:toOf y k= -1:=by
  unfold toOf
  rw[ZG hk.1,hk.2,ZFn hs hw]
  rfl
 unfold nextB at hn'
 rw[Bool.and_eq_true,Bool.or_eq_true,Bool.and_eq_true,Int.toNat_natCast,hto] at hn'
 simp only[decide_eq_true_eq] at hn'
 show (j:Int)=(show Int from (delPair (ofC p) s r).2.1)+1
 rw[e2]
 rcases hn'.2 with h | h
 ·exact h.2
 ·omega
theorem ZOS {p:El Zc} (hF:CutF p) {x:PairD} (hx:x∈Zk p) {pts:List Int} (h:(show Int from x.2.1)+1∈pts):uB (thrT p x.1) pts x=false:=by
 unfold uB
 have:endsB (thrT p x.1) pts x.2.1 (Int.toNat x.2.2)=false:=by
  rw[Bool.eq_false_iff]
  intro he
  unfold endsB at he
  have hc:=Zce.1 he
  generalize Int.toNat x.2.2=j at hc
  induction hc with
  | start h1=>
   unfold firstB at h1
   rw[Bool.and_eq_true,Bool.not_eq_true',Bool.eq_false_iff] at h1
   refine h1.2 ?_
   rw[List.contains_iff_mem,ZMI hF hx h1.1]
   exact h
  | step _ _ ih=>exact ih
 rw[this,Bool.and_false]
section
variable {p:El Zc} (hF:CutF p) {t:Int}
include hF
theorem ZNd {pts:List Int} {x:PairD} (hx:x∈allT p t) (hu:uB (thrT p t) pts x=true):x∈opT p t:=by
 obtain ⟨h1,h2⟩:=List.mem_filter.1 hx
 refine List.mem_filter.2 ⟨hF.oin x h1 ?_,h2⟩
 have ht:(show Int from x.1)=t:=by unfold ofB at h2;simpa using h2
 have:=ZKr _ (p:=[]) (fun k hk=>by cases hk) hu
 have hp:=hF.pin x h1
 have e:openB p x=uB (thrT p (show Int from x.1)) [] x:=(ZHY hp.flow (by simp) (show Int from x.2.1) (show Int from x.2.2)).2
 rw[e]
 have e2:uB (thrT p (show Int from x.1)) [] x=uB (thrT p t) [] x:=by rw[ht]
 rw[e2]
 exact this
theorem ZLN {pts:List Int} (h:CovL (uB (thrT p t)) (opT p t) pts):CovL (uB (thrT p t)) (allT p t) pts:=fun x hx=>by
 rw[Bool.eq_false_iff]
 intro hu
 have:=h x (ZNd hF hx hu)
 rw[this] at hu
 cases hu
theorem ZHN {pts:List Int} (h:∀x∈opT p t,(show Int from x.2.1)+1∈pts):CovL (uB (thrT p t)) (allT p t) pts:=ZLN hF fun x hx=>by
 obtain ⟨h1,h2⟩:=List.mem_filter.1 hx
 have ht:(show Int from x.1)=t:=by unfold ofB at h2;simpa using h2
 have:=ZOS hF (hF.osub x h1).1 (h x hx)
 rw[show thrT p x.1=thrT p t from congrArg (thrT p) ht] at this
 exact this
theorem ZHB {pts:List Int} (h:∀x∈opT p t,(show Int from x.2.2)∈pts):CovL (uB (thrT p t)) (allT p t) pts:=ZLN hF fun x hx=>ZNE (h x hx)
theorem ZNY (hr:rightT p t=true):Cuts (uB (thrT p t)) (thrT p t).length (opT p t):=by
 refine ZHw (List.all_eq_true.2 fun x hx=>?_)
 obtain ⟨hp,ht⟩:=ZLX hF hx
 have l0:=hp.ld0
 have l1:=hp.ld1
 rw[show thrT p x.1=thrT p t from congrArg (thrT p) ht] at l1
 exact decide_eq_true ⟨l0,l1⟩
theorem ZDx (hr:rightT p t=true):CovL (uB (thrT p t)) (allT p t) (greedyV (uB (thrT p t)) (thrT p t).length (opT p t)):=by
 refine ZPo (ZKr _) (p:=greedyL (uB (thrT p t)) (thrT p t).length (opT p t).length [] (opT p t)) (fun k hk=>?_) (Zzv (ZKr _) (ZNY hF hr) (Nat.le_refl _) fun x hx hu=>ZNd hF hx hu)
 unfold greedyV
 rw[ZkY]
 exact .inr hk
end
end Go.Ev
end

section
namespace Go.Ev
open Go
theorem ZQU (t:List (El Za)) (pts:List Int) (x:PairD):uB t (pts.filter (inR t.length)) x=uB t pts x:=by
 have hc:∀(j:Nat),j < t.length→(pts.filter (inR t.length)).contains (j:Int)=pts.contains (j:Int):=fun j hj=>by
  rw[Bool.eq_iff_iff,List.contains_iff_mem,List.contains_iff_mem,List.mem_filter]
  refine ⟨fun h=>h.1,fun h=>⟨h,?_⟩⟩
  unfold inR
  rw[decide_eq_true (show (0:Int)≤(j:Int) by omega),decide_eq_true (show (j:Int) < (t.length:Int) by omega)]
  rfl
 have hg:∀(i:Int) (j:Nat),(nextB t i j&& !(pts.filter (inR t.length)).contains (j:Int))=(nextB t i j&& !pts.contains (j:Int)):=fun i j=>by
  cases hn:nextB t i j with
  | false=>rfl
  | true=>rw[hc j (ZdS hn)]
 have e1:stepB t (pts.filter (inR t.length))=stepB t pts:=by
  funext k j
  unfold stepB
  rw[hg]
 have e2:firstB t (pts.filter (inR t.length)) x.2.1=firstB t pts x.2.1:=by
  funext j
  unfold firstB
  rw[hg]
 unfold uB endsB
 rw[e1,e2]
theorem ZPP (t:List (El Za)) (pts:List Int) (x:PairD):uB t (putsL [] (pts.filter (inR t.length))) x=uB t pts x:=by
 rw[←ZQU t pts]
 refine ZQq t (fun k=>?_) x
 rw[ZkY]
 simp
section
variable {t:List (El Za)} {all:List PairD}
theorem ZMf {pts:List Int} (h:CovL (uB t) all pts):CovL (uB t) all (pruneV (uB t) t.length all pts):=
 Zxh [] _ fun x hx=>by rw[List.nil_append,ZPP];exact h x hx
end
theorem ZDA (a b:List Int):shorter a b=a∨shorter a b=b:=by
 unfold shorter
 split
 ·exact .inr rfl
 ·exact .inl rfl
theorem ZKy (a b:List Int):(shorter a b).length≤a.length∧(shorter a b).length≤b.length:=by
 unfold shorter
 split <;> omega
section
variable {p:El Zc} (hF:CutF p) {t:Int}
include hF
theorem chosen (hr:rightT p t=true):∃pts,CovL (uB (thrT p t)) (allT p t) pts∧pointsV (uB (thrT p t)) (thrT p t).length (allT p t) (opT p t)=pruneV (uB (thrT p t)) (thrT p t).length (allT p t) pts:=by
 unfold pointsV
 rcases ZDA (shorter (pruneV (uB (thrT p t)) (thrT p t).length (allT p t) (greedyV (uB (thrT p t)) (thrT p t).length (opT p t))) (pruneV (uB (thrT p t)) (thrT p t).length (allT p t) ((opT p t).map fun x=>(show Int from x.2.1)+1))) (pruneV (uB (thrT p t)) (thrT p t).length (allT p t) ((opT p t).map fun x=>x.2.2)) with e | e
 ·rw[e]
  rcases ZDA (pruneV (uB (thrT p t)) (thrT p t).length (allT p t) (greedyV (uB (thrT p t)) (thrT p t).length (opT p t))) (pruneV (uB (thrT p t)) (thrT p t).length (allT p t) ((opT p t).map fun x=>(show Int from x.2.1)+1)) with e | e
  ·exact ⟨_,ZDx hF hr,e⟩
  ·exact ⟨_,ZHN hF fun x hx=>List.mem_map.2 ⟨x,hx,rfl⟩,e⟩
 ·exact ⟨_,ZHB hF fun x hx=>List.mem_map.2 ⟨x,hx,rfl⟩,e⟩
theorem ZL5 (hr:rightT p t=true):CovL (uB (thrT p t)) (allT p t) (pointsV (uB (thrT p t)) (thrT p t).length (allT p t) (opT p t)):=by
 obtain ⟨pts,h1,h2⟩:=chosen hF hr
 rw[h2]
 exact ZMf h1
end
section
variable {p:El Zc} {t:Int}
end
end Go.Ev
end

section
namespace Go.Ev
open Go
theorem ZOC {p:El Zc} (h:smallProg p=true) (t:Int):ZgC p t=true∧ZgL p t=! rightT p t:=by
 have hk:Zb5 p=true:=h
 have hv:ZcE p=checkC p:=rfl
 unfold ZgC ZgL rightT
 rw[hk,hv]
 by_cases hc:checkC p=0
 ·have e1:(checkC p !=0)=false:=by rw[hc];rfl
  rw[e1,decide_eq_true hc]
  by_cases h0:t < 0
  ·rw[decide_eq_true h0,decide_eq_false (show ¬(0:Int)≤t by omega)]
   exact ⟨rfl,rfl⟩
  ·rw[decide_eq_false h0,decide_eq_true (show (0:Int)≤t by omega)]
   by_cases h1:t < (p.2.length:Int)
   ·rw[decide_eq_true h1,decide_eq_false (show ¬t≥Int.ofNat p.2.length from by show ¬t≥(p.2.length:Int);omega)]
    exact ⟨rfl,rfl⟩
   ·rw[decide_eq_false h1,decide_eq_true (show t≥Int.ofNat p.2.length from by show t≥(p.2.length:Int);omega)]
    exact ⟨rfl,rfl⟩
 ·have e1:(checkC p !=0)=true:=by simpa using hc
  rw[e1,decide_eq_false hc,Bool.and_false,Bool.and_false]
  exact ⟨rfl,rfl⟩
theorem ZCv {p:El Zc} (hF:CutF p) (t:Int) {pts:List Int} (hp:pts.length < 1000000000):ZbB p t pts=true∧ZbF p t pts=(rightT p t&&decide (((allT p t).filter (uB (thrT p t) pts)).length=0)):=by
 obtain ⟨r1,r2⟩:=ZOC (smallA hF.small).prog t
 unfold ZbB ZbF
 rw[r1,r2]
 cases hr:rightT p t with
 | false=>exact ⟨rfl,rfl⟩
 | true=>
  obtain ⟨f1,f2,_⟩:=hF.flow t hr
  have hl:=ZL2 hF t
  have h2:ZcH (List.getD p.2 (Int.toNat t) (dflt (.sl Za))) (ZhU (Zk p) t) pts=true:=by
   show ZcH (thrT p t) (allT p t) pts=true
   unfold ZcH
   rw[f1,decide_eq_true (show pts.length < 4611686018427387904 by omega),decide_eq_true (show (allT p t).length < 1000000000000 by omega)];rfl
  have h3:Zog (Zk p) t=true:=decide_eq_true (by have:=hF.lp;omega)
  have hv:Zjw (List.getD p.2 (Int.toNat t) (dflt (.sl Za))) (ZhU (Zk p) t) pts=(allT p t).filter (uB (thrT p t) pts):=rfl
  rw[f2,hF.kd,hF.eq,h3,h2,hv,len0]
  exact ⟨rfl,rfl⟩
theorem ZF4 {p:El Zc} (hF:CutF p) {t:Int} (hr:rightT p t=true) {pts:List Int} (hp:pts.length < 1000000000):ZbB p t pts=true∧(ZbF p t pts=true↔CovL (uB (thrT p t)) (allT p t) pts):=by
 obtain ⟨h1,h2⟩:=ZCv hF t hp
 refine ⟨h1,?_⟩
 rw[h2,hr,Bool.true_and,decide_eq_true_eq,ZNo]
theorem ZKP {U:List Int→PairD→Bool} {n:Nat} {all:List PairD} {pts:List Int} :(pruneV U n all pts).length≤pts.length:=by
 unfold pruneV
 have h1:=(Zxb (U:=U) (all:=all) [] (putsL [] (pts.filter (inR n)))).1
 have h2:(putsL [] (pts.filter (inR n))).length≤(pts.filter (inR n)).length:=by rw[←ZLa];exact ZGe
 have h3:=List.length_filter_le (inR n) pts
 simp only[List.length_nil,Nat.zero_add] at h1
 omega
theorem ZI9 {α:Type} (U:List Int→α→Bool) (n:Nat):∀(f:Nat) (pts:List Int) (l:List α),(greedyL U n f pts l).length≤f+pts.length:=by
 intro f
 induction f with
 | zero=>intro pts l;rw[greedyL];omega
 | succ f ih=>
  intro pts l
  rw[greedyL]
  split
  ·omega
  ·have:=ih (pts++[(bestG U n pts l).1]) (bestG U n pts l).2
   rw[List.length_append,List.length_singleton] at this
   omega
theorem ZzH (l:List Int):(putsL [] l).length≤l.length:=by rw[←ZLa];exact ZGe
theorem ZJB (U:List Int→PairD→Bool) (n:Nat) (l:List PairD):(greedyV U n l).length≤l.length:=by
 unfold greedyV
 have h1:=ZzH (greedyL U n l.length [] l)
 have h2:=ZI9 U n l.length [] l
 simp only[List.length_nil,Nat.add_zero] at h2
 omega
theorem ZHM (U:List Int→PairD→Bool) (n:Nat) (all op:List PairD):(pointsV U n all op).length≤op.length:=by
 unfold pointsV
 refine Nat.le_trans (ZKy _ _).2 (Nat.le_trans ZKP ?_)
 rw[List.length_map]
 exact Nat.le_refl _
end Go.Ev
end

section
namespace Go.Ev
open Go
theorem ZNi {l:List (List (El Za))} {n:Nat} (h:∀t∈l,List.length t≤n):total l≤n*l.length:=by
 unfold total
 induction l with
 | nil=>simp
 | cons t l ih=>
  rw[List.map_cons,List.sum_cons,List.length_cons,Nat.mul_add,Nat.mul_one]
  have h1:=h t (List.mem_cons_self ..)
  have h2:=ih fun x hx=>h x (List.mem_cons_of_mem _ hx)
  omega
theorem ZQy {p:El Zc} :(ofC p).length≤2*total p.2:=by
 have:=ZFS 0 p.2
 unfold ofC
 split
 ·exact this
 ·simp
theorem ZO3 (l:List (List (El Zs))) {threads many:Int} (h0:0≤threads) (h1:threads≤64) (m0:0≤many) (m1:many≤90):
  smallAll (Zp l threads many)=true∧(Zp l threads many).2.length≤threads.toNat∧(ofC (Zp l threads many)).length≤11648∧checkC (Zp l threads many)=0∧Zfc l threads many=true:=by
 obtain ⟨hc,hs,hk⟩:=ZMp l h0 h1 m0 m1
 have hl:(Zp l threads many).2.length≤threads.toNat:=by
  show ((l.take threads.toNat).map fun a=>threadB a (min a.length many.toNat)).length≤_
  rw[List.length_map,List.length_take];omega
 have ht:=ZNi (l:=(Zp l threads many).2) (n:=91) fun t hm=>by
  obtain ⟨a,_,rfl⟩:=List.mem_map.1 (show t∈(l.take threads.toNat).map fun a=>threadB a (min a.length many.toNat) from hm)
  show (threadB a _).length≤91
  unfold threadB
  rw[Zcc,Zrh a _ (by omega)]
  omega
 have ho:= @ZQy (Zp l threads many)
 refine ⟨?_,hl,by omega,hc,hk⟩
 unfold smallAll
 simp only[Bool.and_eq_true,decide_eq_true_eq]
 exact ⟨hs,by omega,by omega⟩
end Go.Ev
end

section
namespace Go.Ev
open Go
theorem ZPj (l:List (List (El Zs))) {threads many:Int} (h0:0≤threads) (h1:threads≤64) (m0:0≤many) (m1:many≤90):cutOK (Zp l threads many)=true∧checkC (Zp l threads many)=0∧Zfc l threads many=true:=by
 obtain ⟨a1,a2,a3,a4,a5⟩:=ZO3 l h0 h1 m0 m1
 refine ⟨?_,a4,a5⟩
 unfold cutOK
 rw[a1,decide_eq_true (show (ofC (Zp l threads many)).length≤20000 by omega),decide_eq_true (show (Zp l threads many).2.length≤100 by omega)]
 rfl
end Go.Ev
end

section
open Go
namespace Go.Ev
def bothPairs:List PairD:=[((0:Int),((0:Int),(1:Int))),((1:Int),((0:Int),(1:Int)))]
theorem alive25:ZhF=true∧Zh6=true:=by
 obtain ⟨p,hp⟩:∃p,Zl=p:=⟨_,rfl⟩
 have hs:cutOK Zl=true:=by decide+kernel
 have hF:=Zq7 hs
 have vp:Zk Zl=bothPairs:=by
  rw[←hF.eq,ZO2]
  decide+kernel
 have op:∀x:El Zd,x∈ZH Zl→openB Zl x=(decide (0≤x.2.2∧x.2.2 < ((List.getD Zl.2 (Int.toNat x.1) (dflt (.sl Za))).length:Int))&&endsX (List.getD Zl.2 (Int.toNat x.1) (dflt (.sl Za))) [] x.2.1 x.2.2.toNat):=fun x hx=>by
  obtain ⟨s,r,h1,h2,_,_,rfl⟩:=Zzd hx
  obtain ⟨_,_,hf,_⟩:=Zgl hF.small h1
  have hf':flowOK (List.getD Zl.2 (Int.toNat (delPair (ofC Zl) s r).1) (dflt (.sl Za)))=true:=hf
  obtain ⟨_,_,_,f4⟩:=ZDG hf' (points:=[]) (by decide) (delPair (ofC Zl) s r).2.1 (delPair (ofC Zl) s r).2.2
  unfold openB
  rw[f4,ZLA]
 have vo:Zm Zl=bothPairs:=by
  unfold Zm
  rw[hF.eq,vp] at op
  rw[vp,List.filter_congr op]
  decide+kernel
 have r0:rightT Zl 0=true:=by decide+kernel
 have r1:rightT Zl 1=true:=by decide+kernel
 have r2:rightT Zl 2=false:=by decide+kernel
 have c0:checkC Zl=0:=by decide+kernel
 have a0:allT Zl 0=[((0:Int),((0:Int),(1:Int)))]:=by unfold allT;rw[vp];decide+kernel
 have o0:opT Zl 0=[((0:Int),((0:Int),(1:Int)))]:=by unfold opT;rw[vo];decide+kernel
 have o1:opT Zl 1=[((1:Int),((0:Int),(1:Int)))]:=by unfold opT;rw[vo];decide+kernel
 obtain ⟨kP,vP⟩:=ZC0 hF 0
 rw[if_pos r0,a0,o0,ZP0] at vP
 have vP:Za1 Zl 0=[1]:=by rw[vP];decide+kernel
 obtain ⟨kC,vC⟩:=Zxj hF 0 (pts:=[1]) (by decide)
 rw[r0,a0,ZP0] at vC
 have vC:ZaY Zl 0 [1]=true:=by rw[vC];decide+kernel
 obtain ⟨kN,vN⟩:=Zxj hF 0 (pts:=[]) (by decide)
 rw[r0,a0,ZP0] at vN
 have vN:ZaY Zl 0 []=false:=by rw[vN];decide+kernel
 obtain ⟨kM,vM⟩:=Zxj hF 2 (pts:=[]) (by decide)
 rw[r2,Bool.false_and] at vM
 have kA:ZeL Zl 1=true:=hs
 have vA:ZaV Zl 1=[1]:=by
  unfold ZaV
  rw[if_pos r1,o1]
  decide+kernel
 have kL:Zoj Zl=true:=hs
 have vL:(Zjk Zl).length=2:=by
  unfold Zjk
  rw[if_pos c0,List.length_map,List.length_range]
  decide+kernel
 have e1:ZaO [1] [(1:Int)]=true:=by decide
 have e2:ZaC [1] [(1:Int)]=true:=by decide
 unfold ZhF Zh6
 simp only[kP,vP,kC,vC,kN,vN,kM,vM,kA,vA,kL,vL,e1,e2]
 exact ⟨by decide,by decide⟩
end Go.Ev
end

section
open Go
namespace Go.Ev
def ZiG (l:List (List (El Zs))):Bool:=true
def Zok (l:List (List (El Zs))):Bool:=true
theorem Zw4 (l:List (List (El Zs))) (hk:Zok l=true):Goes (Zdl l) (Zh5 l) (ZiG l):=by
 obtain ⟨ka,va⟩:=alive25
 obtain ⟨hc,hch,hkb⟩:=ZPj l (threads:=3) (many:=7) (by decide) (by decide) (by decide) (by decide)
 have hF:=Zq7 hc
 have hT:=hF.thr
 have loop:∀k,k≤(Zp l 3 7).2.length→Goes (Zdl l) (.jmp (.l4 (k:Int))) true:=by
  refine down ?_ fun k hk ih=>?_
  ·rw[Zi,Zdl,Ze,if_neg (by rw[Zx (Nat.lt_irrefl _)];decide),Ze,if_pos ka,va]
   exact .leaf
  ·have hr:rightT (Zp l 3 7) (k:Int)=true:=by
    unfold rightT
    rw[decide_eq_true (show (0:Int)≤(k:Int) by omega),decide_eq_true (show (k:Int) < ((Zp l 3 7).2.length:Int) by omega),decide_eq_true hch];rfl
   have hol:=ZE2 hF (k:Int)
   obtain ⟨k1,v1⟩:=ZC0 hF (k:Int)
   obtain ⟨k4,v4⟩:=ZMD hF (k:Int)
   have k2:ZeL (Zp l 3 7) (k:Int)=true:=hc
   have k3:Zqq (Zp l 3 7) (k:Int)=true:=hc
   have v2:ZaV (Zp l 3 7) (k:Int)=putsL [] ((opT (Zp l 3 7) (k:Int)).map fun x=>(show Int from x.2.1)+1):=by unfold ZaV;rw[if_pos hr]
   have v3:Zey (Zp l 3 7) (k:Int)=putsL [] ((opT (Zp l 3 7) (k:Int)).map fun x=>x.2.2):=by unfold Zey;rw[if_pos hr]
   rw[if_pos hr] at v1 v4
   have one:∀P:List Int,P.length≤400000000→CovL (uB (thrT (Zp l 3 7) (k:Int))) (allT (Zp l 3 7) (k:Int)) P→ZbB (Zp l 3 7) (k:Int) P=true∧ZbF (Zp l 3 7) (k:Int) P=true:=fun P hP hcv=>by
    obtain ⟨a,b⟩:=ZF4 hF hr (pts:=P) (by omega)
    exact ⟨a,b.2 hcv⟩
   obtain ⟨a1,b1⟩:=one (Za1 (Zp l 3 7) (k:Int)) (by rw[v1];exact Nat.le_trans (ZHM _ _ _ _) hol) (by rw[v1];exact ZL5 hF hr)
   obtain ⟨a2,b2⟩:=one (ZaV (Zp l 3 7) (k:Int)) (by rw[v2];exact Nat.le_trans (ZzH _) (by rw[List.length_map];exact hol)) (by rw[v2];exact ZHN hF fun x hx=>by rw[ZkY];exact .inr (List.mem_map.2 ⟨x,hx,rfl⟩))
   obtain ⟨a3,b3⟩:=one (Zey (Zp l 3 7) (k:Int)) (by rw[v3];exact Nat.le_trans (ZzH _) (by rw[List.length_map];exact hol)) (by rw[v3];exact ZHB hF fun x hx=>by rw[ZkY];exact .inr (List.mem_map.2 ⟨x,hx,rfl⟩))
   obtain ⟨a4,b4⟩:=one (ZeX (Zp l 3 7) (k:Int)) (by rw[v4];exact Nat.le_trans (ZJB _ _ _) hol) (by rw[v4];exact ZDx hF hr)
   rw[Zi,Zdl,Ze,if_pos (ZS hk),Ze,if_pos k1,Ze,if_pos a1,Ze,if_neg (by rw[b1];decide),Ze,if_pos k2,Ze,if_pos a2,Ze,if_neg (by rw[b2];decide),Ze,if_pos k3,Ze,if_pos a3,Ze,if_neg (by rw[b3];decide),Ze,if_pos k4,Ze,if_pos a4,Ze,if_neg (by rw[b4];decide),Zt (by omega)]
   exact ih
 unfold Zh5 ZiG
 rw[Ze,if_pos hkb]
 exact loop 0 (Nat.zero_le _)
end Go.Ev
end

section
open Go Go.Ev
namespace Go.Ev
noncomputable section
theorem ZvX (l:List (List (El Zs))) (hk:Zok l=true):CallOK Go.Proofs.Tryz.prog 4 (toForms Zab (l,())) (ZfP (ZiG l),tps (toForms Zab (l,()))):=by
 obtain ⟨h1,h2⟩:=Zqs Zvc
 obtain ⟨n,hn⟩:=Zn (c:=ZfR) (K:=fun v=>(ZfP v,tps (toForms Zab (l,())))) (S:=Zbw l) (by kernel_rfl) (Zwh l) (Zvo l) (Zw4 l hk)
 exact Zwo (f:=4) (c:=ZfR) h1 h2 (by kernel_rfl) (by kernel_rfl) (by kernel_rfl) hn
end
end Go.Ev
end

section
namespace Go.Ev
open Go
theorem Ztw (a:Args Zab) (ha:smallArgs Zab a):CallOK Go.Proofs.Tryz.prog Zu3 (toForms Zab a) (.d .bool true,tps (toForms Zab a)):=by
 obtain ⟨l,_⟩:=a
 exact ZvX l rfl
end Go.Ev
end

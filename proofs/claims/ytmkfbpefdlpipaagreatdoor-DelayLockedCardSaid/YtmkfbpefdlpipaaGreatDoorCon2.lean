/- Part of the proof of: In the programs that the book makes, with each instruction that writes locked, there is no delay; nor is there one where one of two threads alone touches memory: for every input the law answers true. -/
import Derived.Test.YtmkfbpefdlpipaaGreatDoorCon1
set_option maxRecDepth 100000
set_option linter.unusedSectionVars false
set_option linter.unusedVariables false
set_option linter.unusedSimpArgs false
section
open Go
namespace Go.Ev
end Go.Ev
end

section

end

section
open Go
namespace Go.Ev
def stB' (l:List Acc) (s:Nat):Bool:=(accA l s).2.2.2.2.1&& ! (accA l s).2.2.2.2.2
def ldB' (l:List Acc) (s:Nat):Bool:=! (accA l s).2.2.2.2.1&& ! (accA l s).2.2.2.2.2
noncomputable def delB (p:El Zc) (l:List Acc) (s r:Nat):Bool:=((thA l r==thA l s)&&ldB' l r)&&(fromB (thrOf p l s) (inA l s) (inA l r).toNat&&backB p l r s)
def delPair (l:List Acc) (s r:Nat):El Zg:=(thA l s,(inA l s,inA l r))
noncomputable def delS (p:El Zc) (l:List Acc) (s:Nat):List (El Zg):=if stB' l s then ((List.range' 0 l.length).filter fun r=>delB p l s r).map (delPair l s) else []
noncomputable def delsFrom (p:El Zc) (l:List Acc) (s:Nat):List (El Zg):=(List.range' s (l.length - s)).flatMap (delS p l)
noncomputable def ZZ (p:El Zc):List (El Zg):=delsFrom p (ofC p) 0
def ZgM (p:El Zc):Bool:=smallAll p&&decide ((ofC p).length < 1000000)
theorem ZEf (p:El Zc) (l:List Acc) (s:Nat):(delS p l s).length≤l.length:=by
 unfold delS
 split
 ·rw[List.length_map]
  have:=List.length_filter_le (fun r=>delB p l s r) (List.range' 0 l.length)
  rw[List.length_range'] at this
  exact this
 ·exact Nat.zero_le _
end Go.Ev
end

section
open Go
namespace Go.Ev
theorem Zzd {n:Nat} (hn:n < 4611686018427387904) {B:Nat→Bool} :∀(xs:List Nat) (d:SetD) (M:Nat→Bool),(∀x∈xs,x < n)→SetOK d n M→SetOK (putAll d (xs.map Int.ofNat)) n fun k=>M k || xs.contains k
 | [],d,M,_,h=>h.congr' fun j=>by simp
 | x :: xs,d,M,hx,h=>by
  have h1:=(h.putO hn (hx x (by simp))).2
  have h2:=Zzd (B:=B) hn xs _ _ (fun y hy=>hx y (by simp[hy])) h1
  refine h2.congr' fun j=>?_
  rw[List.contains_cons,Bool.or_assoc]
theorem Zs9 {n:Nat} (hn:n < 4611686018427387904) {B:Nat→Bool} :SetOK (putAll ((n:Int),[]) (listOf n B)) n fun k=>decide (k < n)&&B k:=by
 have:=Zzd (B:=B) hn ((List.range n).filter B) ((n:Int),[]) _ (fun x hx=>List.mem_range.1 (List.mem_filter.1 hx).1) (SetOK.new n)
 refine this.congr' fun j=>?_
 rw[Bool.false_or,Bool.eq_iff_iff,List.contains_iff_mem,List.mem_filter,List.mem_range,Bool.and_eq_true,decide_eq_true_eq]
theorem ZEC {n:Nat} (hn:n < 4611686018427387904):Zq (Int.ofNat n)=((n:Int),[]):=by
 unfold Zq
 simp
 omega
section
variable {p:El Zc}
theorem ZEK (hk:ZH p=true) {r:Nat} (hr:r < (ofC p).length):SetOK (dBack p (ofC p) (r:Int)) (ofC p).length fun k=>decide (k < (ofC p).length)&&backB p (ofC p) r k:=by
 obtain ⟨hs,hd⟩:=delayOK hk
 have hn:(ofC p).length < 4611686018427387904:=Nat.lt_trans hd.len (by decide)
 unfold dBack
 rw[ZEC hn]
 unfold Za1
 rw[if_pos ⟨Int.natCast_nonneg r,Int.ofNat_lt.2 hr⟩,Int.toNat_natCast]
 exact Zs9 hn
theorem ZFl (hk:ZH p=true) {s r:Nat} (hs:s < (ofC p).length) (hr:r < (ofC p).length) (ht:thA (ofC p) r=thA (ofC p) s):
  hitP p (ofC p) (s:Int) (frS p (ofC p) (thA (ofC p) s) (s:Int)) (r:Int)=(fromB (thrOf p (ofC p) s) (inA (ofC p) s) (inA (ofC p) r).toNat&&backB p (ofC p) r s):=by
 obtain ⟨hsm,hd⟩:=delayOK hk
 have hn:(ofC p).length < 4611686018427387904:=Nat.lt_trans hd.len (by decide)
 obtain ⟨t0,t1,hf,i0,i1⟩:=Zmh hsm hs
 obtain ⟨_,_,_,j0,j1⟩:=Zmh hsm hr
 have et:thrOf p (ofC p) r=thrOf p (ofC p) s:=by unfold thrOf;rw[ht]
 rw[et] at j1
 have hlen:(thrOf p (ofC p) s).length < 4611686018427387904:=Nat.lt_trans (ZeF hf) (by decide)
 have e1:frS p (ofC p) (thA (ofC p) s) (s:Int)=putAll (((thrOf p (ofC p) s).length:Int),[]) (listOf (thrOf p (ofC p) s).length (fromB (thrOf p (ofC p) s) (inA (ofC p) s))):=by
  unfold frS
  rw[show insP p (thA (ofC p) s)=thrOf p (ofC p) s from rfl,ZEC hlen]
  rfl
 have h1:=Zs9 hlen (B:=fromB (thrOf p (ofC p) s) (inA (ofC p) s))
 rw[←e1] at h1
 have h2:=ZEK hk hr
 have e2:∀(x:SetD) (i:Int),(Zk x i).1=hasS x i:=fun _ _=>rfl
 have g1:(Zk (frS p (ofC p) (thA (ofC p) s) (s:Int)) (inA (ofC p) r)).1=fromB (thrOf p (ofC p) s) (inA (ofC p) s) (inA (ofC p) r).toNat:=by
  rw[e2,h1.has hlen,decide_eq_true j0,decide_eq_true (show (inA (ofC p) r).toNat < (thrOf p (ofC p) s).length by omega),Bool.true_and,Bool.true_and]
 have g2:(Zk (dBack p (ofC p) (r:Int)) (s:Int)).1=backB p (ofC p) r s:=by
  rw[e2,h2.has hn,decide_eq_true (Int.natCast_nonneg s),Int.toNat_natCast,decide_eq_true hs,Bool.true_and,Bool.true_and]
 unfold hitP
 rw[g2]
 have:(Zk (frS p (ofC p) (thA (ofC p) s) (s:Int)) (List.getD (ofC p) (Int.toNat (r:Int)) (dflt Zb)).2.1).1=fromB (thrOf p (ofC p) s) (inA (ofC p) s) (inA (ofC p) r).toNat:=by
  rw[Int.toNat_natCast]
  exact g1
 rw[this]
end
theorem Zkd {α β:Type} {f g:α→List β} {l:List α} (h:∀x∈l,f x=g x):l.flatMap f=l.flatMap g:=by
 rw[List.flatMap_def,List.flatMap_def,List.map_congr_left h]
theorem ZEy {α β:Type} {key:α→Nat} {D:α→List β} :∀(T:Nat) (L:List α),L.Pairwise (fun a b=>key a≤key b)→(∀x∈L,key x < T)→((List.range T).flatMap fun t=>(L.filter fun x=>key x==t).flatMap D)=L.flatMap D
 | 0,L,_,h=>by
  cases L with
  | nil=>rfl
  | cons x L=>exact absurd (h x (by simp)) (Nat.not_lt_zero _)
 | T+1,L,hp,h=>by
  have split:∀L:List α,L.Pairwise (fun a b=>key a≤key b)→(∀x∈L,key x < T+1)→L=(L.filter fun x=>decide (key x < T))++L.filter fun x=>key x==T:=by
   intro L
   induction L with
   | nil=>intros;rfl
   | cons x L ih=>
    intro hp h
    obtain ⟨p1,p2⟩:=List.pairwise_cons.1 hp
    have ih:=ih p2 fun y hy=>h y (by simp[hy])
    by_cases hx:key x < T
    ·have hx':(key x==T)=false:=by rw[beq_eq_false_iff_ne];omega
     rw[List.filter_cons_of_pos (by simpa using hx),List.filter_cons_of_neg (by rw[hx'];exact Bool.false_ne_true),List.cons_append,←ih]
    ·have hk:key x=T:=by have:=h x (by simp);omega
     have hnone:L.filter (fun x=>decide (key x < T))=[]:=List.filter_eq_nil_iff.2 fun y hy=>by have:=p1 y hy;simp;omega
     rw[List.filter_cons_of_neg (by simpa using hx),List.filter_cons_of_pos (by simpa using hk),hnone,List.nil_append]
     rw[hnone,List.nil_append] at ih
     rw[←ih]
  have e:=split L hp h
  rw[List.range_succ,List.flatMap_append]
  have h1:((List.range T).flatMap fun t=>(L.filter fun x=>key x==t).flatMap D)=(L.filter fun x=>decide (key x < T)).flatMap D:=by
   rw[←ZEy T (L.filter fun x=>decide (key x < T)) (hp.sublist List.filter_sublist) fun x hx=>by simpa using (List.mem_filter.1 hx).2]
   refine Zkd fun t ht=>?_
   rw[List.filter_filter]
   congr 1
   refine List.filter_congr fun x hx=>?_
   have:=List.mem_range.1 ht
   by_cases hk:key x=t
   ·simp[hk,this]
   ·simp[hk]
  rw[h1]
  simp only[List.flatMap_cons,List.flatMap_nil,List.append_nil]
  rw[←List.flatMap_append,←e]
theorem ZCr {α β γ:Type} {g:β→List γ} {f:α→β} {P H:α→Bool} {q:α→γ} :∀(l:List α),(∀x∈l,P x=true→g (f x)=if H x=true then [q x] else [])→((l.filter P).map f).flatMap g=(l.filter fun x=>P x&&H x).map q
 | [],_=>rfl
 | x :: l,h=>by
  have ih:=ZCr l fun y hy=>h y (by simp[hy])
  cases hP:P x with
  | false=>rw[List.filter_cons_of_neg (by simp[hP]),List.filter_cons_of_neg (by simp[hP]),ih]
  | true=>
   rw[List.filter_cons_of_pos hP,List.map_cons,List.flatMap_cons,h x (by simp) hP,ih]
   cases hH:H x with
   | false=>rw[List.filter_cons_of_neg (by simp[hP,hH])];simp
   | true=>rw[List.filter_cons_of_pos (by simp[hP,hH])];simp
theorem Zot {α β:Type} {P:α→Bool} {D:α→List β} :∀(l:List α),(l.flatMap fun x=>if P x=true then D x else [])=(l.filter P).flatMap D
 | []=>rfl
 | x :: l=>by
  cases hP:P x with
  | false=>rw[List.filter_cons_of_neg (by simp[hP]),List.flatMap_cons,Zot l];simp[hP]
  | true=>rw[List.filter_cons_of_pos hP,List.flatMap_cons,List.flatMap_cons,Zot l];simp[hP]
theorem ZFs {p:El Zc} {a b:Nat} (ha:a < (ofC p).length) (hb:b < (ofC p).length) (h:a < b):thA (ofC p) a≤thA (ofC p) b:=by
 have ho:=List.pairwise_iff_getElem.1 (ZE4 p) a b ha hb h
 have ga:accA (ofC p) a=(ofC p)[a]:=by unfold accA;rw[Z4 ha]
 have gb:accA (ofC p) b=(ofC p)[b]:=by unfold accA;rw[Z4 hb]
 rw[←ga,←gb] at ho
 have:∀t k q t' k' q':Int,ltNX t k q t' k' q'→t≤t':=fun t k q t' k' q' h=>by
  rcases h with h | ⟨h,_⟩ <;> omega
 exact this _ _ _ _ _ _ ho
theorem ZCs {p:El Zc} (hk:ZH p=true):Zo p=ZZ p:=by
 obtain ⟨hsm,hd⟩:=delayOK hk
 have facts:=fun i=>Zmh (i:=i) hsm
 have hits:=fun s r=>ZFl (s:=s) (r:=r) hk
 have keys:=fun a b=>ZFs (p:=p) (a:=a) (b:=b)
 unfold Zo ZZ delsFrom outN
 generalize ofC p=l at facts hits keys
 rw[Nat.sub_zero,←List.range_eq_range']
 have hD:∀s,delS p l s=if stB' l s=true then ((List.range l.length).filter fun r=>delB p l s r).map (delPair l s) else []:=fun s=>by
  unfold delS
  rw[←List.range_eq_range']
 rw[Zkd fun s _=>hD s,Zot]
 refine Eq.trans ?_ (ZEy (key:=fun s=>(thA l s).toNat) p.2.length ((List.range l.length).filter fun s=>stB' l s) ?_ ?_)
 ·refine Zkd fun t ht=>?_
  have ht:=List.mem_range.1 ht
  rw[List.filter_filter]
  unfold outT ZB listOf
  rw[List.flatMap_map]
  have hf:(List.range l.length).filter (plB l (t:Int) true)=(List.range l.length).filter fun s=>((thA l s).toNat==t)&&stB' l s:=by
   refine List.filter_congr fun s hs=>?_
   obtain ⟨t0,_⟩:=facts s (List.mem_range.1 hs)
   unfold plB stB'
   rw[Bool.and_assoc]
   have e:(((List.getD l s (dflt Zb)).1:Int)==(t:Int))=((thA l s).toNat==t):=by
    show (thA l s==(t:Int))=_
    rw[Bool.eq_iff_iff,beq_iff_eq,beq_iff_eq]
    omega
   have e2:((List.getD l s (dflt Zb)).2.2.2.2.1==true)=(accA l s).2.2.2.2.1:=by
    show ((accA l s).2.2.2.2.1==true)=_
    cases (accA l s).2.2.2.2.1 <;> rfl
   rw[e2]
   exact congrArg (· &&_) e
  rw[hf]
  refine Zkd fun s hs=>?_
  obtain ⟨hs1,hs2⟩:=List.mem_filter.1 hs
  have hsN:=List.mem_range.1 hs1
  rw[Bool.and_eq_true,beq_iff_eq] at hs2
  obtain ⟨t0,_⟩:=facts s hsN
  have hth:thA l s=(t:Int):=by have:=hs2.1;omega
  unfold outS ZB listOf
  rw[ZCr (H:=fun r=>fromB (thrOf p l s) (inA l s) (inA l r).toNat&&backB p l r s) (q:=delPair l s)]
  ·congr 1
   refine List.filter_congr fun r hr=>?_
   unfold plB delB ldB'
   have e1:(((List.getD l r (dflt Zb)).1:Int)==(t:Int))=(thA l r==thA l s):=by rw[hth];rfl
   have e2:((List.getD l r (dflt Zb)).2.2.2.2.1==false)=! (accA l r).2.2.2.2.1:=by
    show ((accA l r).2.2.2.2.1==false)=_
    cases (accA l r).2.2.2.2.1 <;> rfl
   rw[e2,←Bool.and_assoc (thA l r==thA l s)]
   exact congrArg (fun x=>x&&_&&_&&_) e1
  ·intro r hr hP
   have hrN:=List.mem_range.1 hr
   unfold plB at hP
   rw[Bool.and_eq_true,Bool.and_eq_true] at hP
   have hth2:thA l r=(t:Int):=by have:=hP.1.1;exact eq_of_beq this
   have:=hits s r hsN hrN (hth2.trans hth.symm)
   rw[hth] at this
   show oneP p l (t:Int) (s:Int) (frS p l (t:Int) (s:Int)) (r:Int)=_
   unfold oneP
   rw[this]
   unfold delPair
   rw[hth]
   rfl
 ·refine List.Pairwise.filter _ ?_
  refine List.pairwise_lt_range.imp_of_mem fun {a b} ha hb h=>?_
  have:=keys a b (List.mem_range.1 ha) (List.mem_range.1 hb) h
  omega
 ·intro s hs
  obtain ⟨t0,t1,_⟩:=facts s (List.mem_range.1 (List.mem_filter.1 hs).1)
  omega
end Go.Ev
end

section
open Go
namespace Go.Ev
end Go.Ev
end

section
open Go
namespace Go.Ev
def Zl2 (a b:List Int):Bool:=decide (a=b)
def ZlQ (a b:List Int):Bool:=decide (a.length < 4611686018427387904)
end Go.Ev
end

section
open Go
namespace Go.Ev
theorem Zy0 {n:Nat} {M:Nat→Bool} :(listOf n M).length≤n:=by rw[Zfr];exact Zfa
theorem Zsk {n:Nat} {M:Nat→Bool} {x:Int} :(listOf n M).contains x=(decide (0≤x∧x < (n:Int))&&M x.toNat):=by
 rw[Bool.eq_iff_iff,List.contains_iff_mem,Zbq]
 simp only[Bool.and_eq_true,decide_eq_true_eq]
 constructor
 ·rintro ⟨i,h1,h2,rfl⟩;exact ⟨by omega,by rw[Int.toNat_natCast];exact h2⟩
 ·rintro ⟨h1,h2⟩;exact ⟨x.toNat,by omega,h2,by omega⟩
theorem ZCE {l:List Int} (h:l.length < 1099511627776):ZlQ l l=true∧Zl2 l l=true:=⟨decide_eq_true (by omega),decide_eq_true rfl⟩
theorem ZCU {t:List (El Za)} {points:List Int} (h:flowOK t=true) (hp:points.length < 4611686018427387904) (s:Int):
  Zb4 t points s=true∧ZlQ (Z2 t points s) (Z2 t points s)=true∧Zl2 (Z2 t points s) (Z2 t points s)=true:=by
 have k1:Zb4 t points s=true:=by unfold Zb4;rw[h,decide_eq_true hp];rfl
 have hl:=ZeF h
 exact ⟨k1,ZCE (by unfold Z2;have:= @Zy0 t.length (endsB t points s);omega)⟩
theorem ZCg {t:List (El Za)} {points:List Int} (h:flowOK t=true) (hp:points.length < 4611686018427387904) (s l:Int):
  Zef t points s l=true∧Zcg t points s l=(decide (0≤l∧l < (t.length:Int))&&endsB t points s l.toNat):=by
 obtain ⟨k1,_⟩:=ZCU h hp s
 have hl:=ZeF h
 have ki:Zac (Z2 t points s) l=true:=decide_eq_true (by unfold Z2;have:= @Zy0 t.length (endsB t points s);omega)
 have vr:Zcg t points s l=(decide (0≤l∧l < (t.length:Int))&&endsB t points s l.toNat):=by
  unfold Zcg ZR Zag
  rw[k1,ki]
  simp only[cond_true]
  unfold Zau
  rw[ZxP]
  unfold Z2
  exact Zsk
 refine ⟨?_,vr⟩
 unfold Zef ZR;rw[k1,ki];rfl
end Go.Ev
end

section
open Go
namespace Go.Ev
end Go.Ev
end

section

end

section
open Go Go.Ev
namespace Go.Ev
noncomputable section
end
end Go.Ev
end

section
open Go
namespace Go.Ev
end Go.Ev
end

section
open Go
namespace Go.Ev
noncomputable def Zdf (t:List (El Za)) (points:List Int) (s:Int):List Bool:=rowOf t.length (endsB t points s)
def Zkn (t:List (El Za)) (points:List Int) (s:Int):Bool:=flowOK t&&decide (points.length < 4611686018427387904)
end Go.Ev
end

section
namespace Go.Ev
open Go
end Go.Ev
end

section
namespace Go.Ev
open Go
end Go.Ev
end

section

end

section
open Go Go.Ev
namespace Go.Ev
noncomputable section
def Zor (t:List (El Za)) (points:List Int) (s:Int) (l:Int):Bool:=bif (decide (l≥(0:Int))) then bif (decide (l < (Int.ofNat (List.length t)))) then bif (Zkn t points s) then bif ((decide ((0:Int)≤l))&&(decide (l < (Int.ofNat (List.length (Zdf t points s)))))) then (List.getD (Zdf t points s) (Int.toNat l) (dflt .bool)) else false else false else false else false
def Zoj (t:List (El Za)) (points:List Int) (s:Int) (l:Int):Bool:=bif (decide (l≥(0:Int))) then bif (decide (l < (Int.ofNat (List.length t)))) then bif (Zkn t points s) then bif ((decide ((0:Int)≤l))&&(decide (l < (Int.ofNat (List.length (Zdf t points s)))))) then true else false else false else true else true
end
end Go.Ev
end

section
open Go
namespace Go.Ev
theorem ZA2 {t:List (El Za)} {points:List Int} (h:flowOK t=true) (hp:points.length < 4611686018427387904) (s l:Int):
  Zef t points s l=true∧Zoj t points s l=true∧Zor t points s l=Zcg t points s l∧Zcg t points s l=(decide (0≤l∧l < (t.length:Int))&&endsB t points s l.toNat):=by
 have hl:=ZeF h
 have k4:Zkn t points s=true:=by unfold Zkn;rw[h,decide_eq_true hp];rfl
 obtain ⟨kr,vr⟩:=ZCg h hp s l
 refine ⟨kr,?_,?_,vr⟩
 ·unfold Zoj
  by_cases h0:l≥0
  ·rw[decide_eq_true h0,cond_true]
   by_cases h1:l < Int.ofNat t.length
   ·have h2:decide (l < Int.ofNat (Zdf t points s).length)=true:=by
     unfold Zdf
     rw[ZqS];exact decide_eq_true h1
    simp only[decide_eq_true h1,k4,h2,Bool.and_self,Bool.true_and,cond_true]
   ·rw[decide_eq_false h1];rfl
  ·rw[decide_eq_false h0];rfl
 ·rw[vr]
  unfold Zor
  by_cases h0:l≥0
  ·rw[decide_eq_true h0,cond_true]
   by_cases h1:l < Int.ofNat t.length
   ·have h2:decide (l < Int.ofNat (Zdf t points s).length)=true:=by
     unfold Zdf
     rw[ZqS];exact decide_eq_true h1
    simp only[decide_eq_true h1,k4,h2,Bool.and_self,Bool.true_and,cond_true]
    rw[decide_eq_true (show 0≤l∧l < (t.length:Int) from ⟨h0,h1⟩),Bool.true_and]
    unfold Zdf
    obtain ⟨j,rfl⟩:=Int.eq_ofNat_of_zero_le h0
    rw[Int.toNat_natCast,ZB2 (by have:(j:Int) < (t.length:Int):=h1;omega)]
   ·rw[decide_eq_false h1,decide_eq_false (show ¬(0≤l∧l < (t.length:Int)) from fun h=>h1 h.2)];rfl
  ·rw[decide_eq_false h0,decide_eq_false (show ¬(0≤l∧l < (t.length:Int)) from fun h=>h0 h.1)];rfl
end Go.Ev
end

section

end

section
open Go
namespace Go.Ev
noncomputable def openR (p:El Zc) (x:El Zg):Bool:=Zor (List.getD p.2 (Int.toNat x.1) (dflt (.sl Za))) [] x.2.1 x.2.2
noncomputable def openRK (p:El Zc) (x:El Zg):Bool:=(decide ((0:Int)≤x.1)&&decide (x.1 < Int.ofNat (List.length p.2)))&&Zoj (List.getD p.2 (Int.toNat x.1) (dflt (.sl Za))) [] x.2.1 x.2.2
noncomputable def Zn2 (p:El Zc):List (El Zg):=(ZZ p).filter (openR p)
noncomputable def Zoa (p:El Zc):Bool:=ZgM p&&(decide ((ZZ p).length < 10000000000)&&(ZZ p).all (openRK p))
end Go.Ev
end

section
open Go
namespace Go.Ev
end Go.Ev
end

section
open Go
namespace Go.Ev
def fromX (t:List (El Za)) (i:Int) (j:Nat):Bool:=(comeL (fun k j=>nextB t (k:Int) j) (nextB t i) t.length).getD j false
theorem ZBa (t:List (El Za)) (i:Int) (j:Nat):fromB t i j=fromX t i j:=ZwY (fun j=>Zfe) (fun k j=>Zfe) j
def behX (p:El Zc) (l:List Acc) (c d:Nat):Bool:=
 decide (d < l.length)&&(thA l d==thA l c&&(d==c || ((inA l d==inA l c&&decide (paA l d > paA l c)) || (decide (0≤inA l d)&&fromX (thrOf p l c) (inA l c) (inA l d).toNat))))
theorem ZEL (p:El Zc) (l:List Acc) (c d:Nat):behB p l c d=behX p l c d:=by
 unfold behB behX
 rw[ZBa]
def chX (p:El Zc) (l:List Acc) (a i k:Nat):Bool:=decide (k < l.length)&&(!(thA l k==thA l a)&&(clB l i k || behX p l i k))
def isX (p:El Zc) (l:List Acc) (a k:Nat):Bool:=(comeL (chX p l a) (chS l a) l.length).getD k false
theorem ZFj (p:El Zc) (l:List Acc) (a k:Nat):isB p l a k=isX p l a k:=by
 have e:chB p l a=chX p l a:=by
  funext i k
  unfold chB chX
  rw[ZEL]
 unfold isB isX
 rw[e]
 refine ZwY (fun j h=>?_) (fun k j h=>?_) k
 ·unfold chS at h
  rw[Bool.and_eq_true,decide_eq_true_eq] at h
  exact h.1
 ·unfold chX at h
  rw[Bool.and_eq_true,decide_eq_true_eq] at h
  exact h.1
def backX (p:El Zc) (l:List Acc) (a b:Nat):Bool:=thA l b==thA l a&&(List.range l.length).any fun k=>isX p l a k&&clB l k b
theorem ZDT (p:El Zc) (l:List Acc) (a b:Nat):backB p l a b=backX p l a b:=by
 unfold backB backX
 simp only[ZFj]
end Go.Ev
end

section
open Go
namespace Go.Ev
theorem ZEd (p:El Zc):(ZZ p).length≤(ofC p).length*(ofC p).length:=by
 unfold ZZ delsFrom
 have:=Zlc (ZEf p (ofC p)) (List.range' 0 ((ofC p).length - 0))
 rw[List.length_range',Nat.sub_zero] at this
 exact this
theorem Zrq {p:El Zc} {x:El Zg} (h:x∈ZZ p):∃s r,s < (ofC p).length∧r < (ofC p).length∧stB' (ofC p) s=true∧delB p (ofC p) s r=true∧x=delPair (ofC p) s r:=by
 unfold ZZ delsFrom at h
 obtain ⟨s,hs,hx⟩:=List.mem_flatMap.1 h
 rw[Nat.sub_zero,←List.range_eq_range'] at hs
 unfold delS at hx
 split at hx
 ·rename_i hst
  obtain ⟨r,hr,rfl⟩:=List.mem_map.1 hx
  obtain ⟨hr1,hr2⟩:=List.mem_filter.1 hr
  rw[←List.range_eq_range'] at hr1
  exact ⟨s,r,List.mem_range.1 hs,List.mem_range.1 hr1,hst,hr2,rfl⟩
 ·cases hx
theorem Zsq {p:El Zc} (h:smallAll p=true) {x:El Zg} (hx:x∈ZZ p):openK p x=true∧openRK p x=true∧openR p x=openB p x:=by
 obtain ⟨s,r,hs,hr,h1,h2,rfl⟩:=Zrq hx
 obtain ⟨t0,t1,hf,i0,i1⟩:=Zmh h hs
 have hf':flowOK (List.getD p.2 (Int.toNat (delPair (ofC p) s r).1) (dflt (.sl Za)))=true:=hf
 obtain ⟨f1,f2,f3,_⟩:=ZA2 hf' (points:=[]) (by decide) (delPair (ofC p) s r).2.1 (delPair (ofC p) s r).2.2
 have hin:(decide ((0:Int)≤(delPair (ofC p) s r).1)&&decide ((delPair (ofC p) s r).1 < Int.ofNat (List.length p.2)))=true:=by
  rw[Bool.and_eq_true,decide_eq_true_eq,decide_eq_true_eq];exact ⟨t0,t1⟩
 unfold openK openRK openR openB
 rw[hin,f1,f2]
 exact ⟨rfl,rfl,f3⟩
theorem Zqc {p:El Zc} (h:smallAll p=true) (hN:(ofC p).length≤20000) (hT:p.2.length≤100):
  ZH p=true∧ZgM p=true∧ZZ p=Zo p∧Zam (Zo p) (Zo p)=true∧Zby p=true∧Zoa p=true∧Zn2 p=Z6 p∧Zam (Z6 p) (Z6 p)=true:=by
 have hNN:(ofC p).length*(ofC p).length≤20000*20000:=Nat.mul_le_mul hN hN
 have hTN:p.2.length*((ofC p).length*(ofC p).length)≤100*(20000*20000):=Nat.mul_le_mul hT hNN
 have k1:ZH p=true:=by
  unfold ZH
  rw[h,decide_eq_true (show (ofC p).length < 1000000000 by omega),decide_eq_true (show p.2.length < 1000000000 by omega),decide_eq_true]
  ·rfl
  ·unfold limit;omega
 have k2:ZgM p=true:=by unfold ZgM;rw[h,decide_eq_true (show (ofC p).length < 1000000 by omega)];rfl
 have e:=ZCs k1
 have hl:=ZEd p
 have hl2:(ZZ p).length≤400000000:=by omega
 have k3:Zby p=true:=by
  unfold Zby
  rw[k1,e,decide_eq_true (Nat.lt_of_le_of_lt hl2 (by decide)),Bool.true_and,Bool.true_and]
  exact List.all_eq_true.2 fun x hx=>(Zsq h hx).1
 have k4:Zoa p=true:=by
  unfold Zoa
  rw[k2,decide_eq_true (Nat.lt_of_le_of_lt hl2 (by decide)),Bool.true_and,Bool.true_and]
  exact List.all_eq_true.2 fun x hx=>(Zsq h hx).2.1
 have e2:Zn2 p=Z6 p:=by
  unfold Zn2 Z6
  rw[e]
  exact List.filter_congr fun x hx=>(Zsq h hx).2.2
 refine ⟨k1,k2,e.symm,decide_eq_true (by rw[e];exact Nat.lt_of_le_of_lt hl2 (by decide)),k3,k4,e2,decide_eq_true ?_⟩
 have:(Z6 p).length≤(Zo p).length:=by unfold Z6;exact List.length_filter_le _ _
 rw[e] at this
 exact Nat.lt_of_le_of_lt (Nat.le_trans this hl2) (by decide)
def delBX (p:El Zc) (l:List Acc) (s r:Nat):Bool:=((thA l r==thA l s)&&ldB' l r)&&(fromX (thrOf p l s) (inA l s) (inA l r).toNat&&backX p l r s)
def delsX (p:El Zc) (l:List Acc):List (El Zg):=(List.range' 0 l.length).flatMap fun s=>if stB' l s then ((List.range' 0 l.length).filter fun r=>delBX p l s r).map (delPair l s) else []
theorem ZEq (p:El Zc):ZZ p=delsX p (ofC p):=by
 unfold ZZ delsFrom delsX delS
 rw[Nat.sub_zero]
 have:∀l s r,delB p l s r=delBX p l s r:=fun l s r=>by unfold delB delBX;rw[ZBa,ZDT]
 simp only[this]
def endsX (t:List (El Za)) (points:List Int) (s:Int) (j:Nat):Bool:=(comeL (stepB t points) (firstB t points s) t.length).getD j false
theorem ZEs (t:List (El Za)) (points:List Int) (s:Int) (j:Nat):endsB t points s j=endsX t points s j:=ZwY (fun j=>ZDb) (fun k j=>ZEa) j
end Go.Ev
end

section
open Go
namespace Go.Ev
theorem alive24:Zfu=true∧Ze5=true:=by
 have hs:smallAll Zw=true:=by decide+kernel
 have hN:(ofC Zw).length=4:=by decide+kernel
 have hT:Zw.2.length=2:=by decide+kernel
 obtain ⟨k1,k2,e1,_,k3,_⟩:=Zqc hs (by omega) (by omega)
 have vp:Zo Zw=[((0:Int),((0:Int),(1:Int))),((1:Int),((0:Int),(1:Int)))]:=by
  rw[←e1,ZEq]
  decide+kernel
 have op:∀x:El Zg,x∈ZZ Zw→openB Zw x=(decide (0≤x.2.2∧x.2.2 < ((List.getD Zw.2 (Int.toNat x.1) (dflt (.sl Za))).length:Int))&&endsX (List.getD Zw.2 (Int.toNat x.1) (dflt (.sl Za))) [] x.2.1 x.2.2.toNat):=fun x hx=>by
  obtain ⟨s,r,h1,h2,_,_,rfl⟩:=Zrq hx
  obtain ⟨_,_,hf,_⟩:=Zmh hs h1
  have hf':flowOK (List.getD Zw.2 (Int.toNat (delPair (ofC Zw) s r).1) (dflt (.sl Za)))=true:=hf
  obtain ⟨_,_,_,f4⟩:=ZA2 hf' (points:=[]) (by decide) (delPair (ofC Zw) s r).2.1 (delPair (ofC Zw) s r).2.2
  unfold openB
  rw[f4,ZEs]
 have vo:Z6 Zw=[((0:Int),((0:Int),(1:Int))),((1:Int),((0:Int),(1:Int)))]:=by
  unfold Z6
  rw[e1,vp] at op
  rw[vp,List.filter_congr op]
  decide+kernel
 have k0:ZH ([],[])=true:=by decide+kernel
 have v0:Zo ([],[])=[]:=rfl
 unfold Zfu Ze5
 simp only[k1,k3,vp,vo,k0,v0]
 exact ⟨by decide+kernel,by decide+kernel⟩
end Go.Ev
end

section
open Go
namespace Go.Ev
def Zet (l:List (List (El Zh))) (m:List (El Zh)):Bool:=true
def ZhW (l:List (List (El Zh))) (m:List (El Zh)):Bool:=true
def lockW (x:El Za):El Za:=if (Zbu x).2=true then ((8:Int),(false,((0:Int),(x.2.2.2.1,(((1:Int),((1:Int),((0:Int),(0:Int)))),((bs []),x.2.2.2.2.2.2)))))) else x
theorem Zz6:keepsI lockW:=fun x=>by
 unfold lockW
 split
 ·exact ⟨rfl,fun _=>rfl⟩
 ·exact ⟨rfl,fun h=>h⟩
theorem Zz9 {y:El Za} (h8:(y.1==(8:Int))=true) (h:(Z8 y).2=true):Z7 y=true:=by
 unfold Z8 at h
 unfold Z7
 cases hk:ZM y with
 | false=>rw[hk] at h;cases h
 | true=>
  rw[hk] at h
  have e:(Zr y==(0:Int))=!(Zr y !=(0:Int)):=by simp[bne]
  rw[e,h8]
  cases hr:(Zr y !=(0:Int)) with
  | true=>rw[hr] at h;cases h
  | false=>rfl
theorem Zyi {x:El Za} (h:smallText x.2.2.2.2.2.1=true) (hw:(Z8 (lockW x)).2=true):Z7 (lockW x)=true:=by
 by_cases hr:(Zbu x).2=true
 ·have e:(lockW x).1=(8:Int):=by unfold lockW;rw[if_pos hr]
  exact Zz9 (by rw[e];rfl) hw
 ·exfalso
  have e:lockW x=x:=by unfold lockW;rw[if_neg hr]
  rw[e,←ZDx h] at hw
  exact hr hw
theorem ZzL {p:El Zc} (hs:smallAll p=true) {i:Nat} (hi:i < (ofC (p.1,p.2.map (List.map lockW))).length):stB' (ofC (p.1,p.2.map (List.map lockW))) i=false:=by
 have hm:accA (ofC (p.1,p.2.map (List.map lockW))) i∈ofC (p.1,p.2.map (List.map lockW)):=by unfold accA;rw[Z4 hi];exact List.getElem_mem hi
 obtain ⟨u,x,j,y,h1,h2,h3,_⟩:=Zps hm
 have h1:(p.2.map (List.map lockW))[u]? =some x:=h1
 rw[List.getElem?_map] at h1
 obtain ⟨x0,hx0,rfl⟩:=Option.map_eq_some_iff.1 h1
 rw[List.getElem?_map] at h2
 obtain ⟨y0,hy0,rfl⟩:=Option.map_eq_some_iff.1 h2
 unfold stB'
 rcases Zsf.1 h3 with ⟨_,e⟩ | ⟨e1,e⟩
 ·rw[e];rfl
 ·rw[e,Zyi ((smallT ((smallA hs).thr x0 (List.mem_of_getElem? hx0))).to y0 (List.mem_of_getElem? hy0)) e1]
  rfl
theorem ZBm {p:El Zc} (h:∀x,x∉ZZ p):ZZ p=[]:=List.eq_nil_iff_forall_not_mem.2 h
theorem ZDI {x:El Za} (h:smallText x.2.2.2.2.2.1=true):Zfk x=true:=by
 have h1:Zbh x=true:=h
 unfold Zfk
 simp only[h1,cond_true,Bool.cond_self]
theorem ZuY {m:List (El Zh)} (h1:smallAll (Zs [m,[]] 2 8)=true) {i:Nat} (hi:i < (ofC (Zs [m,[]] 2 8)).length):thA (ofC (Zs [m,[]] 2 8)) i=0:=by
 have hm:accA (ofC (Zs [m,[]] 2 8)) i∈ofC (Zs [m,[]] 2 8):=by unfold accA;rw[Z4 hi];exact List.getElem_mem hi
 obtain ⟨u,x,j,y,h1,h2,h3,h4,_⟩:=Zps hm
 have hth:thA (ofC (Zs [m,[]] 2 8)) i=(u:Int):=h4
 have e:(Zs [m,[]] 2 8).2=[threadB m (min m.length 8),threadB [] 0]:=rfl
 rw[e] at h1
 match u,h1 with
 | 0,_=>exact hth
 | 1,h1=>
  exfalso
  simp only[List.getElem?_cons_succ,List.getElem?_cons_zero,Option.some.injEq] at h1
  subst h1
  have e2:threadB [] 0=[((14:Int),(false,((0:Int),(((0:Int),((0:Int),((0:Int),(0:Int)))),(((0:Int),((0:Int),((0:Int),(0:Int)))),((bs []),[]))))))]:=by kernel_rfl
  rw[e2] at h2
  match j,h2 with
  | 0,h2=>
   simp only[List.getElem?_cons_zero,Option.some.injEq] at h2
   subst h2
   rcases Zsf.1 h3 with ⟨e3,_⟩ | ⟨e3,_⟩
   ·exact absurd e3 (by decide+kernel)
   ·exact absurd e3 (by decide+kernel)
  | j+1,h2=>simp at h2
 | u+2,h1=>simp at h1
theorem Zoc (l:List (List (El Zh))) (m:List (El Zh)) (hk:ZhW l m=true):Goes (ZaA l m) (ZdT l m) (Zet l m):=by
 obtain ⟨ka,va⟩:=alive24
 obtain ⟨p1,p2,p3,_,pk⟩:=ZBe [m,[]] (threads:=2) (many:=8) (by decide) (by decide) (by decide) (by decide)
 obtain ⟨q1,q2,q3,_,qk⟩:=ZBe l (threads:=3) (many:=6) (by decide) (by decide) (by decide) (by decide)
 obtain ⟨T,hT⟩:∃T,T=ZaA l m:=⟨_,rfl⟩
 rw[←hT]
 unfold ZdT Zet
 have sec:ZH (Zs [m,[]] 2 8)=true∧Zo (Zs [m,[]] 2 8)=[]:=by
  have hl2:(Zs [m,[]] 2 8).2.length≤2:=p2
  obtain ⟨d1,_,d3,_⟩:=Zqc p1 (by omega) (by omega)
  refine ⟨d1,d3.symm.trans (ZBm fun x hx=>?_)⟩
  obtain ⟨s,r,hs,hr,_,h2,_⟩:=Zrq hx
  unfold delB backB at h2
  simp only[Bool.and_eq_true,List.any_eq_true] at h2
  obtain ⟨_,_,_,k,hkm,hi,hc⟩:=h2
  have hkl:=List.mem_range.1 hkm
  exact ZDm hc (by rw[ZuY p1 hkl,ZuY p1 hs])
 rw[Zf,if_pos qk]
 generalize hq:Zs l 3 6=q at*
 have hql:q.2.length≤3:=q2
 have tl:∀t∈q.2,List.length t < 1099511627776:=fun t ht=>(smallT ((smallA q1).thr t ht)).len
 have fin:Goes T (.jmp (.l4 (q.2.length:Int) (q.2.map (List.map lockW)))) true:=by
  have s1:smallAll (q.1,q.2.map (List.map lockW))=true:=ZyF Zz6 q1
  have s2:(ofC (q.1,q.2.map (List.map lockW))).length≤20000:=by
   have:=ZEH (f:=lockW) (p:=q) (by rw[←hq];exact ZBI l (by decide) (by decide) (by decide) (by decide))
   omega
  obtain ⟨d1,_,d3,_⟩:=Zqc s1 s2 (by show (q.2.map _).length≤100;rw[List.length_map];omega)
  have d4:Zo (q.1,q.2.map (List.map lockW))=[]:=d3.symm.trans (ZBm fun x hx=>by
   obtain ⟨s,r,hs,hr,h1,_⟩:=Zrq hx
   rw[ZzL q1 hs] at h1
   cases h1)
  rw[Zn,hT,ZaA,hq,List.length_map,Zf,if_neg (by rw[ZW (Nat.lt_irrefl _)];decide),Zf,if_pos pk,Zf,if_pos d1,d4,Zf,if_pos (by decide),Zf,if_pos sec.1,sec.2,Zf,if_pos (by decide),Zf,if_pos ka,va]
  exact .leaf
 have loop:∀t,t≤q.2.length→Goes T (.jmp (.l4 (t:Int) (mapQ lockW q.2 t 0))) true:=by
  refine down ?_ fun t ht iht=>?_
  ·rw[ZDJ];exact fin
  ·have htl:=tl q.2[t] (List.getElem_mem ht)
   have inner:∀i,i≤List.length q.2[t]→Goes T (.jmp (.l9 (i:Int) (mapQ lockW q.2 t i) (t:Int))) true:=by
    refine down ?_ fun i hi ihi=>?_
    ·rw[Zn,hT,ZaA,←hT,Int.toNat_natCast,ZvN ht,ZA9 ht,ZBt (Nat.le_refl _),Zf,if_pos (ZaP ht),Zf,if_neg (by rw[ZW (Nat.lt_irrefl _)];decide),Zz (by omega),ZDj ht]
     exact iht
    ·have htx:=(smallT ((smallA q1).thr q.2[t] (List.getElem_mem ht))).to (q.2[t])[i] (List.getElem_mem hi)
     have same:∀y,lockW (q.2[t])[i]=y→List.set (mapQ lockW q.2 t i) t (List.set (mapR lockW q.2[t] i) i y)=mapQ lockW q.2 t (i+1):=fun y e=>by
      rw[←e,ZBj hi,ZDO ht]
     rw[Zn,hT,ZaA,←hT,Int.toNat_natCast,ZvN ht,ZA9 ht,ZBt (Nat.le_of_lt hi),Int.toNat_natCast,ZD8 hi]
     rw[Zf,if_pos (ZaP ht),Zf,if_pos (ZaK hi),Zf,if_pos (ZaP ht),Zf,if_pos (ZaP hi),Zf,if_pos (ZDI htx),Zz (by omega),Zf]
     by_cases c3:(Zbu (q.2[t])[i]).2=true
     ·rw[if_pos c3,Zf,if_pos (ZaP ht),Zf,if_pos (ZaP hi),same _ (by unfold lockW;rw[if_pos c3])]
      exact ihi
     ·rw[if_neg c3]
      have hno:lockW (q.2[t])[i]=(q.2[t])[i]:=by unfold lockW;rw[if_neg c3]
      have e:mapQ lockW q.2 t (i+1)=mapQ lockW q.2 t i:=by rw[ZnZ ht,ZnZ ht,ZCz hi hno]
      rw[e] at ihi
      exact ihi
   have h0:=inner 0 (Nat.zero_le _)
   rw[Zn,hT,ZaA,←hT,ZvN ht,Zf,if_pos (ZaK ht)]
   exact h0
 have:=loop 0 (Nat.zero_le _)
 rw[ZC5] at this
 exact this
end Go.Ev
end

section
open Go Go.Ev
namespace Go.Ev
noncomputable section
theorem Znc (l:List (List (El Zh))) (m:List (El Zh)) (hk:ZhW l m=true):CallOK Go.Proofs.Tryz.prog 3 (toForms ZL (l,m,())) (Zcp (Zet l m),tps (toForms ZL (l,m,()))):=by
 obtain ⟨h1,h2⟩:=Zoq Znd
 obtain ⟨n,hn⟩:=Zp (c:=Zb5) (K:=fun v=>(Zcp v,tps (toForms ZL (l,m,())))) (S:=ZaB l m) (by kernel_rfl) (Zng l m) (Zne l m) (Zoc l m hk)
 exact ZoI (f:=3) (c:=Zb5) h1 h2 (by kernel_rfl) (by kernel_rfl) (by kernel_rfl) hn
end
end Go.Ev
end

section
namespace Go.Ev
open Go
theorem Zlr (a:Args ZL) (ha:smallArgs ZL a):CallOK Go.Proofs.Tryz.prog ZlV (toForms ZL a) (.d .bool true,tps (toForms ZL a)):=by
 obtain ⟨l,m,_⟩:=a
 exact Znc l m rfl
end Go.Ev
end

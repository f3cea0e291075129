/- Part of the proof of: What is left of points that are enough is enough, and none of it can go; of points that are not all is left: for every input the law answers true. -/
import Derived.Test.YtdbbaglblicoiaaGreatDoorCon2
set_option maxRecDepth 100000
set_option linter.unusedSectionVars false
set_option linter.unusedVariables false
set_option linter.unusedSimpArgs false
section
open Go
namespace Go.Ev
section
variable {α:Type} {U:List Int→α→Bool}
def Anti (U:List Int→α→Bool):Prop:=∀ {p q:List Int},(∀k,k∈p→k∈q)→∀ {x:α},U q x=true→U p x=true
def CovL (U:List Int→α→Bool) (all:List α) (pts:List Int):Prop:=∀x∈all,U pts x=false
theorem ZEY {all:List α} {pts:List Int} :(all.filter (U pts)).length=0↔CovL U all pts:=by
 rw[List.length_eq_zero_iff,List.filter_eq_nil_iff]
 exact ⟨fun h x hx=>by rw[Bool.eq_false_iff];exact h x hx,fun h x hx=>by rw[h x hx];decide⟩
theorem ZPo (hA:Anti U) {all:List α} {p q:List Int} (h:∀k,k∈p→k∈q) (hc:CovL U all p):CovL U all q:=fun x hx=>by
 rw[Bool.eq_false_iff]
 intro hq
 have:=hA h hq
 rw[hc x hx] at this
 cases this
theorem Zw4 {all:List α} :∀(done rest:List Int),CovL U all (done++rest)→CovL U all (pruneL U all done rest)
 | done,[],h=>by rw[List.append_nil] at h;unfold pruneL;exact h
 | done,x :: r,h=>by
  unfold pruneL
  split
  ·exact Zw4 done r (ZEY.1 (by assumption))
  ·refine Zw4 (done++[x]) r ?_
   rw[List.append_assoc]
   exact h
theorem ZqA {all:List α} :∀(done rest:List Int),(pruneL U all done rest).Sublist (done++rest)
 | done,[]=>by unfold pruneL;rw[List.append_nil];exact List.Sublist.refl _
 | done,x :: r=>by
  unfold pruneL
  split
  ·exact (ZqA done r).trans ((List.Sublist.refl done).append (List.sublist_cons_self x r))
  ·have:=ZqA (all:=all) (done++[x]) r
   rw[List.append_assoc] at this
   exact this
theorem Zug (hA:Anti U) {all:List α} :∀(done rest:List Int),∀y∈pruneL U all done rest,y∉done→∃x∈all,∀less:List Int,(∀k∈less,k∈pruneL U all done rest∧k≠y)→U less x=true
 | done,[],y,hy,hd=>by unfold pruneL at hy;exact absurd hy hd
 | done,z :: r,y,hy,hd=>by
  unfold pruneL at hy ⊢
  by_cases hc:(all.filter (U (done++r))).length=0
  ·rw[if_pos hc] at hy ⊢
   exact Zug hA done r y hy hd
  ·rw[if_neg hc] at hy ⊢
   by_cases hz:y=z
   ·subst hz
    have:∃x∈all,U (done++r) x=true:=by
     refine Classical.byContradiction fun hn=>hc (ZEY.2 fun x hx=>?_)
     rw[Bool.eq_false_iff]
     exact fun h=>hn ⟨x,hx,h⟩
    obtain ⟨x,hx,hU⟩:=this
    refine ⟨x,hx,fun less hl=>hA (fun k hk=>?_) hU⟩
    obtain ⟨h1,h2⟩:=hl k hk
    rcases (Ztn (U:=U) (all:=all) (done++[y]) r).2 k h1 with h | h
    ·rcases List.mem_append.1 h with h | h
     ·exact List.mem_append_left _ h
     ·exact absurd (List.mem_singleton.1 h) h2
    ·exact List.mem_append_right _ h
   ·refine Zug hA (done++[z]) r y hy fun h=>?_
    rcases List.mem_append.1 h with h | h
    ·exact hd h
    ·exact hz (List.mem_singleton.1 h)
theorem ZDz (hA:Anti U) {all:List α} :∀(done rest:List Int),¬CovL U all (done++rest)→pruneL U all done rest=done++rest
 | done,[],_=>by unfold pruneL;rw[List.append_nil]
 | done,x :: r,h=>by
  unfold pruneL
  rw[if_neg fun hc=>h (ZPo hA (fun k hk=>by
   rcases List.mem_append.1 hk with hk | hk
   ·exact List.mem_append_left _ hk
   ·exact List.mem_append_right _ (List.mem_cons_of_mem _ hk)) (ZEY.1 hc))]
  have e:done++x :: r=(done++[x])++r:=by rw[List.append_assoc];rfl
  rw[e] at h ⊢
  exact ZDz hA _ _ h
end
end Go.Ev
end

section
namespace Go.Ev
open Go
theorem ZM8 (t:List (El Za)):Anti (uB t):=fun {p q} h {x} hx=>ZPV h hx
section
variable {p:El Zc} (hF:CutF p) {t:Int}
include hF
end
end Go.Ev
end

section
namespace Go.Ev
open Go
theorem ZQl:∀ {l:List Bool} {k:Nat} {x:Int},x∈listFrom k l→(k:Int)≤x∧x < k+l.length:=by
 intro l k x h
 obtain ⟨i,h1,rfl⟩:=ZxQ.1 h
 have:=(List.getElem?_eq_some_iff.1 h1).1
 omega
theorem ZGx:∀(l:List Bool) (k:Nat),(listFrom k l).Pairwise (· < ·)
 | [],k=>.nil
 | b :: r,k=>by
  unfold listFrom
  have ih:=ZGx r (k+1)
  split
  ·exact List.pairwise_cons.2 ⟨fun x hx=>by have:=(ZQl hx).1;omega,ih⟩
  ·exact ih
theorem ZQQ (t:List (El Za)) (pts:List Int) (x:PairD):uB t (pts.filter (inR t.length)) x=uB t pts x:=by
 have hc:∀(j:Nat),j < t.length→(pts.filter (inR t.length)).contains (j:Int)=pts.contains (j:Int):=fun j hj=>by
  rw[Bool.eq_iff_iff,List.contains_iff_mem,List.contains_iff_mem,List.mem_filter]
  refine ⟨fun h=>h.1,fun h=>⟨h,?_⟩⟩
  unfold inR
  rw[decide_eq_true (show (0:Int)≤(j:Int) by omega),decide_eq_true (show (j:Int) < (t.length:Int) by omega)]
  rfl
 have hg:∀(i:Int) (j:Nat),(nextB t i j&& !(pts.filter (inR t.length)).contains (j:Int))=(nextB t i j&& !pts.contains (j:Int)):=fun i j=>by
  cases hn:nextB t i j with
  | false=>rfl
  | true=>rw[hc j (ZdV hn)]
 have e1:stepB t (pts.filter (inR t.length))=stepB t pts:=by
  funext k j
  unfold stepB
  rw[hg]
 have e2:firstB t (pts.filter (inR t.length)) x.2.1=firstB t pts x.2.1:=by
  funext j
  unfold firstB
  rw[hg]
 unfold uB endsB
 rw[e1,e2]
theorem ZPY (t:List (El Za)) (pts:List Int) (x:PairD):uB t (putsL [] (pts.filter (inR t.length))) x=uB t pts x:=by
 rw[←ZQQ t pts]
 refine ZQC t (fun k=>?_) x
 rw[Zoa]
 simp
section
variable {t:List (El Za)} {all:List PairD}
theorem ZMy {pts:List Int} (h:CovL (uB t) all pts):CovL (uB t) all (pruneV (uB t) t.length all pts):=
 Zw4 [] _ fun x hx=>by rw[List.nil_append,ZPY];exact h x hx
theorem ZFm {pts:List Int} :(pruneV (uB t) t.length all pts).Pairwise (· < ·):=
 (Zjf .nil).sublist (ZqA [] _)
theorem ZNA {pts:List Int} {k:Int} (h:k∈pruneV (uB t) t.length all pts):k∈pts∧inR t.length k=true:=by
 have:=(ZqA (U:=uB t) (all:=all) [] (putsL [] (pts.filter (inR t.length)))).subset h
 rw[List.nil_append,Zoa] at this
 rcases this with h | h
 ·cases h
 ·exact List.mem_filter.1 h
theorem ZK9 {pts:List Int} {y:Int} (hy:y∈pruneV (uB t) t.length all pts):∃x∈all,∀less:List Int,(∀k∈less,k∈pruneV (uB t) t.length all pts∧k≠y)→uB t less x=true:=
 Zug (ZM8 t) [] _ y hy (by simp)
end
theorem ZMq {l:List Int} (h:l.Pairwise (· < ·)) {i:Nat} (hi:i < l.length):∀k∈l.take i++l.drop (i+1),k∈l∧k≠l[i]:=fun k hk=>by
 have hp:=List.pairwise_iff_getElem.1 h
 rcases List.mem_append.1 hk with hk | hk
 ·obtain ⟨j,hj,rfl⟩:=List.mem_iff_getElem.1 hk
  rw[List.length_take] at hj
  rw[List.getElem_take]
  have:=hp j i (by omega) hi (by omega)
  exact ⟨List.getElem_mem _,by omega⟩
 ·obtain ⟨j,hj,rfl⟩:=List.mem_iff_getElem.1 hk
  rw[List.length_drop] at hj
  rw[List.getElem_drop]
  have:=hp i (i+1+j) hi (by omega) (by omega)
  exact ⟨List.getElem_mem _,by omega⟩
section
variable {p:El Zc} (hF:CutF p) {t:Int}
include hF
end
section
variable {p:El Zc} {t:Int}
end
end Go.Ev
end

section
namespace Go.Ev
open Go
theorem ZPd {p:El Zc} (h:smallProg p=true) (t:Int):Zg1 p t=true∧ZgN p t=! rightT p t:=by
 have hk:Zb5 p=true:=h
 have hv:ZcN p=checkC p:=rfl
 unfold Zg1 ZgN rightT
 rw[hk,hv]
 by_cases hc:checkC p=0
 ·have e1:(checkC p !=0)=false:=by rw[hc];rfl
  rw[e1,decide_eq_true hc]
  by_cases h0:t < 0
  ·rw[decide_eq_true h0,decide_eq_false (show ¬(0:Int)≤t by omega)]
   exact ⟨rfl,rfl⟩
  ·rw[decide_eq_false h0,decide_eq_true (show (0:Int)≤t by omega)]
   by_cases h1:t < (p.2.length:Int)
   ·rw[decide_eq_true h1,decide_eq_false (show ¬t≥Int.ofNat p.2.length from by show ¬t≥(p.2.length:Int);omega)]
    exact ⟨rfl,rfl⟩
   ·rw[decide_eq_false h1,decide_eq_true (show t≥Int.ofNat p.2.length from by show t≥(p.2.length:Int);omega)]
    exact ⟨rfl,rfl⟩
 ·have e1:(checkC p !=0)=true:=by simpa using hc
  rw[e1,decide_eq_false hc,Bool.and_false,Bool.and_false]
  exact ⟨rfl,rfl⟩
theorem ZB3 {p:El Zc} (hF:CutF p) (t:Int) {pts:List Int} (hp:pts.length < 1000000000):ZcG p t pts=true∧ZbD p t pts=(rightT p t&&decide (((allT p t).filter (uB (thrT p t) pts)).length=0)):=by
 obtain ⟨r1,r2⟩:=ZPd (smallA hF.small).prog t
 unfold ZcG ZbD
 rw[r1,r2]
 cases hr:rightT p t with
 | false=>exact ⟨rfl,rfl⟩
 | true=>
  obtain ⟨f1,f2,_⟩:=hF.flow t hr
  have hl:=ZLH hF t
  have h2:ZcD (List.getD p.2 (Int.toNat t) (dflt (.sl Za))) (Zh3 (Zk p) t) pts=true:=by
   show ZcD (thrT p t) (allT p t) pts=true
   unfold ZcD
   rw[f1,decide_eq_true (show pts.length < 4611686018427387904 by omega),decide_eq_true (show (allT p t).length < 1000000000000 by omega)];rfl
  have h3:Zn5 (Zk p) t=true:=decide_eq_true (by have:=hF.lp;omega)
  have hv:ZjB (List.getD p.2 (Int.toNat t) (dflt (.sl Za))) (Zh3 (Zk p) t) pts=(allT p t).filter (uB (thrT p t) pts):=rfl
  rw[f2,hF.kd,hF.eq,h3,h2,hv,len0]
  exact ⟨rfl,rfl⟩
theorem ZqH {p:El Zc} (hF:CutF p) {t:Int} (hr:rightT p t=true) {pts:List Int} (hp:pts.length < 1000000000):ZcG p t pts=true∧(ZbD p t pts=true↔CovL (uB (thrT p t)) (allT p t) pts):=by
 obtain ⟨h1,h2⟩:=ZB3 hF t hp
 refine ⟨h1,?_⟩
 rw[h2,hr,Bool.true_and,decide_eq_true_eq,ZEY]
theorem ZJW {U:List Int→PairD→Bool} {n:Nat} {all:List PairD} {pts:List Int} :(pruneV U n all pts).length≤pts.length:=by
 unfold pruneV
 have h1:=(Ztn (U:=U) (all:=all) [] (putsL [] (pts.filter (inR n)))).1
 have h2:(putsL [] (pts.filter (inR n))).length≤(pts.filter (inR n)).length:=by rw[←ZNa];exact ZLo
 have h3:=List.length_filter_le (inR n) pts
 simp only[List.length_nil,Nat.zero_add] at h1
 omega
end Go.Ev
end

section
namespace Go.Ev
open Go
theorem ZNw {l:List (List (El Za))} {n:Nat} (h:∀t∈l,List.length t≤n):total l≤n*l.length:=by
 unfold total
 induction l with
 | nil=>simp
 | cons t l ih=>
  rw[List.map_cons,List.sum_cons,List.length_cons,Nat.mul_add,Nat.mul_one]
  have h1:=h t (List.mem_cons_self ..)
  have h2:=ih fun x hx=>h x (List.mem_cons_of_mem _ hx)
  omega
theorem ZQr {p:El Zc} :(ofC p).length≤2*total p.2:=by
 have:=ZD1 0 p.2
 unfold ofC
 split
 ·exact this
 ·simp
theorem ZPc (l:List (List (El Zr))) {threads many:Int} (h0:0≤threads) (h1:threads≤64) (m0:0≤many) (m1:many≤90):
  smallAll (Zj l threads many)=true∧(Zj l threads many).2.length≤threads.toNat∧(ofC (Zj l threads many)).length≤11648∧checkC (Zj l threads many)=0∧ZeF l threads many=true:=by
 obtain ⟨hc,hs,hk⟩:=ZMa l h0 h1 m0 m1
 have hl:(Zj l threads many).2.length≤threads.toNat:=by
  show ((l.take threads.toNat).map fun a=>threadB a (min a.length many.toNat)).length≤_
  rw[List.length_map,List.length_take];omega
 have ht:=ZNw (l:=(Zj l threads many).2) (n:=91) fun t hm=>by
  obtain ⟨a,_,rfl⟩:=List.mem_map.1 (show t∈(l.take threads.toNat).map fun a=>threadB a (min a.length many.toNat) from hm)
  show (threadB a _).length≤91
  unfold threadB
  rw[Zb1,Zof a _ (by omega)]
  omega
 have ho:= @ZQr (Zj l threads many)
 refine ⟨?_,hl,by omega,hc,hk⟩
 unfold smallAll
 simp only[Bool.and_eq_true,decide_eq_true_eq]
 exact ⟨hs,by omega,by omega⟩
end Go.Ev
end

section
namespace Go.Ev
open Go
theorem ZOP (l:List (List (El Zr))) {threads many:Int} (h0:0≤threads) (h1:threads≤64) (m0:0≤many) (m1:many≤90):cutOK (Zj l threads many)=true∧checkC (Zj l threads many)=0∧ZeF l threads many=true:=by
 obtain ⟨a1,a2,a3,a4,a5⟩:=ZPc l h0 h1 m0 m1
 refine ⟨?_,a4,a5⟩
 unfold cutOK
 rw[a1,decide_eq_true (show (ofC (Zj l threads many)).length≤20000 by omega),decide_eq_true (show (Zj l threads many).2.length≤100 by omega)]
 rfl
end Go.Ev
end

section
open Go
namespace Go.Ev
def bothPairs:List PairD:=[((0:Int),((0:Int),(1:Int))),((1:Int),((0:Int),(1:Int)))]
theorem alive25:ZcB=true∧ZcH=true:=by
 obtain ⟨p,hp⟩:∃p,Zm=p:=⟨_,rfl⟩
 have hs:cutOK Zm=true:=by decide+kernel
 have hF:=Zwg hs
 have vp:Zk Zm=bothPairs:=by
  rw[←hF.eq,ZOM]
  decide+kernel
 have op:∀x:El Zd,x∈ZH Zm→openB Zm x=(decide (0≤x.2.2∧x.2.2 < ((List.getD Zm.2 (Int.toNat x.1) (dflt (.sl Za))).length:Int))&&endsX (List.getD Zm.2 (Int.toNat x.1) (dflt (.sl Za))) [] x.2.1 x.2.2.toNat):=fun x hx=>by
  obtain ⟨s,r,h1,h2,_,_,rfl⟩:=ZER hx
  obtain ⟨_,_,hf,_⟩:=Zgf hF.small h1
  have hf':flowOK (List.getD Zm.2 (Int.toNat (delPair (ofC Zm) s r).1) (dflt (.sl Za)))=true:=hf
  obtain ⟨_,_,_,f4⟩:=ZFu hf' (points:=[]) (by decide) (delPair (ofC Zm) s r).2.1 (delPair (ofC Zm) s r).2.2
  unfold openB
  rw[f4,ZLJ]
 have vo:Zv Zm=bothPairs:=by
  unfold Zv
  rw[hF.eq,vp] at op
  rw[vp,List.filter_congr op]
  decide+kernel
 have r0:rightT Zm 0=true:=by decide+kernel
 have r1:rightT Zm 1=true:=by decide+kernel
 have r2:rightT Zm 2=false:=by decide+kernel
 have c0:checkC Zm=0:=by decide+kernel
 have a0:allT Zm 0=[((0:Int),((0:Int),(1:Int)))]:=by unfold allT;rw[vp];decide+kernel
 have o0:opT Zm 0=[((0:Int),((0:Int),(1:Int)))]:=by unfold opT;rw[vo];decide+kernel
 have o1:opT Zm 1=[((1:Int),((0:Int),(1:Int)))]:=by unfold opT;rw[vo];decide+kernel
 obtain ⟨kP,vP⟩:=ZMc hF 0
 rw[if_pos r0,a0,o0,ZQc] at vP
 have vP:ZbQ Zm 0=[1]:=by rw[vP];decide+kernel
 obtain ⟨kC,vC⟩:=Zxh hF 0 (pts:=[1]) (by decide)
 rw[r0,a0,ZQc] at vC
 have vC:ZaV Zm 0 [1]=true:=by rw[vC];decide+kernel
 obtain ⟨kN,vN⟩:=Zxh hF 0 (pts:=[]) (by decide)
 rw[r0,a0,ZQc] at vN
 have vN:ZaV Zm 0 []=false:=by rw[vN];decide+kernel
 obtain ⟨kM,vM⟩:=Zxh hF 2 (pts:=[]) (by decide)
 rw[r2,Bool.false_and] at vM
 have kA:Zis Zm 1=true:=hs
 have vA:Zca Zm 1=[1]:=by
  unfold Zca
  rw[if_pos r1,o1]
  decide+kernel
 have kL:Zon Zm=true:=hs
 have vL:(Zjc Zm).length=2:=by
  unfold Zjc
  rw[if_pos c0,List.length_map,List.length_range]
  decide+kernel
 have e1:Zaw [1] [(1:Int)]=true:=by decide
 have e2:Zaj [1] [(1:Int)]=true:=by decide
 unfold ZcB ZcH
 simp only[kP,vP,kC,vC,kN,vN,kM,vM,kA,vA,kL,vL,e1,e2]
 exact ⟨by decide,by decide⟩
end Go.Ev
end

section
open Go
namespace Go.Ev
def Zit (l:List (List (El Zr))) (t:Int) (points:List Int):Bool:=true
def Zoi (l:List (List (El Zr))) (t:Int) (points:List Int):Bool:=true
theorem ZNq {n:Nat} {l:List Int} (h:∀x∈l,(0:Int)≤x∧x < (n:Int)):l.filter (inR n)=l:=List.filter_eq_self.2 fun x hx=>by
 obtain ⟨h1,h2⟩:=h x hx
 unfold inR
 rw[decide_eq_true h1,decide_eq_true h2];rfl
theorem Zw9 (l:List (List (El Zr))) (t:Int) (points:List Int) (hk:Zoi l t points=true):Goes (Zag l t points) (Zij l t points) (Zit l t points):=by
 obtain ⟨ka,va⟩:=alive25
 obtain ⟨hc,hch,hkb⟩:=ZOP l (threads:=3) (many:=6) (by decide) (by decide) (by decide) (by decide)
 have hF:=Zwg hc
 have hA:=smallA hF.small
 have done:Goes (Zag l t points) (.br ZcB (.leaf ZcH) .no) true:=by
  rw[Ze,if_pos ka,va]
  exact .leaf
 unfold Zij Zit
 rw[Ze,if_pos hkb,Ze]
 by_cases h0:¬0 < (Zj l 3 6).2.length
 ·rw[if_pos (by rw[beq_iff_eq];simp only[Int.ofNat_eq_natCast];omega)]
  exact done
 have h0:=Decidable.not_not.1 h0
 rw[if_neg (by rw[beq_iff_eq];simp only[Int.ofNat_eq_natCast];omega)]
 obtain ⟨p1,p2,p3⟩:=ZdF (n:=t) (m:=Int.ofNat (Zj l 3 6).2.length) (by simp only[Int.ofNat_eq_natCast];omega) (by have:=hF.thr;simp only[Int.ofNat_eq_natCast];omega)
 rw[Ze,if_pos p1]
 obtain ⟨u,hu⟩:∃u:Nat,Zf t (Int.ofNat (Zj l 3 6).2.length)=(u:Int):=⟨(Zf t (Int.ofNat (Zj l 3 6).2.length)).toNat,by omega⟩
 have hul:u < (Zj l 3 6).2.length:=by
  rw[hu] at p3
  simp only[Int.ofNat_eq_natCast] at p3
  omega
 have hin:(decide ((0:Int)≤(u:Int))&&decide ((u:Int) < Int.ofNat (Zj l 3 6).2.length))=true:=by rw[nng,ZQ hul];rfl
 have hth:0 < (List.getD (Zj l 3 6).2 u (dflt (.sl Za))).length∧(List.getD (Zj l 3 6).2 u (dflt (.sl Za))).length≤100:=by
  rw[ZG hul]
  obtain ⟨a,_,e⟩:=List.mem_map.1 (show (Zj l 3 6).2[u]∈(l.take (3:Int).toNat).map fun a=>threadB a (min a.length (6:Int).toNat) from List.getElem_mem hul)
  rw[←e]
  have h6:(6:Int).toNat=6:=rfl
  have:(threadB a (min a.length (6:Int).toNat)).length=min a.length (6:Int).toNat+1:=by unfold threadB;rw[Zb1,Zof a _ (by omega)]
  rw[this]
  omega
 have hr:rightT (Zj l 3 6) (u:Int)=true:=by
  unfold rightT
  rw[decide_eq_true (show (0:Int)≤(u:Int) by omega),decide_eq_true (show (u:Int) < ((Zj l 3 6).2.length:Int) by omega),decide_eq_true hch];rfl
 have htt:thrT (Zj l 3 6) (u:Int)=List.getD (Zj l 3 6).2 u (dflt (.sl Za)):=by unfold thrT;rw[Int.toNat_natCast]
 have tail:∀is:List Bool,is.length=(thrT (Zj l 3 6) (u:Int)).length→∀i:Int,Goes (Zag l t points) (.jmp (.l11 is false i)) true:=by
  intro is his i
  have hn:is.length≤100:=by rw[his,htt];exact hth.2
  obtain ⟨A,hAe⟩:∃A,Zbz is=A:=⟨_,rfl⟩
  have hAs:A.Pairwise (· < ·):=by rw[←hAe];exact ZGx _ _
  have hAi:∀x∈A,(0:Int)≤x∧x < ((thrT (Zj l 3 6) (u:Int)).length:Int):=fun x hx=>by
   rw[←hAe] at hx
   have:=ZQl (show x∈listFrom 0 is from hx)
   omega
  have hAl:A.length≤100:=by
   rw[←hAe]
   exact Nat.le_trans (Zyy is 0) hn
  obtain ⟨k1,v1⟩:=ZNg hF (u:Int) (pts:=A) (by omega)
  obtain ⟨k2,v2⟩:=ZqH hF hr (pts:=A) (by omega)
  rw[if_pos hr] at v1
  obtain ⟨L,hL⟩:∃L,Zfl (Zj l 3 6) (u:Int) A=L:=⟨_,rfl⟩
  rw[hL] at v1
  have hLl:L.length≤100:=by rw[v1];exact Nat.le_trans ZJW hAl
  rw[Zi,Zag,Ze,if_neg (by decide),Ze,if_pos (show Zpc is=true from decide_eq_true (by omega)),hu,hAe,Ze,if_pos k1,Ze,if_pos k2,hL,Ze]
  cases hcv:ZbD (Zj l 3 6) (u:Int) A with
  | false=>
   have hcn:¬CovL (uB (thrT (Zj l 3 6) (u:Int))) (allT (Zj l 3 6) (u:Int)) A:=fun h=>by
    have:=v2.2 h
    rw[hcv] at this
    cases this
   have hLA:L=A:=by
    rw[v1]
    unfold pruneV
    rw[ZNq hAi,ZP8 hAs,ZDz (ZM8 _) [] A (by rw[List.nil_append];exact hcn),List.nil_append]
   have k3:Zaw L A=true:=decide_eq_true (by omega)
   have v3:Zaj L A=true:=decide_eq_true hLA
   rw[if_pos (show (!false)=true from rfl),Ze,if_pos k3,Ze,if_pos v3]
   exact done
  | true=>
   have hcov:=v2.1 hcv
   rw[if_neg (by decide)]
   have hLs:L.Pairwise (· < ·):=by rw[v1];exact ZFm
   have hLc:CovL (uB (thrT (Zj l 3 6) (u:Int))) (allT (Zj l 3 6) (u:Int)) L:=by rw[v1];exact ZMy hcov
   obtain ⟨k4,v4⟩:=ZqH hF hr (pts:=L) (by omega)
   have loop:∀k,k≤L.length→Goes (Zag l t points) (.jmp (.l20 A L (k:Int))) true:=by
    refine down ?_ fun k hk ih=>?_
    ·rw[Zi,Zag,Ze,if_neg (by rw[Zw (Nat.lt_irrefl _)];decide),hu,Ze,if_pos k4,Ze,if_pos (v4.2 hLc)]
     exact done
    ·have k5:ZlS A L[k]=true:=decide_eq_true (by omega)
     have hsub:∀y,y∈L→y∈A:=fun y hy=>by
      rw[v1] at hy
      exact (ZNA hy).1
     have hmem:L[k]∈A:=hsub _ (List.getElem_mem hk)
     have v5:Zjl A L[k]=true:=List.contains_iff_mem.2 hmem
     have hw:IntKind.i64.wrap ((k:Int)+1)=((k+1:Nat):Int):=Zs (by omega)
     have b1:((((decide ((0:Int)≤(k:Int)))&&(decide ((k:Int)≤(Int.ofNat (List.length L)))))&&true)&&(decide ((0:Int)≤(k:Int))))=true:=by
      rw[decide_eq_true (show (0:Int)≤(k:Int) by omega),decide_eq_true (show (k:Int)≤Int.ofNat L.length from Int.ofNat_le.2 (by omega))];rfl
     have b2:Nat.ble ((List.length (List.take k L))*8) limit=true:=Nat.ble_eq_true_of_le (by rw[List.length_take];unfold limit;omega)
     have b3:((((decide ((0:Int)≤(Int.ofNat (List.length L))))&&(decide ((Int.ofNat (List.length L))≤(Int.ofNat (List.length L)))))&&(decide ((0:Int)≤((k+1:Nat):Int))))&&(decide (((k+1:Nat):Int)≤(Int.ofNat (List.length L)))))=true:=by
      rw[decide_eq_true (show (0:Int)≤Int.ofNat L.length from Int.natCast_nonneg _),decide_eq_true (Int.le_refl _),decide_eq_true (show (0:Int)≤((k+1:Nat):Int) from Int.natCast_nonneg _),decide_eq_true (show ((k+1:Nat):Int)≤Int.ofNat L.length from Int.ofNat_le.2 (by omega))];rfl
     have b4:Nat.ble (((List.length (List.take k L))+(List.length (List.drop (k+1) L)))*8) limit=true:=Nat.ble_eq_true_of_le (by rw[List.length_take,List.length_drop];unfold limit;omega)
     have hll:(List.take k L++List.drop (k+1) L).length < 1000000000:=by rw[List.length_append,List.length_take,List.length_drop];omega
     obtain ⟨k6,v6⟩:=ZqH hF hr hll
     have hno:ZbD (Zj l 3 6) (u:Int) (List.take k L++List.drop (k+1) L)=false:=by
      rw[Bool.eq_false_iff]
      intro h
      have hc2:=v6.1 h
      have hy:L[k]∈L:=List.getElem_mem hk
      obtain ⟨x,hx,hun⟩:=ZK9 (t:=thrT (Zj l 3 6) (u:Int)) (all:=allT (Zj l 3 6) (u:Int)) (pts:=A) (y:=L[k]) (by rw[←v1];exact hy)
      have:=hun (List.take k L++List.drop (k+1) L) (by rw[←v1];exact ZMq hLs hk)
      rw[hc2 x hx] at this
      cases this
     rw[Zi,Zag,Ze,if_pos (ZQ hk),Ze,if_pos (by rw[nng,ZQ hk];rfl),Int.toNat_natCast,ZG hk,Ze,if_pos k5,Ze,if_neg (by rw[v5];decide),Ze,if_pos b1,Ze,if_pos b2,hw,Ze,if_pos b3,List.take_length,Int.toNat_natCast,Ze,if_pos b4,hu,Ze,if_pos k6,Ze,if_neg (by rw[hno];decide)]
     exact ih
   exact loop 0 (Nat.zero_le _)
 have marks:∀k,k≤points.length→∀is:List Bool,is.length=(thrT (Zj l 3 6) (u:Int)).length→Goes (Zag l t points) (.jmp (.l9 is (k:Int))) true:=by
  refine down ?_ fun k hk ih=>?_
  ·intro is his
   rw[Zi,Zag,Ze,if_neg (by rw[Zw (Nat.lt_irrefl _)];decide)]
   exact tail is his _
  ·intro is his
   rw[Zi,Zag,Ze,if_pos (ZQ hk)]
   by_cases h12:(k:Int) < 12
   ·have hl1:0 < is.length:=by rw[his,htt];exact hth.1
    have hl2:is.length≤100:=by rw[his,htt];exact hth.2
    obtain ⟨q1,q2,q3⟩:=ZdF (n:=points[k]) (m:=Int.ofNat is.length) (by simp only[Int.ofNat_eq_natCast];omega) (by simp only[Int.ofNat_eq_natCast];omega)
    rw[decide_eq_true h12,Zi,Zag,Ze,if_pos rfl,Ze,if_pos (by rw[nng,ZQ hk];rfl),Int.toNat_natCast,ZG hk,Ze,if_pos q1,Ze,if_pos (by rw[decide_eq_true q2,decide_eq_true q3];rfl),Zs (by omega)]
    exact ih _ (by rw[List.length_set];exact his)
   ·rw[decide_eq_false h12]
    exact tail is his _
 have hmk:∀N:Nat,N≤100→((((Int.ofNat N)==(Int.ofNat N))&&(decide ((0:Int)≤(Int.ofNat N))))&&(decide (((Int.ofNat N)*(1:Int))≤(limit:Int))))=true:=fun N hN=>by
  rw[beq_self_eq_true,decide_eq_true (show (0:Int)≤Int.ofNat N from Int.natCast_nonneg _),Bool.true_and,Bool.true_and]
  refine decide_eq_true ?_
  show ((N:Nat):Int)*1≤((35184372088832:Nat):Int)
  omega
 rw[hu,Ze,if_pos hin,Int.toNat_natCast,Ze,if_pos (hmk _ hth.2)]
 exact marks 0 (Nat.zero_le _) _ (by rw[List.length_replicate,htt])
end Go.Ev
end

section
open Go Go.Ev
namespace Go.Ev
noncomputable section
theorem ZwL (l:List (List (El Zr))) (t:Int) (points:List Int) (hk:Zoi l t points=true):CallOK Go.Proofs.Tryz.prog 3 (toForms Zab (l,t,points,())) (ZfX (Zit l t points),tps (toForms Zab (l,t,points,()))):=by
 obtain ⟨h1,h2⟩:=ZqL Zwa
 obtain ⟨n,hn⟩:=Zn (c:=Zfy) (K:=fun v=>(ZfX v,tps (toForms Zab (l,t,points,())))) (S:=Zbx l t points) (by kernel_rfl) (Zwv l t points) (Zvq l t points) (Zw9 l t points hk)
 exact ZvZ (f:=3) (c:=Zfy) h1 h2 (by kernel_rfl) (by kernel_rfl) (by kernel_rfl) hn
end
end Go.Ev
end

section
namespace Go.Ev
open Go
theorem Ztw (a:Args Zab) (ha:smallArgs Zab a):CallOK Go.Proofs.Tryz.prog ZuI (toForms Zab a) (.d .bool true,tps (toForms Zab a)):=by
 obtain ⟨l,t,points,_⟩:=a
 exact ZwL l t points rfl
end Go.Ev
end

/- Part of the proof of: With an access more in another thread no delay is gone: for every input the law answers true. -/
import Derived.Test.YtgdfhjnbdmgjmaaDoorCon1
set_option maxRecDepth 100000
set_option linter.unusedSectionVars false
set_option linter.unusedVariables false
set_option linter.unusedSimpArgs false
section
open Go
namespace Go.Ev
theorem putAll_ok {n:Nat} (hn:n < 4611686018427387904) {B:Nat→Bool} :∀(xs:List Nat) (d:SetD) (M:Nat→Bool),(∀x∈xs,x < n)→SetOK d n M→SetOK (putAll d (xs.map Int.ofNat)) n fun k=>M k || xs.contains k
 | [],d,M,_,h=>h.congr' fun j=>by simp
 | x :: xs,d,M,hx,h=>by
  have h1:=(h.putO hn (hx x (by simp))).2
  have h2:=putAll_ok (B:=B) hn xs _ _ (fun y hy=>hx y (by simp[hy])) h1
  refine h2.congr' fun j=>?_
  rw[List.contains_cons,Bool.or_assoc]
theorem putAll_list {n:Nat} (hn:n < 4611686018427387904) {B:Nat→Bool} :SetOK (putAll ((n:Int),[]) (listOf n B)) n fun k=>decide (k < n)&&B k:=by
 have:=putAll_ok (B:=B) hn ((List.range n).filter B) ((n:Int),[]) _ (fun x hx=>List.mem_range.1 (List.mem_filter.1 hx).1) (SetOK.new n)
 refine this.congr' fun j=>?_
 rw[Bool.false_or,Bool.eq_iff_iff,List.contains_iff_mem,List.mem_filter,List.mem_range,Bool.and_eq_true,decide_eq_true_eq]
theorem new_eq {n:Nat} (hn:n < 4611686018427387904):v_bits_New (Int.ofNat n)=((n:Int),[]):=by
 unfold v_bits_New
 simp
 omega
section
variable {p:El T_api_Prog}
theorem back_ok (hk:k_delay_Pairs p=true) {r:Nat} (hr:r < (ofC p).length):SetOK (dBack p (ofC p) (r:Int)) (ofC p).length fun k=>decide (k < (ofC p).length)&&backB p (ofC p) r k:=by
 obtain ⟨hs,hd⟩:=delayOK hk
 have hn:(ofC p).length < 4611686018427387904:=Nat.lt_trans hd.len (by decide)
 unfold dBack
 rw[new_eq hn]
 unfold v_clash_Back
 rw[if_pos ⟨Int.natCast_nonneg r,Int.ofNat_lt.2 hr⟩,Int.toNat_natCast]
 exact putAll_list hn
theorem hit_eq (hk:k_delay_Pairs p=true) {s r:Nat} (hs:s < (ofC p).length) (hr:r < (ofC p).length) (ht:thA (ofC p) r=thA (ofC p) s):
  hitP p (ofC p) (s:Int) (frS p (ofC p) (thA (ofC p) s) (s:Int)) (r:Int)=(fromB (thrOf p (ofC p) s) (inA (ofC p) s) (inA (ofC p) r).toNat&&backB p (ofC p) r s):=by
 obtain ⟨hsm,hd⟩:=delayOK hk
 have hn:(ofC p).length < 4611686018427387904:=Nat.lt_trans hd.len (by decide)
 obtain ⟨t0,t1,hf,i0,i1⟩:=acc_facts hsm hs
 obtain ⟨_,_,_,j0,j1⟩:=acc_facts hsm hr
 have et:thrOf p (ofC p) r=thrOf p (ofC p) s:=by unfold thrOf;rw[ht]
 rw[et] at j1
 have hlen:(thrOf p (ofC p) s).length < 4611686018427387904:=Nat.lt_trans (flowOK_len hf) (by decide)
 have e1:frS p (ofC p) (thA (ofC p) s) (s:Int)=putAll (((thrOf p (ofC p) s).length:Int),[]) (listOf (thrOf p (ofC p) s).length (fromB (thrOf p (ofC p) s) (inA (ofC p) s))):=by
  unfold frS
  rw[show insP p (thA (ofC p) s)=thrOf p (ofC p) s from rfl,new_eq hlen]
  rfl
 have h1:=putAll_list hlen (B:=fromB (thrOf p (ofC p) s) (inA (ofC p) s))
 rw[←e1] at h1
 have h2:=back_ok hk hr
 have e2:∀(x:SetD) (i:Int),(v_bits_Set_Has x i).1=hasS x i:=fun _ _=>rfl
 have g1:(v_bits_Set_Has (frS p (ofC p) (thA (ofC p) s) (s:Int)) (inA (ofC p) r)).1=fromB (thrOf p (ofC p) s) (inA (ofC p) s) (inA (ofC p) r).toNat:=by
  rw[e2,h1.has hlen,decide_eq_true j0,decide_eq_true (show (inA (ofC p) r).toNat < (thrOf p (ofC p) s).length by omega),Bool.true_and,Bool.true_and]
 have g2:(v_bits_Set_Has (dBack p (ofC p) (r:Int)) (s:Int)).1=backB p (ofC p) r s:=by
  rw[e2,h2.has hn,decide_eq_true (Int.natCast_nonneg s),Int.toNat_natCast,decide_eq_true hs,Bool.true_and,Bool.true_and]
 unfold hitP
 rw[g2]
 have:(v_bits_Set_Has (frS p (ofC p) (thA (ofC p) s) (s:Int)) (List.getD (ofC p) (Int.toNat (r:Int)) (dflt T_api_Access)).2.1).1=fromB (thrOf p (ofC p) s) (inA (ofC p) s) (inA (ofC p) r).toNat:=by
  rw[Int.toNat_natCast]
  exact g1
 rw[this]
end
theorem flatMap_eqX {α β:Type} {f g:α→List β} {l:List α} (h:∀x∈l,f x=g x):l.flatMap f=l.flatMap g:=by
 rw[List.flatMap_def,List.flatMap_def,List.map_congr_left h]
theorem by_key {α β:Type} {key:α→Nat} {D:α→List β} :∀(T:Nat) (L:List α),L.Pairwise (fun a b=>key a≤key b)→(∀x∈L,key x < T)→((List.range T).flatMap fun t=>(L.filter fun x=>key x==t).flatMap D)=L.flatMap D
 | 0,L,_,h=>by
  cases L with
  | nil=>rfl
  | cons x L=>exact absurd (h x (by simp)) (Nat.not_lt_zero _)
 | T+1,L,hp,h=>by
  have split:∀L:List α,L.Pairwise (fun a b=>key a≤key b)→(∀x∈L,key x < T+1)→L=(L.filter fun x=>decide (key x < T))++L.filter fun x=>key x==T:=by
   intro L
   induction L with
   | nil=>intros;rfl
   | cons x L ih=>
    intro hp h
    obtain ⟨p1,p2⟩:=List.pairwise_cons.1 hp
    have ih:=ih p2 fun y hy=>h y (by simp[hy])
    by_cases hx:key x < T
    ·have hx':(key x==T)=false:=by rw[beq_eq_false_iff_ne];omega
     rw[List.filter_cons_of_pos (by simpa using hx),List.filter_cons_of_neg (by rw[hx'];exact Bool.false_ne_true),List.cons_append,←ih]
    ·have hk:key x=T:=by have:=h x (by simp);omega
     have hnone:L.filter (fun x=>decide (key x < T))=[]:=List.filter_eq_nil_iff.2 fun y hy=>by have:=p1 y hy;simp;omega
     rw[List.filter_cons_of_neg (by simpa using hx),List.filter_cons_of_pos (by simpa using hk),hnone,List.nil_append]
     rw[hnone,List.nil_append] at ih
     rw[←ih]
  have e:=split L hp h
  rw[List.range_succ,List.flatMap_append]
  have h1:((List.range T).flatMap fun t=>(L.filter fun x=>key x==t).flatMap D)=(L.filter fun x=>decide (key x < T)).flatMap D:=by
   rw[←by_key T (L.filter fun x=>decide (key x < T)) (hp.sublist List.filter_sublist) fun x hx=>by simpa using (List.mem_filter.1 hx).2]
   refine flatMap_eqX fun t ht=>?_
   rw[List.filter_filter]
   congr 1
   refine List.filter_congr fun x hx=>?_
   have:=List.mem_range.1 ht
   by_cases hk:key x=t
   ·simp[hk,this]
   ·simp[hk]
  rw[h1]
  simp only[List.flatMap_cons,List.flatMap_nil,List.append_nil]
  rw[←List.flatMap_append,←e]
theorem flat_if {α β γ:Type} {g:β→List γ} {f:α→β} {P H:α→Bool} {q:α→γ} :∀(l:List α),(∀x∈l,P x=true→g (f x)=if H x=true then [q x] else [])→((l.filter P).map f).flatMap g=(l.filter fun x=>P x&&H x).map q
 | [],_=>rfl
 | x :: l,h=>by
  have ih:=flat_if l fun y hy=>h y (by simp[hy])
  cases hP:P x with
  | false=>rw[List.filter_cons_of_neg (by simp[hP]),List.filter_cons_of_neg (by simp[hP]),ih]
  | true=>
   rw[List.filter_cons_of_pos hP,List.map_cons,List.flatMap_cons,h x (by simp) hP,ih]
   cases hH:H x with
   | false=>rw[List.filter_cons_of_neg (by simp[hP,hH])];simp
   | true=>rw[List.filter_cons_of_pos (by simp[hP,hH])];simp
theorem flat_filter {α β:Type} {P:α→Bool} {D:α→List β} :∀(l:List α),(l.flatMap fun x=>if P x=true then D x else [])=(l.filter P).flatMap D
 | []=>rfl
 | x :: l=>by
  cases hP:P x with
  | false=>rw[List.filter_cons_of_neg (by simp[hP]),List.flatMap_cons,flat_filter l];simp[hP]
  | true=>rw[List.filter_cons_of_pos hP,List.flatMap_cons,List.flatMap_cons,flat_filter l];simp[hP]
theorem key_le {p:El T_api_Prog} {a b:Nat} (ha:a < (ofC p).length) (hb:b < (ofC p).length) (h:a < b):thA (ofC p) a≤thA (ofC p) b:=by
 have ho:=List.pairwise_iff_getElem.1 (ofC_ord p) a b ha hb h
 have ga:accA (ofC p) a=(ofC p)[a]:=by unfold accA;rw[getD_lt ha]
 have gb:accA (ofC p) b=(ofC p)[b]:=by unfold accA;rw[getD_lt hb]
 rw[←ga,←gb] at ho
 have:∀t k q t' k' q':Int,ltNX t k q t' k' q'→t≤t':=fun t k q t' k' q' h=>by
  rcases h with h | ⟨h,_⟩ <;> omega
 exact this _ _ _ _ _ _ ho
theorem delays_eq {p:El T_api_Prog} (hk:k_delay_Pairs p=true):v_delay_Pairs p=v_ref3_Delays p:=by
 obtain ⟨hsm,hd⟩:=delayOK hk
 have facts:=fun i=>acc_facts (i:=i) hsm
 have hits:=fun s r=>hit_eq (s:=s) (r:=r) hk
 have keys:=fun a b=>key_le (p:=p) (a:=a) (b:=b)
 unfold v_delay_Pairs v_ref3_Delays delsFrom outN
 generalize ofC p=l at facts hits keys
 rw[Nat.sub_zero,←List.range_eq_range']
 have hD:∀s,delS p l s=if stB' l s=true then ((List.range l.length).filter fun r=>delB p l s r).map (delPair l s) else []:=fun s=>by
  unfold delS
  rw[←List.range_eq_range']
 rw[flatMap_eqX fun s _=>hD s,flat_filter]
 refine Eq.trans ?_ (by_key (key:=fun s=>(thA l s).toNat) p.2.length ((List.range l.length).filter fun s=>stB' l s) ?_ ?_)
 ·refine flatMap_eqX fun t ht=>?_
  have ht:=List.mem_range.1 ht
  rw[List.filter_filter]
  unfold outT v_delay_plain listOf
  rw[List.flatMap_map]
  have hf:(List.range l.length).filter (plB l (t:Int) true)=(List.range l.length).filter fun s=>((thA l s).toNat==t)&&stB' l s:=by
   refine List.filter_congr fun s hs=>?_
   obtain ⟨t0,_⟩:=facts s (List.mem_range.1 hs)
   unfold plB stB'
   rw[Bool.and_assoc]
   have e:(((List.getD l s (dflt T_api_Access)).1:Int)==(t:Int))=((thA l s).toNat==t):=by
    show (thA l s==(t:Int))=_
    rw[Bool.eq_iff_iff,beq_iff_eq,beq_iff_eq]
    omega
   have e2:((List.getD l s (dflt T_api_Access)).2.2.2.2.1==true)=(accA l s).2.2.2.2.1:=by
    show ((accA l s).2.2.2.2.1==true)=_
    cases (accA l s).2.2.2.2.1 <;> rfl
   rw[e2]
   exact congrArg (· &&_) e
  rw[hf]
  refine flatMap_eqX fun s hs=>?_
  obtain ⟨hs1,hs2⟩:=List.mem_filter.1 hs
  have hsN:=List.mem_range.1 hs1
  rw[Bool.and_eq_true,beq_iff_eq] at hs2
  obtain ⟨t0,_⟩:=facts s hsN
  have hth:thA l s=(t:Int):=by have:=hs2.1;omega
  unfold outS v_delay_plain listOf
  rw[flat_if (H:=fun r=>fromB (thrOf p l s) (inA l s) (inA l r).toNat&&backB p l r s) (q:=delPair l s)]
  ·congr 1
   refine List.filter_congr fun r hr=>?_
   unfold plB delB ldB'
   have e1:(((List.getD l r (dflt T_api_Access)).1:Int)==(t:Int))=(thA l r==thA l s):=by rw[hth];rfl
   have e2:((List.getD l r (dflt T_api_Access)).2.2.2.2.1==false)=! (accA l r).2.2.2.2.1:=by
    show ((accA l r).2.2.2.2.1==false)=_
    cases (accA l r).2.2.2.2.1 <;> rfl
   rw[e2,←Bool.and_assoc (thA l r==thA l s)]
   exact congrArg (fun x=>x&&_&&_&&_) e1
  ·intro r hr hP
   have hrN:=List.mem_range.1 hr
   unfold plB at hP
   rw[Bool.and_eq_true,Bool.and_eq_true] at hP
   have hth2:thA l r=(t:Int):=by have:=hP.1.1;exact eq_of_beq this
   have:=hits s r hsN hrN (hth2.trans hth.symm)
   rw[hth] at this
   show oneP p l (t:Int) (s:Int) (frS p l (t:Int) (s:Int)) (r:Int)=_
   unfold oneP
   rw[this]
   unfold delPair
   rw[hth]
   rfl
 ·refine List.Pairwise.filter _ ?_
  refine List.pairwise_lt_range.imp_of_mem fun {a b} ha hb h=>?_
  have:=keys a b (List.mem_range.1 ha) (List.mem_range.1 hb) h
  omega
 ·intro s hs
  obtain ⟨t0,t1,_⟩:=facts s (List.mem_range.1 (List.mem_filter.1 hs).1)
  omega
end Go.Ev
end

section
namespace Go.Ev
open Go
theorem setL_right (i:El T_api_Ins) (ls:List ByteArray):v_ins_Right (setL i ls)=v_ins_Right i:=rfl
theorem setL_to (i:El T_api_Ins) (ls:List ByteArray):(setL i ls).2.2.2.2.2.1=i.2.2.2.2.2.1:=rfl
theorem place_book {th:List (List (El T_api_Ins))} {k r s n:Int} (h:k=3∨k=4→placeOK k s n=true):placeC (symsB,th) (k,(r,(s,n)))=0:=by
 show placeN 3 _ k s n=0
 unfold placeN
 by_cases hk:k=3∨k=4
 ·rw[if_pos hk]
  have:=h hk
  unfold placeOK at this
  simp only[Bool.and_eq_true,decide_eq_true_eq,Bool.or_eq_true,beq_iff_eq] at this
  obtain ⟨h0,h3,hn⟩:=this
  rw[if_neg (by omega)]
  have hs:s=0∨s=1∨s=2:=by omega
  rcases hs with rfl | rfl | rfl
  ·rw[if_neg]
   rintro ⟨h1,h2⟩
   have h2:(1:Int)≤n:=h2
   rcases hn with hn | hn
   ·omega
   ·have hn:n < (1:Int):=hn
    omega
  ·rw[if_neg]
   rintro ⟨h1,h2⟩
   have h2:(2:Int)≤n:=h2
   rcases hn with hn | hn
   ·omega
   ·have hn:n < (2:Int):=hn
    omega
  ·rw[if_neg]
   rintro ⟨h1,h2⟩
   have h2:(1:Int)≤n:=h2
   rcases hn with hn | hn
   ·omega
   ·have hn:n < (1:Int):=hn
    omega
 ·rw[if_neg hk]
theorem insC_book {th:List (List (El T_api_Ins))} {many:Int} {i:El T_api_Ins} (h:BookOK many i) (ls:List ByteArray):insC (symsB,th) (setL i ls)=0:=by
 have hA:placeC (symsB,th) i.2.2.2.1=0:=place_book (k:=i.2.2.2.1.1) (r:=i.2.2.2.1.2.1) (s:=i.2.2.2.1.2.2.1) (n:=i.2.2.2.1.2.2.2) h.placeA
 have hB:placeC (symsB,th) i.2.2.2.2.1=0:=place_book (k:=i.2.2.2.2.1.1) (r:=i.2.2.2.2.1.2.1) (s:=i.2.2.2.2.1.2.2.1) (n:=i.2.2.2.2.1.2.2.2) h.placeB
 unfold insC
 rw[setL_right,h.right]
 show (if (0:Int)≠0 then _ else if placeC (symsB,th) i.2.2.2.1≠0 then _ else placeC (symsB,th) i.2.2.2.2.1)=0
 rw[hA,hB]
 rfl
theorem scanI_lab {p:El T_api_Prog} {K:List ByteArray→Int} :∀(x:List (El T_api_Ins)) (k:Nat) (seen:List ByteArray),
  (∀(j:Nat) (i:El T_api_Ins),x[j]? =some i→(i.2.2.2.2.2.2=[]∨i.2.2.2.2.2.2=[v_book_label ((k+j:Nat):Int)])∧insC p i=0)→(∀l∈seen,∃k',k' < k∧l=v_book_label (k':Int))→k+x.length≤100→scanI p K seen x=K (seen++labels x)
 | [],k,seen,_,_,_=>by simp[scanI,labels]
 | i :: r,k,seen,h,hs,hk=>by
  obtain ⟨hl,hi⟩:=h 0 i rfl
  rw[List.length_cons] at hk
  have hr:=fun seen' hs'=>scanI_lab (K:=K) r (k+1) seen' (fun j y hy=>by
   have:=h (j+1) y (by simpa using hy)
   rwa[show k+(j+1)=k+1+j by omega] at this) hs' (by omega)
  unfold scanI
  rcases hl with hl | hl
  ·rw[hl]
   unfold scanL
   rw[hi]
   simp only[ne_eq,not_true_eq_false,if_false]
   rw[hr seen fun l hl=>by obtain ⟨k',h1,h2⟩:=hs l hl;exact ⟨k',by omega,h2⟩]
   unfold labels
   rw[List.flatMap_cons,hl,List.nil_append]
  ·rw[hl,Nat.add_zero]
   unfold scanL
   rw[if_neg (by rw[(label_right (k:=(k:Int)) (by omega) (by omega)).1];decide)]
   have hns:seen.contains (v_book_label (k:Int))=false:=by
    rw[Bool.eq_false_iff]
    intro hc
    rw[List.contains_iff_mem] at hc
    obtain ⟨k',h1,h2⟩:=hs _ hc
    have:=label_inj (by omega) (by omega) h2
    omega
   rw[if_neg (by rw[hns];decide)]
   unfold scanL
   rw[hi]
   simp only[ne_eq,not_true_eq_false,if_false]
   rw[hr _ fun l hl=>by
    rcases List.mem_append.1 hl with hl | hl
    ·obtain ⟨k',h1,h2⟩:=hs l hl;exact ⟨k',by omega,h2⟩
    ·rw[List.mem_singleton] at hl;exact ⟨k,by omega,hl⟩]
   unfold labels
   rw[List.flatMap_cons,hl,Nat.add_zero,List.append_assoc]
theorem jumpC_lab {seen:List ByteArray} :∀ {x:List (El T_api_Ins)},(∀i∈x,((i.1==(10:Int)) || (i.1==(11:Int)))=true→seen.contains i.2.2.2.2.2.1=true)→jumpC seen x=0
 | [],_=>rfl
 | i :: r,h=>by
  unfold jumpC
  have ih:=jumpC_lab fun j hj=>h j (List.mem_cons_of_mem _ hj)
  by_cases hj:((i.1==(10:Int)) || (i.1==(11:Int)))=true
  ·rw[if_pos hj,if_pos (h i (List.mem_cons_self ..) hj)];exact ih
  ·rw[if_neg hj];exact ih
theorem threadB_get {a:List (El T_book_Act)} {n:Nat} (hn:n≤90) (ha:n≤a.length) {k:Nat} {i:El T_api_Ins} (h:(threadB a n)[k]? =some i):
  (k < n∧∃x,(baseT a n)[k]? =some x∧BookOK ((n+1:Nat):Int) x∧i=setL x (if sAt (baseT a n) n k then [v_book_label (k:Int)] else []))∨(k=n∧i=setL (bare 14) (if sAt (baseT a n) n k then [v_book_label (k:Int)] else [])):=by
 have hl:=baseT_len a n ha
 obtain ⟨hk,he⟩:=List.getElem?_eq_some_iff.1 h
 unfold threadB at hk he
 rw[withL_get hk] at he
 rw[withL_len,hl] at hk
 by_cases hkn:k < n
 ·obtain ⟨x,h1,h2⟩:=baseT_book hn hkn ha
  obtain ⟨h3,h4⟩:=List.getElem?_eq_some_iff.1 h1
  rw[h4] at he
  exact .inl ⟨hkn,_,h1,h2,he.symm⟩
 ·have hkn:k=n:=by omega
  subst hkn
  have:(baseT a k)[k]'(by omega)=bare 14:=by
   unfold baseT
   rw[List.getElem_append_right (by simp;omega)]
   simp
  rw[this] at he
  exact .inr ⟨rfl,he.symm⟩
theorem bare14_book (many:Int) (ls:List ByteArray) {th:List (List (El T_api_Ins))} :insC (symsB,th) (setL (bare 14) ls)=0:=by
 unfold insC
 rw[setL_right,bare_right (.inr (.inr rfl))]
 rfl
theorem labels_get {x:List (El T_api_Ins)} {k:Nat} {i:El T_api_Ins} {l:ByteArray} (h:x[k]? =some i) (hl:l∈i.2.2.2.2.2.2):(labels x).contains l=true:=by
 rw[List.contains_iff_mem]
 unfold labels
 exact List.mem_flatMap.2 ⟨i,List.mem_of_getElem? h,hl⟩
theorem threadC_book {a:List (El T_book_Act)} {n:Nat} (hn:n≤90) (ha:n≤a.length) {th:List (List (El T_api_Ins))} :threadC (symsB,th) (threadB a n)=0:=by
 have hlen:(threadB a n).length=n+1:=by unfold threadB;rw[withL_len,baseT_len a n ha]
 unfold threadC
 have hc:=countM_le (threadB a n)
 rw[if_neg (by omega),scanI_lab (threadB a n) 0 [] (fun j i h=>by
  rw[Nat.zero_add]
  rcases threadB_get hn ha h with ⟨_,x,_,hx,rfl⟩ | ⟨_,rfl⟩
  ·refine ⟨?_,insC_book hx _⟩
   show (if _ then [v_book_label (j:Int)] else [])=[]∨(if _ then [v_book_label (j:Int)] else [])=[v_book_label (j:Int)]
   split
   ·exact .inr rfl
   ·exact .inl rfl
  ·refine ⟨?_,bare14_book 0 _⟩
   show (if _ then [v_book_label (j:Int)] else [])=[]∨(if _ then [v_book_label (j:Int)] else [])=[v_book_label (j:Int)]
   split
   ·exact .inr rfl
   ·exact .inl rfl) (fun l hl=>by cases hl) (by omega)]
 rw[List.nil_append,endC_eq (by omega)]
 have hlast:(threadB a n)[(threadB a n).length - 1]? =some ((threadB a n)[(threadB a n).length - 1]'(by omega)):=List.getElem?_eq_getElem (by omega)
 have h14:(((threadB a n)[(threadB a n).length - 1]'(by omega)).1==(10:Int) || ((threadB a n)[(threadB a n).length - 1]'(by omega)).1==(14:Int))=true:=by
  rcases threadB_get hn ha hlast with ⟨h1,_⟩ | ⟨_,h2⟩
  ·omega
  ·rw[h2];rfl
 rw[if_pos h14]
 refine jumpC_lab fun i hi hj=>?_
 obtain ⟨k,hk⟩:=List.getElem?_of_mem hi
 rcases threadB_get hn ha hk with ⟨hkn,x,hx,hb,rfl⟩ | ⟨_,rfl⟩
 ·rw[setL_to]
  rcases hb.to with ⟨h1,h2,_⟩ | ⟨_,m,m0,m1,e⟩
  ·exfalso
   have hj:((x.1==(10:Int)) || (x.1==(11:Int)))=true:=hj
   simp only[Bool.or_eq_true,beq_iff_eq] at hj
   rcases hj with hj | hj
   ·exact h1 hj
   ·exact h2 hj
  ·rw[e]
   obtain ⟨q,rfl⟩:∃q:Nat,m=(q:Int):=⟨m.toNat,by omega⟩
   have hqn:q < n+1:=by omega
   have hq:(threadB a n)[q]? =some ((threadB a n)[q]'(by omega)):=List.getElem?_eq_getElem (by omega)
   have hs:sAt (baseT a n) n q=true:=by
    unfold sAt
    rw[List.any_eq_true]
    exact ⟨x,List.mem_of_getElem? (i:=k) (by rw[List.getElem?_take,if_pos hkn];exact hx),decide_eq_true e⟩
   refine labels_get hq ?_
   rcases threadB_get hn ha hq with ⟨_,y,_,_,h2⟩ | ⟨_,h2⟩
   ·rw[h2,hs];exact List.mem_singleton.2 rfl
   ·rw[h2,hs];exact List.mem_singleton.2 rfl
 ·cases hj
theorem small_book {a:List (El T_book_Act)} {n:Nat} (hn:n≤90) (ha:n≤a.length):smallThread (threadB a n)=true:=by
 have hlen:(threadB a n).length=n+1:=by unfold threadB;rw[withL_len,baseT_len a n ha]
 have hlab:∀i∈threadB a n,smallText i.2.2.2.2.2.1=true∧i.2.2.2.2.2.2.length≤1∧∀l∈i.2.2.2.2.2.2,smallText l=true:=fun i hi=>by
  obtain ⟨k,hk⟩:=List.getElem?_of_mem hi
  have hkl:=(List.getElem?_eq_some_iff.1 hk).1
  have hls:∀b:Bool,(if b=true then [v_book_label (k:Int)] else []).length≤1∧∀l∈(if b=true then [v_book_label (k:Int)] else []),smallText l=true:=fun b=>by
   cases b with
   | false=>exact ⟨by simp,fun l hl=>by simp at hl⟩
   | true=>exact ⟨by simp,fun l hl=>by
     rw[if_pos rfl,List.mem_singleton] at hl
     rw[hl];exact (label_right (by omega) (by omega)).2⟩
  rcases threadB_get hn ha hk with ⟨hkn,x,hx,hb,rfl⟩ | ⟨_,rfl⟩
  ·exact ⟨hb.small (by omega),hls _⟩
  ·exact ⟨(by decide:smallText (bs [])=true),hls _⟩
 have:=labels_le (t:=threadB a n) (n:=1) fun i hi=>(hlab i hi).2.1
 unfold smallThread
 simp only[Bool.and_eq_true,decide_eq_true_eq,List.all_eq_true]
 exact ⟨by omega,by omega,fun i hi=>⟨(hlab i hi).1,(hlab i hi).2.2⟩⟩
theorem symsC_book (K:Int):symsC K [] symsB=K:=by kernel_rfl
theorem thsC_zero {p:El T_api_Prog} :∀ {th:List (List (El T_api_Ins))},(∀t∈th,threadC p t=0)→thsC p th=0
 | [],_=>rfl
 | t :: r,h=>by
  unfold thsC
  rw[h t (List.mem_cons_self ..)]
  simp only[ne_eq,not_true_eq_false,if_false]
  exact thsC_zero fun x hx=>h x (List.mem_cons_of_mem _ hx)
theorem book_valid (l:List (List (El T_book_Act))) {threads many:Int} (h0:0≤threads) (h1:threads≤64) (m0:0≤many) (m1:many≤90):checkC (v_book_Prog l threads many)=0∧smallProg (v_book_Prog l threads many)=true∧k_book_Prog l threads many=true:=by
 refine ⟨?_,?_,?_⟩
 ·unfold checkC v_book_Prog
  show (if 64 < symsB.length∨64 < ((l.take threads.toNat).map fun a=>threadB a (min a.length many.toNat)).length then (10:Int) else symsC (thsC _ ((l.take threads.toNat).map fun a=>threadB a (min a.length many.toNat))) [] symsB)=0
  rw[if_neg,symsC_book]
  ·exact thsC_zero fun t ht=>by
    obtain ⟨a,_,rfl⟩:=List.mem_map.1 ht
    exact threadC_book (by omega) (by omega)
  ·rw[List.length_map,List.length_take]
   have:symsB.length=3:=rfl
   omega
 ·unfold smallProg v_book_Prog
  simp only[Bool.and_eq_true,List.all_eq_true]
  refine ⟨?_,fun t ht=>?_⟩
  ·have:symsB.all (fun s=>smallText s.1)=true:=by decide+kernel
   rw[List.all_eq_true] at this
   exact this
  ·obtain ⟨a,_,rfl⟩:=List.mem_map.1 ht
   exact small_book (by omega) (by omega)
 ·unfold k_book_Prog
  simp only[Bool.and_eq_true,decide_eq_true_eq]
  omega
end Go.Ev
end

section
open Go
namespace Go.Ev
end Go.Ev
end

section
open Go Go.Ev
namespace Go.Ev
noncomputable section
end
end Go.Ev
end

section
open Go
namespace Go.Ev
def v_book_SameInts (a b:List Int):Bool:=decide (a=b)
def k_book_SameInts (a b:List Int):Bool:=decide (a.length < 4611686018427387904)
end Go.Ev
end

section
open Go
namespace Go.Ev
theorem listOf_le {n:Nat} {M:Nat→Bool} :(listOf n M).length≤n:=by rw[listOf_length];exact card_le
theorem listOf_contains {n:Nat} {M:Nat→Bool} {x:Int} :(listOf n M).contains x=(decide (0≤x∧x < (n:Int))&&M x.toNat):=by
 rw[Bool.eq_iff_iff,List.contains_iff_mem,listOf_mem]
 simp only[Bool.and_eq_true,decide_eq_true_eq]
 constructor
 ·rintro ⟨i,h1,h2,rfl⟩;exact ⟨by omega,by rw[Int.toNat_natCast];exact h2⟩
 ·rintro ⟨h1,h2⟩;exact ⟨x.toNat,by omega,h2,by omega⟩
theorem same_self {l:List Int} (h:l.length < 1099511627776):k_book_SameInts l l=true∧v_book_SameInts l l=true:=⟨decide_eq_true (by omega),decide_eq_true rfl⟩
theorem ends_road {t:List (El T_api_Ins)} {points:List Int} (h:flowOK t=true) (hp:points.length < 4611686018427387904) (s:Int):
  k_road_Ends t points s=true∧k_book_SameInts (v_road_Ends t points s) (v_road_Ends t points s)=true∧v_book_SameInts (v_road_Ends t points s) (v_road_Ends t points s)=true:=by
 have k1:k_road_Ends t points s=true:=by unfold k_road_Ends;rw[h,decide_eq_true hp];rfl
 have hl:=flowOK_len h
 exact ⟨k1,same_self (by unfold v_road_Ends;have:= @listOf_le t.length (endsB t points s);omega)⟩
theorem free_road {t:List (El T_api_Ins)} {points:List Int} (h:flowOK t=true) (hp:points.length < 4611686018427387904) (s l:Int):
  k_road_Free t points s l=true∧v_road_Free t points s l=(decide (0≤l∧l < (t.length:Int))&&endsB t points s l.toNat):=by
 obtain ⟨k1,_⟩:=ends_road h hp s
 have hl:=flowOK_len h
 have ki:k_slices_Index___int_int_ (v_road_Ends t points s) l=true:=decide_eq_true (by unfold v_road_Ends;have:= @listOf_le t.length (endsB t points s);omega)
 have vr:v_road_Free t points s l=(decide (0≤l∧l < (t.length:Int))&&endsB t points s l.toNat):=by
  unfold v_road_Free k_slices_Contains___int_int_ v_slices_Contains___int_int_
  rw[k1,ki]
  simp only[cond_true]
  unfold v_slices_Index___int_int_
  rw[indexI_ge]
  unfold v_road_Ends
  exact listOf_contains
 refine ⟨?_,vr⟩
 unfold k_road_Free k_slices_Contains___int_int_;rw[k1,ki];rfl
end Go.Ev
end

section
open Go
namespace Go.Ev
end Go.Ev
end

section

end

section
open Go Go.Ev
namespace Go.Ev
noncomputable section
end
end Go.Ev
end

section
open Go
namespace Go.Ev
end Go.Ev
end

section
open Go
namespace Go.Ev
noncomputable def v_ref3_ends (t:List (El T_api_Ins)) (points:List Int) (s:Int):List Bool:=rowOf t.length (endsB t points s)
def k_ref3_ends (t:List (El T_api_Ins)) (points:List Int) (s:Int):Bool:=flowOK t&&decide (points.length < 4611686018427387904)
end Go.Ev
end

section
namespace Go.Ev
open Go
end Go.Ev
end

section
namespace Go.Ev
open Go
end Go.Ev
end

section

end

section
open Go Go.Ev
namespace Go.Ev
noncomputable section
def v_ref3_Free (t:List (El T_api_Ins)) (points:List Int) (s:Int) (l:Int):Bool:=bif (decide (l≥(0:Int))) then bif (decide (l < (Int.ofNat (List.length t)))) then bif (k_ref3_ends t points s) then bif ((decide ((0:Int)≤l))&&(decide (l < (Int.ofNat (List.length (v_ref3_ends t points s)))))) then (List.getD (v_ref3_ends t points s) (Int.toNat l) (dflt .bool)) else false else false else false else false
def k_ref3_Free (t:List (El T_api_Ins)) (points:List Int) (s:Int) (l:Int):Bool:=bif (decide (l≥(0:Int))) then bif (decide (l < (Int.ofNat (List.length t)))) then bif (k_ref3_ends t points s) then bif ((decide ((0:Int)≤l))&&(decide (l < (Int.ofNat (List.length (v_ref3_ends t points s)))))) then true else false else false else true else true
end
end Go.Ev
end

section
open Go
namespace Go.Ev
theorem free_eqO {t:List (El T_api_Ins)} {points:List Int} (h:flowOK t=true) (hp:points.length < 4611686018427387904) (s l:Int):
  k_road_Free t points s l=true∧k_ref3_Free t points s l=true∧v_ref3_Free t points s l=v_road_Free t points s l∧v_road_Free t points s l=(decide (0≤l∧l < (t.length:Int))&&endsB t points s l.toNat):=by
 have hl:=flowOK_len h
 have k4:k_ref3_ends t points s=true:=by unfold k_ref3_ends;rw[h,decide_eq_true hp];rfl
 obtain ⟨kr,vr⟩:=free_road h hp s l
 refine ⟨kr,?_,?_,vr⟩
 ·unfold k_ref3_Free
  by_cases h0:l≥0
  ·rw[decide_eq_true h0,cond_true]
   by_cases h1:l < Int.ofNat t.length
   ·have h2:decide (l < Int.ofNat (v_ref3_ends t points s).length)=true:=by
     unfold v_ref3_ends
     rw[rowOf_length];exact decide_eq_true h1
    simp only[decide_eq_true h1,k4,h2,Bool.and_self,Bool.true_and,cond_true]
   ·rw[decide_eq_false h1];rfl
  ·rw[decide_eq_false h0];rfl
 ·rw[vr]
  unfold v_ref3_Free
  by_cases h0:l≥0
  ·rw[decide_eq_true h0,cond_true]
   by_cases h1:l < Int.ofNat t.length
   ·have h2:decide (l < Int.ofNat (v_ref3_ends t points s).length)=true:=by
     unfold v_ref3_ends
     rw[rowOf_length];exact decide_eq_true h1
    simp only[decide_eq_true h1,k4,h2,Bool.and_self,Bool.true_and,cond_true]
    rw[decide_eq_true (show 0≤l∧l < (t.length:Int) from ⟨h0,h1⟩),Bool.true_and]
    unfold v_ref3_ends
    obtain ⟨j,rfl⟩:=Int.eq_ofNat_of_zero_le h0
    rw[Int.toNat_natCast,rowOf_getD (by have:(j:Int) < (t.length:Int):=h1;omega)]
   ·rw[decide_eq_false h1,decide_eq_false (show ¬(0≤l∧l < (t.length:Int)) from fun h=>h1 h.2)];rfl
  ·rw[decide_eq_false h0,decide_eq_false (show ¬(0≤l∧l < (t.length:Int)) from fun h=>h0 h.1)];rfl
end Go.Ev
end

section

end

section
open Go
namespace Go.Ev
noncomputable def openR (p:El T_api_Prog) (x:El T_api_Pair):Bool:=v_ref3_Free (List.getD p.2 (Int.toNat x.1) (dflt (.sl T_api_Ins))) [] x.2.1 x.2.2
noncomputable def openRK (p:El T_api_Prog) (x:El T_api_Pair):Bool:=(decide ((0:Int)≤x.1)&&decide (x.1 < Int.ofNat (List.length p.2)))&&k_ref3_Free (List.getD p.2 (Int.toNat x.1) (dflt (.sl T_api_Ins))) [] x.2.1 x.2.2
noncomputable def v_ref3_Open (p:El T_api_Prog):List (El T_api_Pair):=(v_ref3_Delays p).filter (openR p)
noncomputable def k_ref3_Open (p:El T_api_Prog):Bool:=k_ref3_Delays p&&(decide ((v_ref3_Delays p).length < 10000000000)&&(v_ref3_Delays p).all (openRK p))
end Go.Ev
end

section
open Go Go.Ev
namespace Go.Ev
noncomputable section
end
end Go.Ev
end

section
open Go
namespace Go.Ev
end Go.Ev
end

section
open Go
namespace Go.Ev
def fromX (t:List (El T_api_Ins)) (i:Int) (j:Nat):Bool:=(comeL (fun k j=>nextB t (k:Int) j) (nextB t i) t.length).getD j false
theorem fromX_eq (t:List (El T_api_Ins)) (i:Int) (j:Nat):fromB t i j=fromX t i j:=comeL_eq (fun j=>nextB_lt) (fun k j=>nextB_lt) j
def behX (p:El T_api_Prog) (l:List Acc) (c d:Nat):Bool:=
 decide (d < l.length)&&(thA l d==thA l c&&(d==c || ((inA l d==inA l c&&decide (paA l d > paA l c)) || (decide (0≤inA l d)&&fromX (thrOf p l c) (inA l c) (inA l d).toNat))))
theorem behX_eq (p:El T_api_Prog) (l:List Acc) (c d:Nat):behB p l c d=behX p l c d:=by
 unfold behB behX
 rw[fromX_eq]
def chX (p:El T_api_Prog) (l:List Acc) (a i k:Nat):Bool:=decide (k < l.length)&&(!(thA l k==thA l a)&&(clB l i k || behX p l i k))
def isX (p:El T_api_Prog) (l:List Acc) (a k:Nat):Bool:=(comeL (chX p l a) (chS l a) l.length).getD k false
theorem isX_eq (p:El T_api_Prog) (l:List Acc) (a k:Nat):isB p l a k=isX p l a k:=by
 have e:chB p l a=chX p l a:=by
  funext i k
  unfold chB chX
  rw[behX_eq]
 unfold isB isX
 rw[e]
 refine comeL_eq (fun j h=>?_) (fun k j h=>?_) k
 ·unfold chS at h
  rw[Bool.and_eq_true,decide_eq_true_eq] at h
  exact h.1
 ·unfold chX at h
  rw[Bool.and_eq_true,decide_eq_true_eq] at h
  exact h.1
def backX (p:El T_api_Prog) (l:List Acc) (a b:Nat):Bool:=thA l b==thA l a&&(List.range l.length).any fun k=>isX p l a k&&clB l k b
theorem backX_eq (p:El T_api_Prog) (l:List Acc) (a b:Nat):backB p l a b=backX p l a b:=by
 unfold backB backX
 simp only[isX_eq]
end Go.Ev
end

section
open Go
namespace Go.Ev
theorem dels_len (p:El T_api_Prog):(v_ref3_Delays p).length≤(ofC p).length*(ofC p).length:=by
 unfold v_ref3_Delays delsFrom
 have:=flat_len (delS_len p (ofC p)) (List.range' 0 ((ofC p).length - 0))
 rw[List.length_range',Nat.sub_zero] at this
 exact this
theorem dels_mem {p:El T_api_Prog} {x:El T_api_Pair} (h:x∈v_ref3_Delays p):∃s r,s < (ofC p).length∧r < (ofC p).length∧stB' (ofC p) s=true∧delB p (ofC p) s r=true∧x=delPair (ofC p) s r:=by
 unfold v_ref3_Delays delsFrom at h
 obtain ⟨s,hs,hx⟩:=List.mem_flatMap.1 h
 rw[Nat.sub_zero,←List.range_eq_range'] at hs
 unfold delS at hx
 split at hx
 ·rename_i hst
  obtain ⟨r,hr,rfl⟩:=List.mem_map.1 hx
  obtain ⟨hr1,hr2⟩:=List.mem_filter.1 hr
  rw[←List.range_eq_range'] at hr1
  exact ⟨s,r,List.mem_range.1 hs,List.mem_range.1 hr1,hst,hr2,rfl⟩
 ·cases hx
theorem open_fact {p:El T_api_Prog} (h:smallAll p=true) {x:El T_api_Pair} (hx:x∈v_ref3_Delays p):openK p x=true∧openRK p x=true∧openR p x=openB p x:=by
 obtain ⟨s,r,hs,hr,h1,h2,rfl⟩:=dels_mem hx
 obtain ⟨t0,t1,hf,i0,i1⟩:=acc_facts h hs
 have hf':flowOK (List.getD p.2 (Int.toNat (delPair (ofC p) s r).1) (dflt (.sl T_api_Ins)))=true:=hf
 obtain ⟨f1,f2,f3,_⟩:=free_eqO hf' (points:=[]) (by decide) (delPair (ofC p) s r).2.1 (delPair (ofC p) s r).2.2
 have hin:(decide ((0:Int)≤(delPair (ofC p) s r).1)&&decide ((delPair (ofC p) s r).1 < Int.ofNat (List.length p.2)))=true:=by
  rw[Bool.and_eq_true,decide_eq_true_eq,decide_eq_true_eq];exact ⟨t0,t1⟩
 unfold openK openRK openR openB
 rw[hin,f1,f2]
 exact ⟨rfl,rfl,f3⟩
theorem delays_all {p:El T_api_Prog} (h:smallAll p=true) (hN:(ofC p).length≤20000) (hT:p.2.length≤100):
  k_delay_Pairs p=true∧k_ref3_Delays p=true∧v_ref3_Delays p=v_delay_Pairs p∧k_book_SamePairs (v_delay_Pairs p) (v_delay_Pairs p)=true∧k_delay_Open p=true∧k_ref3_Open p=true∧v_ref3_Open p=v_delay_Open p∧k_book_SamePairs (v_delay_Open p) (v_delay_Open p)=true:=by
 have hNN:(ofC p).length*(ofC p).length≤20000*20000:=Nat.mul_le_mul hN hN
 have hTN:p.2.length*((ofC p).length*(ofC p).length)≤100*(20000*20000):=Nat.mul_le_mul hT hNN
 have k1:k_delay_Pairs p=true:=by
  unfold k_delay_Pairs
  rw[h,decide_eq_true (show (ofC p).length < 1000000000 by omega),decide_eq_true (show p.2.length < 1000000000 by omega),decide_eq_true]
  ·rfl
  ·unfold limit;omega
 have k2:k_ref3_Delays p=true:=by unfold k_ref3_Delays;rw[h,decide_eq_true (show (ofC p).length < 1000000 by omega)];rfl
 have e:=delays_eq k1
 have hl:=dels_len p
 have hl2:(v_ref3_Delays p).length≤400000000:=by omega
 have k3:k_delay_Open p=true:=by
  unfold k_delay_Open
  rw[k1,e,decide_eq_true (Nat.lt_of_le_of_lt hl2 (by decide)),Bool.true_and,Bool.true_and]
  exact List.all_eq_true.2 fun x hx=>(open_fact h hx).1
 have k4:k_ref3_Open p=true:=by
  unfold k_ref3_Open
  rw[k2,decide_eq_true (Nat.lt_of_le_of_lt hl2 (by decide)),Bool.true_and,Bool.true_and]
  exact List.all_eq_true.2 fun x hx=>(open_fact h hx).2.1
 have e2:v_ref3_Open p=v_delay_Open p:=by
  unfold v_ref3_Open v_delay_Open
  rw[e]
  exact List.filter_congr fun x hx=>(open_fact h hx).2.2
 refine ⟨k1,k2,e.symm,decide_eq_true (by rw[e];exact Nat.lt_of_le_of_lt hl2 (by decide)),k3,k4,e2,decide_eq_true ?_⟩
 have:(v_delay_Open p).length≤(v_delay_Pairs p).length:=by unfold v_delay_Open;exact List.length_filter_le _ _
 rw[e] at this
 exact Nat.lt_of_le_of_lt (Nat.le_trans this hl2) (by decide)
def delBX (p:El T_api_Prog) (l:List Acc) (s r:Nat):Bool:=((thA l r==thA l s)&&ldB' l r)&&(fromX (thrOf p l s) (inA l s) (inA l r).toNat&&backX p l r s)
def delsX (p:El T_api_Prog) (l:List Acc):List (El T_api_Pair):=(List.range' 0 l.length).flatMap fun s=>if stB' l s then ((List.range' 0 l.length).filter fun r=>delBX p l s r).map (delPair l s) else []
theorem delsX_eq (p:El T_api_Prog):v_ref3_Delays p=delsX p (ofC p):=by
 unfold v_ref3_Delays delsFrom delsX delS
 rw[Nat.sub_zero]
 have:∀l s r,delB p l s r=delBX p l s r:=fun l s r=>by unfold delB delBX;rw[fromX_eq,backX_eq]
 simp only[this]
def endsX (t:List (El T_api_Ins)) (points:List Int) (s:Int) (j:Nat):Bool:=(comeL (stepB t points) (firstB t points s) t.length).getD j false
theorem endsX_eq (t:List (El T_api_Ins)) (points:List Int) (s:Int) (j:Nat):endsB t points s j=endsX t points s j:=comeL_eq (fun j=>firstB_lt) (fun k j=>stepB_lt) j
end Go.Ev
end

section
open Go
namespace Go.Ev
def relab (i:El T_api_Ins) (ls:List ByteArray):El T_api_Ins:=(i.1,(i.2.1,(i.2.2.1,(i.2.2.2.1,(i.2.2.2.2.1,(i.2.2.2.2.2.1,ls))))))
def moreT (x k0:El T_api_Ins) (ks:List (El T_api_Ins)):List (El T_api_Ins):=relab x k0.2.2.2.2.2.2 :: relab k0 [] :: ks
def shA (t:Int) (a:Acc):Acc:=if a.1=t then (a.1,((show Int from a.2.1)+1,a.2.2)) else a
theorem shA_th (t:Int) (a:Acc):(shA t a).1=a.1:=by unfold shA;split <;> rfl
theorem shA_rest (t:Int) (a:Acc):(shA t a).2.2=a.2.2:=by unfold shA;split <;> rfl
theorem shA_in (t:Int) (a:Acc):(show Int from (shA t a).2.1)=if a.1=t then (show Int from a.2.1)+1 else a.2.1:=by unfold shA;split <;> rfl
theorem accI_sh (t k:Nat) (i:El T_api_Ins):accI t (k+1) i=(accI t k i).map (shA (t:Int)):=by
 have h:∀(r:Int×Int×Bool×Bool),shA (t:Int) ((t:Int),((k:Int),r))=((t:Int),(((k+1:Nat):Int),r)):=fun r=>by
  unfold shA
  rw[if_pos rfl]
  rfl
 unfold accI
 rw[List.map_append]
 split <;> split <;> simp only[List.map_cons,List.map_nil,List.nil_append,List.append_nil,h]
theorem accT_sh (t:Nat):∀(k:Nat) (l:List (El T_api_Ins)),accT t (k+1) l=(accT t k l).map (shA (t:Int))
 | _,[]=>rfl
 | k,i :: r=>by
  rw[accT,accT,List.map_append,accI_sh,accT_sh t (k+1) r]
theorem accT_relab (t k:Nat) (i:El T_api_Ins) (ls:List ByteArray) (r:List (El T_api_Ins)):accT t k (relab i ls :: r)=accT t k (i :: r):=rfl
theorem accP_app:∀(l m:List (List (El T_api_Ins))) (t:Nat),accP t (l++m)=accP t l++accP (t+l.length) m
 | [],m,t=>rfl
 | x :: l,m,t=>by
  rw[List.cons_append,accP,accP,accP_app l m (t+1),List.append_assoc,List.length_cons,show t+1+l.length=t+(l.length+1) by omega]
theorem accP_ne {l:List (List (El T_api_Ins))} {s t:Nat} (h:∀u,u < l.length→s+u≠t):(accP s l).map (shA (t:Int))=accP s l:=by
 refine (List.map_congr_left fun a ha=>?_).trans (List.map_id _)
 obtain ⟨u,x,j,i,h1,_,h3⟩:=accP_memX.1 ha
 have h4:=(accI_atX h3).1
 have hu:=h u (List.getElem?_eq_some_iff.1 h1).1
 unfold shA
 rw[if_neg (fun e=>?_)]
 ·rfl
 ·have e:(show Int from a.1)=(t:Int):=e
  rw[h4] at e
  omega
theorem acc_more {L R:List (List (El T_api_Ins))} (x k0:El T_api_Ins) (ks:List (El T_api_Ins)):
  ∃A X B:List Acc,accP 0 (L++(k0 :: ks) :: R)=A++B∧accP 0 (L++moreT x k0 ks :: R)=A++(X++B.map (shA (L.length:Int)))∧A.map (shA (L.length:Int))=A:=by
 refine ⟨accP 0 L,accI L.length 0 x,accT L.length 0 (k0 :: ks)++accP (L.length+1) R,?_,?_,accP_ne fun u hu=>by omega⟩
 ·rw[accP_app,Nat.zero_add]
  rfl
 ·rw[accP_app,Nat.zero_add,accP,List.map_append,accP_ne (s:=L.length+1) (fun u hu=>by omega)]
  unfold moreT
  rw[accT_relab,accT,accT_relab,accT_sh,List.append_assoc]
def phi (n d i:Nat):Nat:=if i < n then i else i+d
structure More (t:Int) (l l':List Acc) (f:Nat→Nat):Prop where
 lt:∀i,i < l.length→f i < l'.length
 at_:∀i,i < l.length→accA l' (f i)=shA t (accA l i)
theorem more_phi {t:Int} {A X B:List Acc} (hA:A.map (shA t)=A):More t (A++B) (A++(X++B.map (shA t))) (phi A.length X.length):=by
 refine ⟨fun i hi=>?_,fun i hi=>?_⟩
 ·simp only[List.length_append,List.length_map] at hi ⊢
  unfold phi
  split <;> omega
 ·unfold accA phi
  by_cases h:i < A.length
  ·rw[if_pos h,List.getD_eq_getElem?_getD,List.getD_eq_getElem?_getD,List.getElem?_append_left h,List.getElem?_append_left h]
   conv=>lhs;rw[←hA]
   rw[List.getElem?_map,List.getElem?_eq_getElem h]
   rfl
  ·simp only[List.length_append] at hi
   rw[if_neg h,List.getD_eq_getElem?_getD,List.getD_eq_getElem?_getD,List.getElem?_append_right (by omega),List.getElem?_append_right (by omega),List.getElem?_append_right (by omega),List.getElem?_map,
    show i+X.length - A.length - X.length=i - A.length by omega,List.getElem?_eq_getElem (show i - A.length < B.length by omega)]
   rfl
theorem findI_more {label:ByteArray} :∀ {l:List (El T_api_Ins)} {k:Nat},findI label l (k+1)=if findI label l k= -1 then -1 else findI label l k+1
 | [],k=>rfl
 | x :: r,k=>by
  unfold findI
  split
  ·rw[if_neg (by omega)];omega
  ·exact findI_more
theorem find_more {label:ByteArray} (x k0:El T_api_Ins) (ks:List (El T_api_Ins)):findI label (moreT x k0 ks) 0=if findI label (k0 :: ks) 0≤0 then findI label (k0 :: ks) 0 else findI label (k0 :: ks) 0+1:=by
 have e1:findI label (moreT x k0 ks) 0=if k0.2.2.2.2.2.2.contains label=true then ((0:Nat):Int) else findI label ks 2:=by
  unfold moreT
  rw[findI,findI]
  rw[show (relab k0 []).2.2.2.2.2.2.contains label=false from rfl]
  rfl
 have e2:findI label (k0 :: ks) 0=if k0.2.2.2.2.2.2.contains label=true then ((0:Nat):Int) else findI label ks 1:=by rw[findI]
 rw[e1,e2]
 split
 ·rfl
 ·have:= @findI_more label ks 1
  rw[this]
  rcases @findI_ge label ks 1 with h | h
  ·rw[if_pos h,h,if_pos (by omega)]
  ·rw[if_neg (by omega),if_neg (by omega)]
section
variable {x k0:El T_api_Ins} {ks:List (El T_api_Ins)}
theorem get_more (i:Nat):∃ls,(moreT x k0 ks).getD (i+1) (dflt T_api_Ins)=relab ((k0 :: ks).getD i (dflt T_api_Ins)) ls:=by
 cases i with
 | zero=>exact ⟨[],rfl⟩
 | succ i=>exact ⟨((k0 :: ks).getD (i+1) (dflt T_api_Ins)).2.2.2.2.2.2,rfl⟩
theorem next_more (hx:v_ins_Leads x=(true,false)) {i:Int} {j:Nat} (h:nextB (k0 :: ks) i j=true):
  nextB (moreT x k0 ks) (i+1) (j+1)=true∨(j=0∧nextB (moreT x k0 ks) (i+1) 0=true∧nextB (moreT x k0 ks) ((0:Nat):Int) 1=true):=by
 unfold nextB at h
 rw[Bool.and_eq_true,Bool.or_eq_true,Bool.and_eq_true,decide_eq_true_eq,decide_eq_true_eq,decide_eq_true_eq] at h
 obtain ⟨⟨h0,h1,h2⟩,h3⟩:=h
 obtain ⟨n,rfl⟩:=Int.eq_ofNat_of_zero_le h0
 have hlen:(moreT x k0 ks).length=(k0 :: ks).length+1:=rfl
 obtain ⟨ls,e⟩:=get_more (x:=x) (k0:=k0) (ks:=ks) n
 have hon:onOf (moreT x k0 ks) (n+1)=onOf (k0 :: ks) n:=by
  unfold onOf
  rw[e]
  rfl
 have hto:toOf (moreT x k0 ks) (n+1)=if toOf (k0 :: ks) n≤0 then toOf (k0 :: ks) n else toOf (k0 :: ks) n+1:=by
  unfold toOf
  rw[e]
  show (if (v_ins_Leads ((k0 :: ks).getD n (dflt T_api_Ins))).2=true then findI ((k0 :: ks).getD n (dflt T_api_Ins)).2.2.2.2.2.1 (moreT x k0 ks) 0 else -1)=_
  split
  ·exact find_more x k0 ks
  ·rfl
 have hn:((n:Int)+1).toNat=n+1:=by omega
 rw[Int.toNat_natCast] at h3
 generalize hT:(k0 :: ks).length=T at*
 generalize toOf (k0 :: ks) n=to at*
 unfold nextB
 rw[hn,hon,hto,hlen]
 simp only[Bool.and_eq_true,Bool.or_eq_true,decide_eq_true_eq]
 rcases h3 with ⟨h3,h4⟩ | h3
 ·exact .inl ⟨⟨by omega,by omega,by omega⟩,.inl ⟨h3,by omega⟩⟩
 ·by_cases hj:j=0
  ·subst hj
   refine .inr ⟨rfl,⟨⟨by omega,by omega,by omega⟩,.inr (by rw[if_pos (by omega)];exact h3)⟩,⟨by omega,by omega,by omega⟩,.inl ⟨?_,by omega⟩⟩
   show (v_ins_Leads (relab x k0.2.2.2.2.2.2)).1=true
   rw[show v_ins_Leads (relab x k0.2.2.2.2.2.2)=v_ins_Leads x from rfl,hx]
  ·exact .inl ⟨⟨by omega,by omega,by omega⟩,.inr (by rw[if_neg (by omega)];omega)⟩
theorem from_more (hx:v_ins_Leads x=(true,false)) {i:Int} {j:Nat} (h:fromB (k0 :: ks) i j=true):fromB (moreT x k0 ks) (i+1) (j+1)=true:=by
 unfold fromB at*
 rw[comeB_iff] at*
 induction h with
 | start h=>
  rcases next_more hx h with h | ⟨rfl,h1,h2⟩
  ·exact .start h
  ·exact .step (.start h1) h2
 | step _ h ih=>
  rcases next_more hx h with h | ⟨rfl,h1,h2⟩
  ·exact .step ih h
  ·exact .step (.step ih h1) h2
end
section
variable {p q:El T_api_Prog} {l l':List Acc} {t:Int} {f:Nat→Nat} (hM:More t l l' f)
include hM
theorem th_more {i:Nat} (hi:i < l.length):thA l' (f i)=thA l i:=by
 unfold thA
 rw[hM.at_ i hi,shA_th]
theorem in_more {i:Nat} (hi:i < l.length):inA l' (f i)=if thA l i=t then inA l i+1 else inA l i:=by
 unfold inA thA
 rw[hM.at_ i hi]
 exact shA_in t _
theorem pa_more {i:Nat} (hi:i < l.length):paA l' (f i)=paA l i:=by
 unfold paA
 rw[hM.at_ i hi,shA_rest]
theorem cl_more {i j:Nat} (hi:i < l.length) (hj:j < l.length):clB l' (f i) (f j)=clB l i j:=by
 unfold clB
 rw[hM.at_ i hi,hM.at_ j hj]
 unfold shA
 split <;> split <;> rfl
theorem beh_more (hin:∀i,i < l.length→0≤inA l i)
  (hfr:∀i (j:Nat),i < l.length→fromB (thrOf p l i) (inA l i) j=true→fromB (thrOf q l' (f i)) (inA l' (f i)) (if thA l i=t then j+1 else j)=true)
  {c d:Nat} (hc:c < l.length) (h:behB p l c d=true):behB q l' (f c) (f d)=true:=by
 obtain ⟨hd,hth⟩:=behB_lt h
 unfold behB at h ⊢
 simp only[Bool.and_eq_true,Bool.or_eq_true,decide_eq_true_eq,beq_iff_eq] at h ⊢
 obtain ⟨_,_,h⟩:=h
 have e1:=in_more hM hc
 have e2:=in_more hM hd
 have i1:=hin d hd
 refine ⟨hM.lt d hd,by rw[th_more hM hd,th_more hM hc,hth],?_⟩
 rcases h with rfl | ⟨h1,h2⟩ | ⟨h1,h2⟩
 ·exact .inl rfl
 ·refine .inr (.inl ⟨?_,by rw[pa_more hM hd,pa_more hM hc];exact h2⟩)
  rw[e1,e2,hth,h1]
 ·right;right
  have h3:=hfr c _ hc h2
  rw[hth] at e2
  refine ⟨by rw[e2];split <;> omega,?_⟩
  have:(inA l' (f d)).toNat=if thA l c=t then (inA l d).toNat+1 else (inA l d).toNat:=by
   rw[e2];split <;> omega
  rw[this]
  exact h3
theorem is_more (hb:∀c d,c < l.length→behB p l c d=true→behB q l' (f c) (f d)=true) {a k:Nat} (ha:a < l.length) (h:isB p l a k=true):isB q l' (f a) (f k)=true:=by
 have h:=comeB_iff.1 h
 refine comeB_iff.2 ?_
 have key:∀k,Come (chB p l a) (chS l a) k→k < l.length∧Come (chB q l' (f a)) (chS l' (f a)) (f k):=fun k h=>by
  induction h with
  | start h=>
   unfold chS at h
   rw[Bool.and_eq_true,decide_eq_true_eq] at h
   refine ⟨h.1,.start ?_⟩
   unfold chS
   rw[Bool.and_eq_true,decide_eq_true_eq]
   exact ⟨hM.lt _ h.1,by rw[cl_more hM ha h.1];exact h.2⟩
  | step _ h ih=>
   obtain ⟨hi,ih⟩:=ih
   unfold chB at h
   simp only[Bool.and_eq_true,Bool.or_eq_true,decide_eq_true_eq,Bool.not_eq_true',beq_eq_false_iff_ne] at h
   obtain ⟨h1,h2,h3⟩:=h
   refine ⟨h1,.step ih ?_⟩
   unfold chB
   simp only[Bool.and_eq_true,Bool.or_eq_true,decide_eq_true_eq,Bool.not_eq_true',beq_eq_false_iff_ne]
   refine ⟨hM.lt _ h1,by rw[th_more hM h1,th_more hM ha];exact h2,?_⟩
   rcases h3 with h3 | h3
   ·left;rw[cl_more hM hi h1];exact h3
   ·exact .inr (hb _ _ hi h3)
 exact (key k h).2
theorem back_more (hb:∀c d,c < l.length→behB p l c d=true→behB q l' (f c) (f d)=true) {a b:Nat} (ha:a < l.length) (hbl:b < l.length) (h:backB p l a b=true):backB q l' (f a) (f b)=true:=by
 unfold backB at*
 simp only[Bool.and_eq_true,beq_iff_eq,List.any_eq_true,List.mem_range] at*
 obtain ⟨h1,k,hk,h2,h3⟩:=h
 exact ⟨by rw[th_more hM hbl,th_more hM ha];exact h1,f k,hM.lt k hk,is_more hM hb ha h2,by rw[cl_more hM hk hbl];exact h3⟩
theorem del_more (hb:∀c d,c < l.length→behB p l c d=true→behB q l' (f c) (f d)=true) (hin:∀i,i < l.length→0≤inA l i)
  (hfr:∀i (j:Nat),i < l.length→fromB (thrOf p l i) (inA l i) j=true→fromB (thrOf q l' (f i)) (inA l' (f i)) (if thA l i=t then j+1 else j)=true)
  {s r:Nat} (hs:s < l.length) (hr:r < l.length) (h1:stB' l s=true) (h2:delB p l s r=true):stB' l' (f s)=true∧delB q l' (f s) (f r)=true∧delPair l' (f s) (f r)=(if thA l s=t then (thA l s,(inA l s+1,inA l r+1)) else delPair l s r):=by
 unfold delB at h2 ⊢
 simp only[Bool.and_eq_true,beq_iff_eq] at h2 ⊢
 obtain ⟨⟨a1,a2⟩,a3,a4⟩:=h2
 have st:∀i,i < l.length→stB' l' (f i)=stB' l i∧ldB' l' (f i)=ldB' l i:=fun i hi=>by
  unfold stB' ldB'
  rw[hM.at_ i hi,shA_rest]
  exact ⟨rfl,rfl⟩
 have e1:=in_more hM hs
 have e2:=in_more hM hr
 rw[a1] at e2
 have i1:=hin r hr
 refine ⟨by rw[(st s hs).1];exact h1,⟨⟨by rw[th_more hM hr,th_more hM hs];exact a1,by rw[(st r hr).2];exact a2⟩,?_,back_more hM hb hr hs a4⟩,?_⟩
 ·have h3:=hfr s _ hs a3
  have:(inA l' (f r)).toNat=if thA l s=t then (inA l r).toNat+1 else (inA l r).toNat:=by
   rw[e2];split <;> omega
  rw[this]
  exact h3
 ·unfold delPair
  rw[th_more hM hs,e1,e2]
  split <;> rfl
end
theorem mem_dels {p:El T_api_Prog} {s r:Nat} (hs:s < (ofC p).length) (hr:r < (ofC p).length) (h1:stB' (ofC p) s=true) (h2:delB p (ofC p) s r=true):delPair (ofC p) s r∈v_ref3_Delays p:=by
 unfold v_ref3_Delays delsFrom
 rw[Nat.sub_zero,←List.range_eq_range']
 refine List.mem_flatMap.2 ⟨s,List.mem_range.2 hs,?_⟩
 unfold delS
 rw[if_pos h1,←List.range_eq_range']
 exact List.mem_map.2 ⟨r,List.mem_filter.2 ⟨List.mem_range.2 hr,h2⟩,rfl⟩
theorem dels_more {sy:List (El T_api_Sym)} {L R:List (List (El T_api_Ins))} {x k0:El T_api_Ins} {ks:List (El T_api_Ins)} (hx:v_ins_Leads x=(true,false)) (hs:smallAll (sy,L++(k0 :: ks) :: R)=true)
  (hp:checkC (sy,L++(k0 :: ks) :: R)=0) (hq:checkC (sy,L++moreT x k0 ks :: R)=0) {y:El T_api_Pair} (hy:y∈v_ref3_Delays (sy,L++(k0 :: ks) :: R)):
  (if y.1=(L.length:Int) then (y.1,((show Int from y.2.1)+1,(show Int from y.2.2)+1)) else y)∈v_ref3_Delays (sy,L++moreT x k0 ks :: R):=by
 obtain ⟨s,r,s1,r1,h1,h2,rfl⟩:=dels_mem hy
 obtain ⟨A,X,B,e1,e2,hA⟩:=acc_more (L:=L) (R:=R) x k0 ks
 have ep:ofC (sy,L++(k0 :: ks) :: R)=A++B:=by unfold ofC;rw[if_pos hp];exact e1
 have eq:ofC (sy,L++moreT x k0 ks :: R)=A++(X++B.map (shA (L.length:Int))):=by unfold ofC;rw[if_pos hq];exact e2
 have facts:=fun i=>acc_facts (i:=i) hs
 have hM:=more_phi (X:=X) (B:=B) hA
 rw[←ep,←eq] at hM
 have hin:∀i,i < (ofC (sy,L++(k0 :: ks) :: R)).length→0≤inA (ofC (sy,L++(k0 :: ks) :: R)) i:=fun i hi=>(facts i hi).2.2.2.1
 have hfr:∀i (j:Nat),i < (ofC (sy,L++(k0 :: ks) :: R)).length→fromB (thrOf (sy,L++(k0 :: ks) :: R) (ofC (sy,L++(k0 :: ks) :: R)) i) (inA (ofC (sy,L++(k0 :: ks) :: R)) i) j=true→
   fromB (thrOf (sy,L++moreT x k0 ks :: R) (ofC (sy,L++moreT x k0 ks :: R)) (phi A.length X.length i)) (inA (ofC (sy,L++moreT x k0 ks :: R)) (phi A.length X.length i)) (if thA (ofC (sy,L++(k0 :: ks) :: R)) i=(L.length:Int) then j+1 else j)=true:=fun i j hi hf=>by
  obtain ⟨t0,t1,_⟩:=facts i hi
  have ht:=th_more hM hi
  have hn:=in_more hM hi
  unfold thrOf at hf ⊢
  rw[hn,ht]
  generalize thA (ofC (sy,L++(k0 :: ks) :: R)) i=u at*
  generalize inA (ofC (sy,L++(k0 :: ks) :: R)) i=v at*
  obtain ⟨u,rfl⟩:=Int.eq_ofNat_of_zero_le t0
  have hu:u < L.length+(R.length+1):=by
   have:(u:Int) < ((L++(k0 :: ks) :: R).length:Int):=t1
   rw[List.length_append,List.length_cons] at this
   omega
  rw[Int.toNat_natCast] at hf ⊢
  by_cases h:u=L.length
  ·subst h
   rw[if_pos rfl,if_pos rfl]
   have g1:List.getD (sy,L++(k0 :: ks) :: R).2 L.length (dflt (.sl T_api_Ins))=k0 :: ks:=by
    show List.getD (L++(k0 :: ks) :: R) L.length _=_
    rw[List.getD_eq_getElem?_getD,List.getElem?_append_right (Nat.le_refl _),Nat.sub_self];rfl
   have g2:List.getD (sy,L++moreT x k0 ks :: R).2 L.length (dflt (.sl T_api_Ins))=moreT x k0 ks:=by
    show List.getD (L++moreT x k0 ks :: R) L.length _=_
    rw[List.getD_eq_getElem?_getD,List.getElem?_append_right (Nat.le_refl _),Nat.sub_self];rfl
   rw[g1] at hf
   rw[g2]
   exact from_more hx hf
  ·have hne:¬((u:Int)=(L.length:Int)):=by omega
   rw[if_neg hne,if_neg hne]
   have g:List.getD (sy,L++moreT x k0 ks :: R).2 u (dflt (.sl T_api_Ins))=List.getD (sy,L++(k0 :: ks) :: R).2 u (dflt (.sl T_api_Ins)):=by
    show List.getD (L++moreT x k0 ks :: R) u _=List.getD (L++(k0 :: ks) :: R) u _
    rw[List.getD_eq_getElem?_getD,List.getD_eq_getElem?_getD]
    by_cases hl:u < L.length
    ·rw[List.getElem?_append_left hl,List.getElem?_append_left hl]
    ·rw[List.getElem?_append_right (by omega),List.getElem?_append_right (by omega)]
     obtain ⟨m,hm⟩:∃m,u - L.length=m+1:=⟨u - L.length - 1,by omega⟩
     rw[hm]
     rfl
   rw[g]
   exact hf
 have hb:=fun c d hc h=>beh_more (p:=(sy,L++(k0 :: ks) :: R)) (q:=(sy,L++moreT x k0 ks :: R)) hM hin hfr (c:=c) (d:=d) hc h
 obtain ⟨z1,z2,z3⟩:=del_more hM hb hin hfr s1 r1 h1 h2
 have:=mem_dels (hM.lt s s1) (hM.lt r r1) z1 z2
 rw[z3] at this
 exact this
theorem countM_more {x k0:El T_api_Ins} {ks:List (El T_api_Ins)} :countM (moreT x k0 ks)≤countM (k0 :: ks)+1:=by
 unfold countM moreT
 have e:((relab k0 []).1 !=(12:Int))=(k0.1 !=(12:Int)):=rfl
 rw[List.filter_cons,List.filter_cons,List.filter_cons,e]
 split <;> split <;> simp
theorem threadC_more {p:El T_api_Prog} {x k0:El T_api_Ins} {ks:List (El T_api_Ins)} (hx:insC p x=0) (hj:((x.1==(10:Int)) || (x.1==(11:Int)))=false) (hn:countM (k0 :: ks) < 4096) (h:threadC p (k0 :: ks)=0):threadC p (moreT x k0 ks)=0:=by
 have hc:=countM_more (x:=x) (k0:=k0) (ks:=ks)
 unfold threadC at h ⊢
 rw[if_neg (by omega)] at h ⊢
 have e:(fun seen=>endC (moreT x k0 ks) (jumpC seen (moreT x k0 ks)))=fun seen=>endC (k0 :: ks) (jumpC seen (k0 :: ks)):=by
  funext seen
  have e1:jumpC seen (moreT x k0 ks)=jumpC seen (k0 :: ks):=by
   unfold moreT
   rw[jumpC]
   have:((relab x k0.2.2.2.2.2.2).1==(10:Int) || (relab x k0.2.2.2.2.2.2).1==(11:Int))=false:=hj
   rw[if_neg (by rw[this];exact Bool.false_ne_true),jumpC,jumpC]
   rfl
  rw[e1]
  have e2:∀K,endC (moreT x k0 ks) K=endC (k0 :: ks) K:=fun K=>by
   rw[endC_eq (by unfold moreT;simp),endC_eq (by simp)]
   cases ks with
   | nil=>rfl
   | cons b bs=>rfl
  exact e2 _
 rw[e]
 have e3:scanI p (fun seen=>endC (k0 :: ks) (jumpC seen (k0 :: ks))) [] (moreT x k0 ks)=scanI p (fun seen=>endC (k0 :: ks) (jumpC seen (k0 :: ks))) [] (k0 :: ks):=by
  generalize (fun seen=>endC (k0 :: ks) (jumpC seen (k0 :: ks)))=K
  unfold moreT
  conv=>lhs;rw[scanI]
  conv=>rhs;rw[scanI]
  have e4:insC p (relab x k0.2.2.2.2.2.2)=0:=hx
  have congr:∀(ls:List ByteArray) (K K':List ByteArray→Int) (seen:List ByteArray),(∀s,K s=K' s)→scanL seen K ls=scanL seen K' ls:=by
   intro ls
   induction ls with
   | nil=>intro K K' seen h;exact h seen
   | cons a r ih=>intro K K' seen h;unfold scanL;rw[ih K K' _ h]
  refine congr _ _ _ _ fun s=>?_
  rw[e4,if_neg (by decide),scanI]
  rfl
 rw[e3]
 exact h
end Go.Ev
end

section
open Go
namespace Go.Ev
theorem alive24:k_law24_alive=true∧v_law24_alive=true:=by
 have hs:smallAll v_law24_both=true:=by decide+kernel
 have hN:(ofC v_law24_both).length=4:=by decide+kernel
 have hT:v_law24_both.2.length=2:=by decide+kernel
 obtain ⟨k1,k2,e1,_,k3,_⟩:=delays_all hs (by omega) (by omega)
 have vp:v_delay_Pairs v_law24_both=[((0:Int),((0:Int),(1:Int))),((1:Int),((0:Int),(1:Int)))]:=by
  rw[←e1,delsX_eq]
  decide+kernel
 have op:∀x:El T_api_Pair,x∈v_ref3_Delays v_law24_both→openB v_law24_both x=(decide (0≤x.2.2∧x.2.2 < ((List.getD v_law24_both.2 (Int.toNat x.1) (dflt (.sl T_api_Ins))).length:Int))&&endsX (List.getD v_law24_both.2 (Int.toNat x.1) (dflt (.sl T_api_Ins))) [] x.2.1 x.2.2.toNat):=fun x hx=>by
  obtain ⟨s,r,h1,h2,_,_,rfl⟩:=dels_mem hx
  obtain ⟨_,_,hf,_⟩:=acc_facts hs h1
  have hf':flowOK (List.getD v_law24_both.2 (Int.toNat (delPair (ofC v_law24_both) s r).1) (dflt (.sl T_api_Ins)))=true:=hf
  obtain ⟨_,_,_,f4⟩:=free_eqO hf' (points:=[]) (by decide) (delPair (ofC v_law24_both) s r).2.1 (delPair (ofC v_law24_both) s r).2.2
  unfold openB
  rw[f4,endsX_eq]
 have vo:v_delay_Open v_law24_both=[((0:Int),((0:Int),(1:Int))),((1:Int),((0:Int),(1:Int)))]:=by
  unfold v_delay_Open
  rw[e1,vp] at op
  rw[vp,List.filter_congr op]
  decide+kernel
 have k0:k_delay_Pairs ([],[])=true:=by decide+kernel
 have v0:v_delay_Pairs ([],[])=[]:=rfl
 unfold k_law24_alive v_law24_alive
 simp only[k1,k3,vp,vo,k0,v0]
 exact ⟨by decide+kernel,by decide+kernel⟩
end Go.Ev
end

section
namespace Go.Ev
open Go
theorem total_leX {l:List (List (El T_api_Ins))} {n:Nat} (h:∀t∈l,List.length t≤n):total l≤n*l.length:=by
 unfold total
 induction l with
 | nil=>simp
 | cons t l ih=>
  rw[List.map_cons,List.sum_cons,List.length_cons,Nat.mul_add,Nat.mul_one]
  have h1:=h t (List.mem_cons_self ..)
  have h2:=ih fun x hx=>h x (List.mem_cons_of_mem _ hx)
  omega
theorem ofC_le {p:El T_api_Prog} :(ofC p).length≤2*total p.2:=by
 have:=accP_len 0 p.2
 unfold ofC
 split
 ·exact this
 ·simp
theorem book_few (l:List (List (El T_book_Act))) {threads many:Int} (h0:0≤threads) (h1:threads≤64) (m0:0≤many) (m1:many≤90):
  smallAll (v_book_Prog l threads many)=true∧(v_book_Prog l threads many).2.length≤threads.toNat∧(ofC (v_book_Prog l threads many)).length≤11648∧checkC (v_book_Prog l threads many)=0∧k_book_Prog l threads many=true:=by
 obtain ⟨hc,hs,hk⟩:=book_valid l h0 h1 m0 m1
 have hl:(v_book_Prog l threads many).2.length≤threads.toNat:=by
  show ((l.take threads.toNat).map fun a=>threadB a (min a.length many.toNat)).length≤_
  rw[List.length_map,List.length_take];omega
 have ht:=total_leX (l:=(v_book_Prog l threads many).2) (n:=91) fun t hm=>by
  obtain ⟨a,_,rfl⟩:=List.mem_map.1 (show t∈(l.take threads.toNat).map fun a=>threadB a (min a.length many.toNat) from hm)
  show (threadB a _).length≤91
  unfold threadB
  rw[withL_len,baseT_len a _ (by omega)]
  omega
 have ho:= @ofC_le (v_book_Prog l threads many)
 refine ⟨?_,hl,by omega,hc,hk⟩
 unfold smallAll
 simp only[Bool.and_eq_true,decide_eq_true_eq]
 exact ⟨hs,by omega,by omega⟩
end Go.Ev
end

section
open Go
namespace Go.Ev
def v_law24_DelayMore (l:List (List (El T_book_Act))) (a:El T_book_Act) (t:Int):Bool:=true
def k_law24_DelayMore (l:List (List (El T_book_Act))) (a:El T_book_Act) (t:Int):Bool:=true
theorem leads_more {i:El T_api_Ins} (h:smallText i.2.2.2.2.2.1=true) (hr:v_ins_Right i=0):v_ins_Leads i=(! (i.1==(10:Int))&& ! (i.1==(14:Int)),(i.1==(10:Int)) || (i.1==(11:Int))):=by
 have h0:k_ins_Right i=true:=h
 unfold v_ins_Leads
 simp only[h0,hr,bne_self_eq_false,cond_true,cond_false]
 unfold bne
 cases (i.1==(10:Int)) <;> simp
structure Plain1 (X:El T_api_Ins):Prop where
 leads:v_ins_Leads X=(true,false)
 jump:((X.1==(10:Int)) || (X.1==(11:Int)))=false
 text:smallText X.2.2.2.2.2.1=true
 may:∀th:List (List (El T_api_Ins)),insC (symsB,th) X=0
theorem plain1 {a:El T_book_Act} (h:(v_book_Ins a 1).2.2.2.2.2.1=bs []):Plain1 (v_book_Ins a 1):=by
 have hb:=book_ok a (many:=1) (by omega) (by omega)
 generalize v_book_Ins a 1=X at h hb
 have ht:smallText X.2.2.2.2.2.1=true:=by rw[h];decide
 have hj:(show Int from X.1)≠10∧(show Int from X.1)≠11:=by
  rcases hb.to with ⟨h1,h2,_⟩ | ⟨_,k,k0,k1,e⟩
  ·exact ⟨h1,h2⟩
  ·exfalso
   have:=label_ne (k:=k.toNat) (by omega)
   rw[show ((k.toNat:Nat):Int)=k by omega,←e] at this
   exact this h
 have h14:=hb.op
 have b10:(X.1==(10:Int))=false:=by rw[beq_eq_false_iff_ne];exact hj.1
 have b11:(X.1==(11:Int))=false:=by rw[beq_eq_false_iff_ne];exact hj.2
 have b14:(X.1==(14:Int))=false:=by rw[beq_eq_false_iff_ne];exact h14
 refine ⟨?_,by rw[b10,b11];rfl,ht,fun th=>insC_book hb []⟩
 rw[leads_more ht hb.right,b10,b11,b14]
 rfl
theorem smallT_more {X k0:El T_api_Ins} {ks:List (El T_api_Ins)} (hX:smallText X.2.2.2.2.2.1=true) (h:smallThread (k0 :: ks)=true) (hn:(k0 :: ks).length < 1073741824):smallThread (moreT X k0 ks)=true:=by
 have hS:=smallT h
 have hl:labels (moreT X k0 ks)=labels (k0 :: ks):=by
  unfold labels moreT
  rw[List.flatMap_cons,List.flatMap_cons,List.flatMap_cons]
  rfl
 unfold smallThread
 simp only[Bool.and_eq_true,decide_eq_true_eq,List.all_eq_true]
 refine ⟨?_,by rw[hl];exact hS.labs,fun j hj=>?_⟩
 ·show (k0 :: ks).length+1 < 1099511627776
  omega
 ·unfold moreT at hj
  rcases List.mem_cons.1 hj with rfl | hj
  ·exact ⟨hX,fun l hl=>hS.lab k0 (by simp) l hl⟩
  ·rcases List.mem_cons.1 hj with rfl | hj
   ·exact ⟨hS.to k0 (by simp),fun l hl=>by cases hl⟩
   ·exact ⟨hS.to j (by simp[hj]),fun l hl=>hS.lab j (by simp[hj]) l hl⟩
structure MoreOK (P Q:El T_api_Prog) (u:Nat):Prop where
 kp:k_delay_Pairs P=true
 kq:k_delay_Pairs Q=true
 lenP:(v_delay_Pairs P).length≤400000000
 lenQ:(v_delay_Pairs Q).length≤400000000
 low:∀y∈v_delay_Pairs P,0≤(show Int from y.2.1)∧(show Int from y.2.1) < 1099511627776∧0≤(show Int from y.2.2)∧(show Int from y.2.2) < 1099511627776
 all:∀y∈v_delay_Pairs P,(if y.1=(u:Int) then (y.1,((show Int from y.2.1)+1,(show Int from y.2.2)+1)) else y)∈v_delay_Pairs Q
theorem mem_book {l:List (List (El T_book_Act))} {x:List (El T_api_Ins)} (h:x∈(v_book_Prog l 3 5).2):∃(a:List (El T_book_Act)) (n:Nat),n≤5∧n≤a.length∧x=threadB a n:=by
 obtain ⟨a,_,rfl⟩:=List.mem_map.1 (show x∈(l.take (3:Int).toNat).map fun a=>threadB a (min a.length (5:Int).toNat) from h)
 exact ⟨a,_,by have:(5:Int).toNat=5:=rfl;omega,by omega,rfl⟩
theorem len_book {a:List (El T_book_Act)} {n:Nat} (h:n≤a.length):(threadB a n).length=n+1:=by unfold threadB;rw[withL_len,baseT_len a n h]
theorem moreOK {l:List (List (El T_book_Act))} {X:El T_api_Ins} (hX:Plain1 X) {u:Nat} (hu:u < (v_book_Prog l 3 5).2.length) {k0:El T_api_Ins} {ks:List (El T_api_Ins)} (hk:(v_book_Prog l 3 5).2[u]=k0 :: ks):
  MoreOK (v_book_Prog l 3 5) ((v_book_Prog l 3 5).1,(v_book_Prog l 3 5).2.set u (moreT X k0 ks)) u:=by
 obtain ⟨h1,h2,h3,hc,hkb⟩:=book_few l (threads:=3) (many:=5) (by decide) (by decide) (by decide) (by decide)
 have mem:=fun x=>mem_book (l:=l) (x:=x)
 have hsy:(v_book_Prog l 3 5).1=symsB:=rfl
 clear hkb
 generalize v_book_Prog l 3 5=P at hu hk h1 h2 h3 hc mem hsy ⊢
 obtain ⟨sy,th⟩:=P
 have hsy:sy=symsB:=hsy
 have hu:u < th.length:=hu
 have h2:th.length≤(3:Int).toNat:=h2
 have mem:∀x,x∈th→∃(a:List (El T_book_Act)) (n:Nat),n≤5∧n≤a.length∧x=threadB a n:=mem
 subst hsy
 have hk:th[u]=k0 :: ks:=hk
 have hS:=smallA h1
 have hmu:(k0 :: ks)∈th:=hk▸List.getElem_mem hu
 obtain ⟨a0,n0,q1,q2,q3⟩:=mem _ hmu
 have hlen0:(k0 :: ks).length≤6:=by rw[q3,len_book q2];omega
 have hQm:∀x∈th.set u (moreT X k0 ks),x=moreT X k0 ks∨x∈th:=fun x hx=>(List.mem_or_eq_of_mem_set hx).symm
 have hQs:∀x∈th.set u (moreT X k0 ks),smallThread x=true∧List.length x≤7:=fun x hx=>by
  rcases hQm x hx with rfl | hx
  ·refine ⟨smallT_more hX.text (hS.thr _ hmu) (by omega),?_⟩
   show (k0 :: ks).length+1≤7
   omega
  ·obtain ⟨a,n,r1,r2,r3⟩:=mem _ hx
   exact ⟨hS.thr _ hx,by rw[r3,len_book r2];omega⟩
 have hthl:th.length≤3:=h2
 have hql:(th.set u (moreT X k0 ks)).length≤3:=by rw[List.length_set];exact hthl
 have htot:=total_leX (l:=th.set u (moreT X k0 ks)) (n:=7) fun x hx=>(hQs x hx).2
 have hQ:smallAll (symsB,th.set u (moreT X k0 ks))=true:=by
  unfold smallAll smallProg
  have hpr:=hS.prog
  unfold smallProg at hpr
  simp only[Bool.and_eq_true,decide_eq_true_eq,List.all_eq_true] at hpr ⊢
  exact ⟨⟨hpr.1,fun x hx=>(hQs x hx).1⟩,by omega,by omega⟩
 have hcQ:checkC (symsB,th.set u (moreT X k0 ks))=0:=by
  unfold checkC
  show (if 64 < symsB.length∨64 < (th.set u (moreT X k0 ks)).length then (10:Int) else symsC (thsC _ (th.set u (moreT X k0 ks))) [] symsB)=0
  rw[if_neg,symsC_book]
  ·refine thsC_zero fun x hx=>?_
   rcases hQm x hx with rfl | hx
   ·refine threadC_more (hX.may _) hX.jump ?_ ?_
    ·have:=countM_le (k0 :: ks);omega
    ·rw[q3];exact threadC_book (by omega) q2
   ·obtain ⟨a,n,r1,r2,r3⟩:=mem _ hx
    rw[r3]
    exact threadC_book (by omega) r2
  ·have:symsB.length=3:=rfl
   omega
 have hoQ:(ofC (symsB,th.set u (moreT X k0 ks))).length≤20000:=by
  have ho:(ofC (symsB,th.set u (moreT X k0 ks))).length≤2*total (th.set u (moreT X k0 ks)):=ofC_le
  omega
 obtain ⟨a1,_,a3,_⟩:=delays_all h1 (by omega) (show th.length≤100 by omega)
 obtain ⟨b1,_,b3,_⟩:=delays_all hQ hoQ (show (th.set u (moreT X k0 ks)).length≤100 by omega)
 have l1:=dels_len (symsB,th)
 have l2:=dels_len (symsB,th.set u (moreT X k0 ks))
 have m1:(ofC (symsB,th)).length*(ofC (symsB,th)).length≤20000*20000:=Nat.mul_le_mul (by omega) (by omega)
 have m2:(ofC (symsB,th.set u (moreT X k0 ks))).length*(ofC (symsB,th.set u (moreT X k0 ks))).length≤20000*20000:=Nat.mul_le_mul hoQ hoQ
 have hsp:th=th.take u++(k0 :: ks) :: th.drop (u+1):=by
  rw[←hk]
  simp
 have hset:th.set u (moreT X k0 ks)=th.take u++moreT X k0 ks :: th.drop (u+1):=by
  rw[List.set_eq_take_append_cons_drop,if_pos hu]
 have htu:(th.take u).length=u:=by rw[List.length_take];omega
 refine ⟨a1,b1,by rw[←a3];omega,by rw[←b3];omega,fun y hy=>?_,fun y hy=>?_⟩
 ·rw[←a3] at hy
  obtain ⟨s,r,s1,r1,_,hd,rfl⟩:=dels_mem hy
  obtain ⟨_,_,f1,i0,i1⟩:=acc_facts h1 s1
  obtain ⟨_,_,f2,j0,j1⟩:=acc_facts h1 r1
  have g1:=flowOK_len f1
  have g2:=flowOK_len f2
  exact ⟨i0,by show inA _ s < _;omega,j0,by show inA _ r < _;omega⟩
 ·rw[←a3] at hy
  rw[←b3,hset]
  have e1:=h1
  have e2:=hc
  have e3:=hcQ
  rw[hset] at e3
  rw[hsp] at hy e1 e2
  have:=dels_more hX.leads e1 e2 e3 hy
  rw[htu] at this
  exact this
theorem goes_if {J α:Type} {T:J→JT J α} {c:Bool} {t f:JT J α} {a:α} (hc:c=true) (h:Goes T t a):Goes T (.br c t f) a:=by
 subst hc
 exact .brt h
theorem goes_ifn {J α:Type} {T:J→JT J α} {c:Bool} {t f:JT J α} {a:α} (hc:c=false) (h:Goes T f a):Goes T (.br c t f) a:=by
 subst hc
 exact .brf h
theorem dec0 {n:Int} {k:Nat} (h:n=(k:Int)) (hk:0 < k):decide ((0:Int) < n)=true:=decide_eq_true (by omega)
theorem wrap_more {y:Int} (h1:0≤y) (h2:y < 1099511627776):IntKind.i64.wrap (y+1)=y+1:=wrap_i64 (by omega) (by omega)
theorem g_law24_DelayMore (l:List (List (El T_book_Act))) (a:El T_book_Act) (t:Int) (hk:k_law24_DelayMore l a t=true):Goes (T_law24_DelayMore l a t) (T0_law24_DelayMore l a t) (v_law24_DelayMore l a t):=by
 obtain ⟨ka,va⟩:=alive24
 obtain ⟨h1,h2,h3,hc,hkb⟩:=book_few l (threads:=3) (many:=5) (by decide) (by decide) (by decide) (by decide)
 have mem:=fun x=>mem_book (l:=l) (x:=x)
 unfold T0_law24_DelayMore v_law24_DelayMore
 refine goes_if hkb (goes_if hkb ?_)
 by_cases h0:(v_book_Prog l 3 5).2.length=0
 ·refine goes_if (by rw[h0];rfl) (goes_if ka ?_)
  rw[va]
  exact .leaf
 refine goes_ifn (by simp only[beq_eq_false_iff_ne,Int.ofNat_eq_natCast];omega) ?_
 obtain ⟨p1,p2,p3⟩:=pick_lt (n:=t) (m:=Int.ofNat (v_book_Prog l 3 5).2.length) (by simp only[Int.ofNat_eq_natCast];omega) (by simp only[Int.ofNat_eq_natCast];omega)
 have kI:k_book_Ins a 1=true:=k_book a (by omega) (by omega)
 refine goes_if p1 (goes_if kI ?_)
 by_cases hT:¬(v_book_Ins a 1).2.2.2.2.2.1=bs []
 ·refine goes_if (by rw[eqB_eq,decide_eq_false hT];rfl) (goes_if ka ?_)
  rw[va]
  exact .leaf
 have hT:=Decidable.not_not.1 hT
 refine goes_ifn (by rw[eqB_eq,decide_eq_true hT];rfl) ?_
 have hX:=plain1 hT
 obtain ⟨X,hXe⟩:∃X,v_book_Ins a 1=X:=⟨_,rfl⟩
 rw[hXe] at hX ⊢
 obtain ⟨u,hu⟩:∃u:Nat,v_book_Pick t (Int.ofNat (v_book_Prog l 3 5).2.length)=(u:Int):=⟨(v_book_Pick t (Int.ofNat (v_book_Prog l 3 5).2.length)).toNat,by omega⟩
 have hul:u < (v_book_Prog l 3 5).2.length:=by
  rw[hu] at p3
  simp only[Int.ofNat_eq_natCast] at p3
  omega
 obtain ⟨b0,n0,q1,q2,q3⟩:=mem _ (List.getElem_mem hul)
 obtain ⟨k0,ks,hk0⟩:∃k0 ks,(v_book_Prog l 3 5).2[u]=k0 :: ks:=by
  have:=len_book q2
  rw[←q3] at this
  cases he:(v_book_Prog l 3 5).2[u] with
  | nil=>rw[he] at this;simp at this
  | cons k0 ks=>exact ⟨k0,ks,rfl⟩
 have hlen0:(k0 :: ks).length≤6:=by rw[←hk0,q3,len_book q2];omega
 have hm:=moreOK hX hul hk0
 have hlab:k0.2.2.2.2.2.2.length < 549755813888:=by
  have hmem:(k0 :: ks)∈(v_book_Prog l 3 5).2:=hk0▸List.getElem_mem hul
  have hS:=(smallA h1).thr _ hmem
  have hf:=flow_small hS
  unfold smallThread at hS
  simp only[Bool.and_eq_true,decide_eq_true_eq,List.all_eq_true] at hS
  have:k0∈threadB b0 n0:=by rw[←q3,hk0];simp
  obtain ⟨k,hk⟩:=List.getElem?_of_mem this
  have h1:∀b:Bool,(if b=true then [v_book_label (k:Int)] else []).length≤1:=fun b=>by cases b <;> simp
  rcases threadB_get (by omega) q2 hk with ⟨_,x,_,_,rfl⟩ | ⟨_,rfl⟩
  ·exact Nat.lt_of_le_of_lt (h1 _) (by decide)
  ·exact Nat.lt_of_le_of_lt (h1 _) (by decide)
 have e0:List.getD (v_book_Prog l 3 5).2 u (dflt (.sl T_api_Ins))=k0 :: ks:=by rw[getD_lt hul,hk0]
 rw[hu,Int.toNat_natCast,e0]
 have c1:(decide ((0:Int)≤(u:Int))&&decide ((u:Int) < Int.ofNat (v_book_Prog l 3 5).2.length))=true:=by rw[nng,lt_len hul];rfl
 have c2:decide ((0:Int) < Int.ofNat (k0 :: ks).length)=true:=dec0 (k:=ks.length+1) rfl (by omega)
 refine goes_if c1 (goes_if c2 (goes_if c2 ?_))
 refine goes_if (show k_ref1_CopyIns k0=true from decide_eq_true hlab) ?_
 have c3:(((decide ((0:Int)≤Int.ofNat (k0 :: ks).length)&&decide (Int.ofNat (k0 :: ks).length≤Int.ofNat (k0 :: ks).length))&&true)&&decide ((1:Int)≤Int.ofNat (k0 :: ks).length))=true:=by
  have:(Int.ofNat (k0 :: ks).length)=((ks.length+1:Nat):Int):=rfl
  rw[this]
  simp
  omega
 refine goes_if c3 ?_
 have e3:List.drop 1 (List.take (k0 :: ks).length (k0 :: ks))=ks:=by rw[List.take_length];rfl
 rw[e3]
 have hks:ks.length≤5:=by simpa using hlen0
 refine goes_if (Nat.ble_eq_true_of_le (by unfold limit;omega)) (goes_if c1 (goes_if hm.kp (goes_if hm.kq ?_)))
 obtain ⟨P,hP⟩:∃P,v_book_Prog l 3 5=P:=⟨_,rfl⟩
 rw[hP] at hm hu
 obtain ⟨now,hnow⟩:∃now,v_delay_Pairs (P.1,P.2.set u (moreT X k0 ks))=now:=⟨_,rfl⟩
 obtain ⟨D,hD⟩:∃D,v_delay_Pairs P=D:=⟨_,rfl⟩
 have loop:∀i,i≤D.length→Goes (T_law24_DelayMore l a t) (.jmp (.l18 now (i:Int))) true:=by
  have lD:=hm.lenP
  have lN:=hm.lenQ
  have low:=hm.low
  have all:=hm.all
  rw[hD] at lD low all
  rw[hnow] at lN all
  refine down ?_ fun i hi ih=>?_
  ·rw[goes_jmp,T_law24_DelayMore,hP,hD]
   refine goes_ifn (by rw[lt_len_not (Nat.lt_irrefl _)]) (goes_if ka ?_)
   rw[va]
   exact .leaf
  ·have inner:∀y0 y1 y2:Int,∀j,j≤now.length→∀found:Bool,(found=true∨∃k,j≤k∧∃h:k < now.length,now[k]=(y0,(y1,y2)))→Goes (T_law24_DelayMore l a t) (.jmp (.l28 now y0 y1 y2 found (j:Int) (i:Int))) true:=by
    intro y0 y1 y2
    refine down ?_ fun j hj ihj=>?_
    ·intro found hf
     have hf:found=true:=by
      rcases hf with h | ⟨k,h1,h2,_⟩
      ·exact h
      ·omega
     subst hf
     rw[goes_jmp,T_law24_DelayMore]
     refine goes_ifn (by rw[lt_len_not (Nat.lt_irrefl _)]) (goes_ifn rfl ?_)
     rw[wrap_succ (by omega)]
     exact ih
    ·intro found hf
     rw[goes_jmp,T_law24_DelayMore]
     refine goes_if (lt_len hj) ?_
     rw[wrap_succ (k:=j) (by omega)]
     cases found with
     | true=>exact goes_if rfl (ihj true (.inl rfl))
     | false=>
      refine goes_ifn rfl (goes_if (by rw[nng,lt_len hj];rfl) ?_)
      rw[Int.toNat_natCast,getD_lt hj]
      refine ihj _ ?_
      rcases hf with h | ⟨k,h1,h2,h3⟩
      ·cases h
      ·by_cases hkj:k=j
       ·subst hkj
        left
        rw[h3]
        simp
       ·exact .inr ⟨k,by omega,h2,h3⟩
   have hy:=List.getElem_mem hi
   obtain ⟨z1,z2,z3,z4⟩:=low _ hy
   have hin:=all _ hy
   rw[goes_jmp,T_law24_DelayMore,hP,hD,hu]
   refine goes_if (lt_len hi) (goes_if (by rw[nng,lt_len hi];rfl) ?_)
   rw[Int.toNat_natCast,getD_lt hi]
   generalize D[i]=y at*
   obtain ⟨y0,y1,y2⟩:=y
   have w1:IntKind.i64.wrap (y1+1)=y1+1:=wrap_more z1 z2
   have w2:IntKind.i64.wrap (y2+1)=y2+1:=wrap_more z3 z4
   by_cases hyu:y0=(u:Int)
   ·refine goes_if (by simpa using hyu) ?_
    rw[if_pos hyu] at hin
    obtain ⟨k,hk,he⟩:=List.mem_iff_getElem.1 hin
    show Goes (T_law24_DelayMore l a t) (.jmp (J_law24_DelayMore.l28 now y0 (IntKind.i64.wrap (y1+1)) (IntKind.i64.wrap (y2+1)) false (0:Int) (i:Int))) true
    rw[w1,w2]
    exact inner y0 (y1+1) (y2+1) 0 (Nat.zero_le _) false (.inr ⟨k,Nat.zero_le _,hk,he⟩)
   ·refine goes_ifn (by simpa using hyu) ?_
    rw[if_neg hyu] at hin
    obtain ⟨k,hk,he⟩:=List.mem_iff_getElem.1 hin
    exact inner y0 y1 y2 0 (Nat.zero_le _) false (.inr ⟨k,Nat.zero_le _,hk,he⟩)
 rw[hP]
 subst hnow
 exact loop 0 (Nat.zero_le _)
end Go.Ev
end

section
open Go Go.Ev
namespace Go.Ev
noncomputable section
theorem co_law24_DelayMore (l:List (List (El T_book_Act))) (a:El T_book_Act) (t:Int) (hk:k_law24_DelayMore l a t=true):CallOK Go.Proofs.Tryd.prog 6 (toForms sg_law24_DelayMore (l,a,t,())) (R_law24_DelayMore (v_law24_DelayMore l a t),tps (toForms sg_law24_DelayMore (l,a,t,()))):=by
 obtain ⟨h1,h2⟩:=clOf_ok tk_law24_DelayMore
 obtain ⟨n,hn⟩:=evF_goes (c:=c_law24_DelayMore) (K:=fun v=>(R_law24_DelayMore v,tps (toForms sg_law24_DelayMore (l,a,t,())))) (S:=S_law24_DelayMore l a t) (by kernel_rfl) (en_law24_DelayMore l a t) (lp_law24_DelayMore l a t) (g_law24_DelayMore l a t hk)
 exact evF_sound (f:=6) (c:=c_law24_DelayMore) h1 h2 (by kernel_rfl) (by kernel_rfl) (by kernel_rfl) hn
end
end Go.Ev
end

section
namespace Go.Ev
open Go
theorem call_law24_DelayMore (a:Args sg_law24_DelayMore) (ha:smallArgs sg_law24_DelayMore a):CallOK Go.Proofs.Tryd.prog fid_law24_DelayMore (toForms sg_law24_DelayMore a) (.d .bool true,tps (toForms sg_law24_DelayMore a)):=by
 obtain ⟨l,x,t,_⟩:=a
 exact co_law24_DelayMore l x t rfl
end Go.Ev
end

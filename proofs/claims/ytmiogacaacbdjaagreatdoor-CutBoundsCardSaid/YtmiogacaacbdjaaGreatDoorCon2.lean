/- Part of the proof of: No more points are chosen than there are stores, nor than there are loads, in open delays: for every input the law answers true. -/
import Derived.Test.YtmiogacaacbdjaaGreatDoorCon1
set_option maxRecDepth 100000
set_option linter.unusedSectionVars false
set_option linter.unusedVariables false
set_option linter.unusedSimpArgs false
section
open Go
namespace Go.Ev
noncomputable def ZbF (p:El Zc) (a:Int):List Int:=if 0≤a∧a < ((ofC p).length:Int) then listOf (ofC p).length (backB p (ofC p) a.toNat) else []
def ZgS (p:El Zc) (a:Int):Bool:=smallAll p
theorem ZEB {l:List Acc} {x:Nat} {own a:Int} :∀(n h:Nat) (s:SetT×List Int×SetT) (C B:Nat→Bool),l.length < 1099511627776→h+n≤l.length→SetOK s.1 l.length C→SetOK s.2.2 l.length B→
  ∃C' B',SetOK (meetF l (x:Int) own a (List.range' h n) s).1 l.length C'∧SetOK (meetF l (x:Int) own a (List.range' h n) s).2.2 l.length B'∧
   (∀j,C' j=true↔C j=true∨(h≤j∧j < h+n∧clB l x j=true∧thA l j≠own))∧(∀j,B' j=true↔B j=true∨(h≤j∧j < h+n∧clB l x j=true∧thA l j=own∧(x:Int)≠a))∧
   (∀y∈s.2.1,y∈(meetF l (x:Int) own a (List.range' h n) s).2.1)∧(∀y∈(meetF l (x:Int) own a (List.range' h n) s).2.1,y∈s.2.1∨∃j:Nat,y=(j:Int)∧C' j=true)∧
   (∀j,C' j=true→C j=true∨(j:Int)∈(meetF l (x:Int) own a (List.range' h n) s).2.1)∧(meetF l (x:Int) own a (List.range' h n) s).2.1.length+card l.length C=s.2.1.length+card l.length C'
 | 0,h,s,C,B,_,_,hC,hB=>⟨C,B,hC,hB,fun j=>⟨.inl,fun h=>h.elim id fun h=>by omega⟩,fun j=>⟨.inl,fun h=>h.elim id fun h=>by omega⟩,fun y hy=>hy,fun y hy=>.inl hy,fun j hj=>.inl hj,rfl⟩
 | n+1,h,s,C,B,hN,hn,hC,hB=>by
  rw[List.range'_succ,meetF]
  have hh:h < l.length:=by omega
  have one:∃C1 B1,SetOK (meet1 l (x:Int) own a h s).1 l.length C1∧SetOK (meet1 l (x:Int) own a h s).2.2 l.length B1∧(∀j,C1 j=true↔C j=true∨(j=h∧clB l x h=true∧thA l h≠own))∧(∀j,B1 j=true↔B j=true∨(j=h∧clB l x h=true∧thA l h=own∧(x:Int)≠a))∧
    (∀y∈s.2.1,y∈(meet1 l (x:Int) own a h s).2.1)∧(∀y∈(meet1 l (x:Int) own a h s).2.1,y∈s.2.1∨∃j:Nat,y=(j:Int)∧C1 j=true)∧(∀j,C1 j=true→C j=true∨(j:Int)∈(meet1 l (x:Int) own a h s).2.1)∧
    (meet1 l (x:Int) own a h s).2.1.length+card l.length C=s.2.1.length+card l.length C1:=by
   unfold meet1
   rw[Int.toNat_natCast]
   by_cases c1:clB l x h=true
   ·rw[if_pos c1]
    by_cases c2:thA l h=own
    ·rw[if_neg (by simp[c2])]
     by_cases c3:(x:Int)=a
     ·rw[if_neg (by simp[c3])]
      exact ⟨C,B,hC,hB,fun j=>⟨.inl,fun h=>h.elim id fun h=>absurd c2 h.2.2⟩,fun j=>⟨.inl,fun h=>h.elim id fun h=>absurd c3 h.2.2.2⟩,fun y hy=>hy,fun y hy=>.inl hy,fun j hj=>.inl hj,rfl⟩
     ·rw[if_pos c3]
      obtain ⟨_,p2⟩:=hB.putO (by omega) hh
      refine ⟨C,_,hC,p2,fun j=>⟨.inl,fun h=>h.elim id fun h=>absurd c2 h.2.2⟩,fun j=>?_,fun y hy=>hy,fun y hy=>.inl hy,fun j hj=>.inl hj,rfl⟩
      rw[Bool.or_eq_true,beq_iff_eq]
      exact or_congr Iff.rfl ⟨fun h=>⟨h,c1,c2,c3⟩,fun h=>h.1⟩
    ·rw[if_pos c2]
     obtain ⟨p1,p2⟩:=hC.putO (by omega) hh
     have hB':∀j,B j=true↔B j=true∨(j=h∧clB l x h=true∧thA l h=own∧(x:Int)≠a):=fun j=>⟨.inl,fun h=>h.elim id fun h=>absurd h.2.2.1 c2⟩
     have hC':∀j,(C j || (j==h))=true↔C j=true∨(j=h∧clB l x h=true∧thA l h≠own):=fun j=>by
      rw[Bool.or_eq_true,beq_iff_eq]
      exact or_congr Iff.rfl ⟨fun h=>⟨h,c1,c2⟩,fun h=>h.1⟩
     refine ⟨_,B,p2,hB,hC',hB',?_⟩
     cases hCh:C h with
     | true=>
      rw[hCh] at p1
      rw[if_neg (by rw[p1];decide)]
      have e:(fun k=>C k || (k==h))=C:=funext fun k=>by
       by_cases hk:k=h
       ·subst hk;rw[hCh];rfl
       ·have:(k==h)=false:=by simpa using hk
        rw[this,Bool.or_false]
      refine ⟨fun y hy=>hy,fun y hy=>.inl hy,fun j hj=>.inl ?_,by rw[e]⟩
      have:=congrFun e j
      rw[←this];exact hj
     | false=>
      rw[hCh] at p1
      rw[if_pos (by rw[p1];rfl)]
      refine ⟨fun y hy=>List.mem_append_left _ hy,fun y hy=>?_,fun j hj=>?_,?_⟩
      ·rcases List.mem_append.1 hy with hy | hy
       ·exact .inl hy
       ·simp only[List.mem_singleton] at hy
        exact .inr ⟨h,hy,by simp⟩
      ·rw[Bool.or_eq_true,beq_iff_eq] at hj
       rcases hj with hj | rfl
       ·exact .inl hj
       ·exact .inr (List.mem_append_right _ (by simp))
      ·rw[Zmm hCh hh,List.length_append,List.length_singleton]
       omega
   ·rw[if_neg c1]
    exact ⟨C,B,hC,hB,fun j=>⟨.inl,fun h=>h.elim id fun h=>absurd h.2.1 c1⟩,fun j=>⟨.inl,fun h=>h.elim id fun h=>absurd h.2.1 c1⟩,fun y hy=>hy,fun y hy=>.inl hy,fun j hj=>.inl hj,rfl⟩
  obtain ⟨C1,B1,a1,a2,a3,a4,a5,a6,a7,a8⟩:=one
  obtain ⟨C2,B2,b1,b2,b3,b4,b5,b6,b7,b8⟩:=ZEB n (h+1) (meet1 l (x:Int) own a h s) C1 B1 hN (by omega) a1 a2
  refine ⟨C2,B2,b1,b2,fun j=>?_,fun j=>?_,fun y hy=>b5 y (a5 y hy),fun y hy=>?_,fun j hj=>?_,by omega⟩
  ·rw[b3,a3,or_assoc]
   refine or_congr Iff.rfl ⟨?_,?_⟩
   ·rintro (⟨rfl,h1⟩ | ⟨h1,h2,h3⟩)
    ·exact ⟨Nat.le_refl _,by omega,h1⟩
    ·exact ⟨by omega,by omega,h3⟩
   ·rintro ⟨h1,h2,h3⟩
    by_cases e:j=h
    ·subst e;exact .inl ⟨rfl,h3⟩
    ·exact .inr ⟨by omega,by omega,h3⟩
  ·rw[b4,a4,or_assoc]
   refine or_congr Iff.rfl ⟨?_,?_⟩
   ·rintro (⟨rfl,h1⟩ | ⟨h1,h2,h3⟩)
    ·exact ⟨Nat.le_refl _,by omega,h1⟩
    ·exact ⟨by omega,by omega,h3⟩
   ·rintro ⟨h1,h2,h3⟩
    by_cases e:j=h
    ·subst e;exact .inl ⟨rfl,h3⟩
    ·exact .inr ⟨by omega,by omega,h3⟩
  ·rcases b6 y hy with h1 | h1
   ·rcases a6 y h1 with h2 | ⟨j,h2,h3⟩
    ·exact .inl h2
    ·exact .inr ⟨j,h2,(b3 j).2 (.inl h3)⟩
   ·exact .inr h1
  ·rcases b7 j hj with h1 | h1
   ·rcases a7 j h1 with h2 | h2
    ·exact .inl h2
    ·exact .inr (b5 _ h2)
   ·exact .inr h1
structure BInv (p:El Zc) (l:List Acc) (a:Nat) (C G B:Nat→Bool) (O:List Int):Prop where
 c:∀c,C c=true↔c < l.length∧thA l c≠thA l a∧(clB l a c=true∨∃k,G k=true∧clB l k c=true)
 g:∀d,G d=true→∃c,C c=true∧behB p l c d=true
 o:∀x∈O,∃c:Nat,x=(c:Int)∧C c=true
 b:∀b,B b=true↔b < l.length∧thA l b=thA l a∧∃k,G k=true∧clB l k b=true
 s:∀d,G d=true→isB p l a d=true
theorem BInv.is {p:El Zc} {l:List Acc} {a:Nat} {C G B:Nat→Bool} {O:List Int} (h:BInv p l a C G B O) {c:Nat} (hc:C c=true):isB p l a c=true:=by
 obtain ⟨h1,h2,h3⟩:=(h.c c).1 hc
 rcases h3 with h3 | ⟨k,hk,h3⟩
 ·exact ZdQ.2 (.start (by unfold chS;rw[decide_eq_true h1,h3];rfl))
 ·refine ZdQ.2 (.step (ZdQ.1 (h.s k hk)) ?_)
  unfold chB
  simp only[Bool.and_eq_true,decide_eq_true_eq,Bool.not_eq_true',beq_eq_false_iff_ne,Bool.or_eq_true]
  exact ⟨h1,h2,.inl h3⟩
theorem BInv.meet {p:El Zc} {l:List Acc} {a d:Nat} {C G B C' B':Nat→Bool} {O O':List Int} {c:Nat} (h:BInv p l a C G B O) (hc:C c=true) (hd:behB p l c d=true) (hl:d < l.length)
  (hC:∀j,C' j=true↔C j=true∨(0≤j∧j < 0+l.length∧clB l d j=true∧thA l j≠thA l a)) (hB:∀j,B' j=true↔B j=true∨(0≤j∧j < 0+l.length∧clB l d j=true∧thA l j=thA l a∧(d:Int)≠(a:Int)))
  (hO:∀y∈O',y∈O∨∃j:Nat,y=(j:Int)∧C' j=true):BInv p l a C' (fun k=>G k || (k==d)) B' O':=by
 have hth:=ZMM hd
 have hne:=((h.c c).1 hc).2.1
 have hdis:isB p l a d=true:=by
  refine ZdQ.2 (.step (ZdQ.1 (h.is hc)) ?_)
  unfold chB
  simp only[Bool.and_eq_true,decide_eq_true_eq,Bool.not_eq_true',beq_eq_false_iff_ne,Bool.or_eq_true]
  exact ⟨hl,by rw[hth.2];exact hne,.inr hd⟩
 have hg:∀k,(G k || (k==d))=true↔G k=true∨k=d:=fun k=>by rw[Bool.or_eq_true,beq_iff_eq]
 refine ⟨fun j=>?_,fun j hj=>?_,fun y hy=>?_,fun j=>?_,fun j hj=>?_⟩
 ·rw[hC,h.c]
  constructor
  ·rintro (⟨h1,h2,h3⟩ | ⟨_,h1,h2,h3⟩)
   ·exact ⟨h1,h2,h3.imp id fun ⟨k,hk,h4⟩=>⟨k,(hg k).2 (.inl hk),h4⟩⟩
   ·exact ⟨by omega,h3,.inr ⟨d,(hg d).2 (.inr rfl),h2⟩⟩
  ·rintro ⟨h1,h2,h3⟩
   rcases h3 with h3 | ⟨k,hk,h3⟩
   ·exact .inl ⟨h1,h2,.inl h3⟩
   ·rcases (hg k).1 hk with hk | rfl
    ·exact .inl ⟨h1,h2,.inr ⟨k,hk,h3⟩⟩
    ·exact .inr ⟨Nat.zero_le _,by omega,h3,h2⟩
 ·rcases (hg j).1 hj with hj | rfl
  ·obtain ⟨c',h1,h2⟩:=h.g j hj
   exact ⟨c',(hC c').2 (.inl h1),h2⟩
  ·exact ⟨c,(hC c).2 (.inl hc),hd⟩
 ·rcases hO y hy with hy | hy
  ·obtain ⟨c',h1,h2⟩:=h.o y hy
   exact ⟨c',h1,(hC c').2 (.inl h2)⟩
  ·exact hy
 ·rw[hB,h.b]
  constructor
  ·rintro (⟨h1,h2,k,hk,h3⟩ | ⟨_,h1,h2,h3,_⟩)
   ·exact ⟨h1,h2,k,(hg k).2 (.inl hk),h3⟩
   ·exact ⟨by omega,h3,d,(hg d).2 (.inr rfl),h2⟩
  ·rintro ⟨h1,h2,k,hk,h3⟩
   rcases (hg k).1 hk with hk | rfl
   ·exact .inl ⟨h1,h2,k,hk,h3⟩
   ·refine .inr ⟨Nat.zero_le _,by omega,h3,h2,fun e=>hne ?_⟩
    have:k=a:=by omega
    subst this
    rw[←hth.2]
 ·rcases (hg j).1 hj with hj | rfl
  ·exact h.s j hj
  ·exact hdis
theorem ZFA (p:El Zc) (a:Int) (hk:ZgS p a=true):Goes (Ze4 p a) (ZoK p a) (ZbF p a):=by
 have hA:=smallA hk
 have hNl:=ZLH hk
 have kt:ZnV p=true:=hk
 have vt:ZC p=ofC p:=rfl
 have hacc:∀c,c < (ofC p).length→0≤thA (ofC p) c∧thA (ofC p) c < (p.2.length:Int)∧flowOK (thrOf p (ofC p) c)=true:=fun c hc=>by
  have hm:accA (ofC p) c∈ofC p:=by unfold accA;rw[ZH hc];exact List.getElem_mem hc
  obtain ⟨u,x,j,i,h1,h2,h3,h4,h5⟩:=ZFx hm
  have hth:thA (ofC p) c=(u:Int):=h4
  have hu:=(List.getElem?_eq_some_iff.1 h1).1
  have hx:x∈p.2:=List.mem_of_getElem? h1
  refine ⟨by omega,by omega,?_⟩
  unfold thrOf
  rw[hth,Int.toNat_natCast,List.getD_eq_getElem?_getD,h1]
  exact Zsz (hA.thr x hx)
 obtain ⟨l,hl⟩:∃l,ofC p=l:=⟨_,rfl⟩
 rw[hl] at hNl vt hacc
 obtain ⟨T,hT⟩:∃T,T=Ze4 p a:=⟨_,rfl⟩
 rw[←hT]
 unfold ZoK ZbF
 rw[Ze,if_pos kt,vt,hl,Ze]
 by_cases h0:a < 0
 ·rw[if_pos (decide_eq_true h0),if_neg (by omega)];exact .leaf
 rw[if_neg (by simpa using h0),Ze]
 by_cases h1:a≥Int.ofNat l.length
 ·rw[if_pos (decide_eq_true h1),if_neg (by simp at h1;omega)];exact .leaf
 obtain ⟨a,rfl⟩:=Int.eq_ofNat_of_zero_le (show 0≤a by omega)
 have ha:a < l.length:=by simp at h1;omega
 rw[if_neg (by simpa using h1),Ze,if_pos (Zaq ha),Ze,Int.toNat_natCast]
 have hval:(if (0:Int)≤(a:Int)∧(a:Int) < (l.length:Int) then listOf l.length (backB p l a) else [])=listOf l.length (backB p l a):=if_pos ⟨by omega,by omega⟩
 rw[hval]
 have hown:(List.getD l a (dflt Zb)).1=thA l a:=rfl
 have hnew:Zy (Int.ofNat l.length)=(((l.length:Nat):Int),[]):=by
  unfold Zy
  simp
  omega
 rw[hown,hnew]
 have kb:∀(x:Nat) (come:SetT) (o:List Int) (b:SetT),x < l.length→o.length < 1099511627776→ZfZ (x:Int) l (thA l a) come o (a:Int) b=true:=fun x come o b hx ho=>decide_eq_true ⟨by omega,by omega,by omega,ho⟩
 have fin:∀(C G B:Nat→Bool) (sc sg sb:SetT),SetOK sb l.length B→BInv p l a C G B []→
   (∀c,C c=true→(c:Int)∈([]:List Int)∨∀d,behB p l c d=true→G d=true)→Goes T (.jmp (.l11 l sb.1 [] (thA l a) (a:Int) sb.2 sc.1 sc.2 sg.1 sg.2)) (listOf l.length (backB p l a)):=by
  intro C G B sc sg sb hb hi hp
  rw[Zi,hT,Ze4,←hT,Ze,if_neg (by decide)]
  have hkl:Zbg (sb.1,sb.2)=true:=Nat.ble_eq_true_of_le (by have:=hb.few;unfold limit;show sb.2.length*512≤_;omega)
  rw[Ze,if_pos hkl]
  have hGi:∀d,G d=isB p l a d:=ZOA hi.c (fun d=>⟨hi.g d,fun ⟨c,h1,h2⟩=>(hp c h1).elim (fun h=>by cases h) fun h=>h d h2⟩) hi.s
  have hv:(ZbM (sb.1,sb.2)).1=listOf l.length (backB p l a):=by
   show listS sb=_
   rw[hb.list (by omega)]
   refine ZqN fun j hj=>?_
   unfold backB
   rw[Bool.eq_iff_iff,hi.b,Bool.and_eq_true,beq_iff_eq,List.any_eq_true]
   constructor
   ·rintro ⟨_,h2,k,hk,h3⟩
    rw[hGi] at hk
    exact ⟨h2,k,List.mem_range.2 (ZOR hk).1,by rw[hk,h3];rfl⟩
   ·rintro ⟨h2,k,_,h3⟩
    rw[Bool.and_eq_true] at h3
    exact ⟨hj,h2,k,by rw[hGi];exact h3.1,h3.2⟩
  rw[hv]
  exact .leaf
 have loop:∀m,∀(C G B:Nat→Bool) (sc sg sb:SetT) (O:List Int),2*(l.length - card l.length C)+O.length≤m→O.length≤card l.length C→SetOK sc l.length C→SetOK sg l.length G→SetOK sb l.length B→BInv p l a C G B O→
   (∀c,C c=true→(c:Int)∈O∨∀d,behB p l c d=true→G d=true)→Goes T (.jmp (.l11 l sb.1 O (thA l a) (a:Int) sb.2 sc.1 sc.2 sg.1 sg.2)) (listOf l.length (backB p l a)):=by
  intro m
  induction m with
  | zero=>
   intro C G B sc sg sb O hm hO1 hc hg hb hi hp
   have:O=[]:=List.eq_nil_of_length_eq_zero (by omega)
   subst this
   exact fin C G B sc sg sb hb hi hp
  | succ m ih=>
   intro C G B sc sg sb O hm hO1 hc hg hb hi hp
   cases O with
   | nil=>exact fin C G B sc sg sb hb hi hp
   | cons x O=>
    obtain ⟨c,rfl,hCc⟩:=hi.o x (by simp)
    have hcl:=((hi.c c).1 hCc).1
    have hcard:= @Zes l.length C
    obtain ⟨q1,q2,q3⟩:=hacc c hcl
    have kbh:Zea p l (c:Int)=true:=by
     unfold Zea
     rw[Int.toNat_natCast,q3,decide_eq_true ⟨by omega,by omega,by omega⟩,decide_eq_true ⟨q1,q2⟩];rfl
    have e0:List.getD ((c:Int) :: O) 0 (dflt (.int .i64))=(c:Int):=rfl
    have g1:decide (Int.ofNat ((c:Int) :: O).length > (0:Int))=true:=decide_eq_true (by simp <;> omega)
    have g2:decide ((0:Int) < Int.ofNat ((c:Int) :: O).length)=true:=decide_eq_true (by simp <;> omega)
    have g3:Nat.ble 1 ((c:Int) :: O).length=true:=Nat.ble_eq_true_of_le (by simp)
    rw[Zi,hT,Ze4,←hT,Ze,if_pos g1,Ze,if_pos g2,Ze,if_pos g3,e0,Ze,if_pos kbh]
    obtain ⟨L,hL⟩:∃L,Zb0 p l (c:Int)=L:=⟨_,rfl⟩
    have hLm:∀y,y∈L↔∃d:Nat,d < l.length∧behB p l c d=true∧y=(d:Int):=fun y=>by rw[←hL];unfold Zb0;rw[Int.toNat_natCast];exact Zcm
    have hLl:L.length≤l.length:=by rw[←hL];unfold Zb0;rw[Zhr];exact Zes
    rw[hL,show List.drop 1 ((c:Int) :: O)=O from rfl]
    have inner:∀h,h≤L.length→∀(C G B:Nat→Bool) (sc sg sb:SetT) (O:List Int),2*(l.length - card l.length C)+O.length≤m→O.length≤card l.length C→SetOK sc l.length C→SetOK sg l.length G→SetOK sb l.length B→BInv p l a C G B O→C c=true→
      (∀c',C c'=true→c'≠c→(c':Int)∈O∨∀d,behB p l c' d=true→G d=true)→(∀d,behB p l c d=true→G d=true∨(d:Int)∈L.drop h)→
      Goes T (.jmp (.l17 (Int.ofNat L.length) l L sb.1 O (thA l a) (a:Int) sb.2 sc.1 sc.2 (h:Int) sg.1 sg.2)) (listOf l.length (backB p l a)):=by
     refine down ?_ fun h hh ih2=>?_
     ·intro C G B sc sg sb O hm hO1 hc hg hb hi hCc hp hcur
      rw[Zi,hT,Ze4,←hT,Ze,if_neg (by simp)]
      refine ih C G B sc sg sb O hm hO1 hc hg hb hi fun c' hc'=>?_
      by_cases e:c'=c
      ·subst e
       right
       intro d hd
       rcases hcur d hd with h1 | h1
       ·exact h1
       ·rw[List.drop_length] at h1;cases h1
      ·exact hp c' hc' e
     ·intro C G B sc sg sb O hm hO1 hc hg hb hi hCc hp hcur
      obtain ⟨d,hd,hbd,hde⟩:=(hLm L[h]).1 (List.getElem_mem hh)
      have hcard:= @Zes l.length C
      obtain ⟨p1,p2⟩:=hg.putO (by omega) hd
      have hput:Zp (sg.1,sg.2) (d:Int)=putS sg (d:Int):=rfl
      have hkb:=kb d (sc.1,sc.2) O (sb.1,sb.2) hd (by omega)
      rw[Zi,hT,Ze4,←hT,Ze,if_pos (ZR hh),Ze,if_pos (Zaq hh),Int.toNat_natCast,ZH hh,hde,hput,Zr (by omega),Ze]
      have hdrop:=ZO hh
      cases hGd:G d with
      | true=>
       rw[hGd] at p1
       rw[if_neg (by rw[p1];decide)]
       have e:∀k,(G k || (k==d))=G k:=fun k=>by
        by_cases hk:k=d
        ·subst hk;rw[hGd];rfl
        ·have:(k==d)=false:=by simpa using hk
         rw[this,Bool.or_false]
       refine ih2 C G B sc _ sb O hm hO1 hc (p2.congr' e) hb hi hCc hp fun d' hd'=>?_
       rcases hcur d' hd' with h1 | h1
       ·exact .inl h1
       ·rw[hdrop] at h1
        rcases List.mem_cons.1 h1 with h1 | h1
        ·rw[hde] at h1
         have:d'=d:=by omega
         subst this
         exact .inl hGd
        ·exact .inr h1
      | false=>
       rw[hGd] at p1
       rw[if_pos (by rw[p1];rfl),Ze,if_pos hkb]
       obtain ⟨C',B',b1,b2,b3,b4,b5,b6,b7,b8⟩:=ZEB (l:=l) (x:=d) (own:=thA l a) (a:=(a:Int)) l.length 0 (sc,O,sb) C B (by omega) (by omega) hc hb
       have hv:ZV (d:Int) l (thA l a) (sc.1,sc.2) O (a:Int) (sb.1,sb.2)=(l,thA l a,(meetF l (d:Int) (thA l a) (a:Int) (List.range' 0 l.length) (sc,O,sb)).1,(meetF l (d:Int) (thA l a) (a:Int) (List.range' 0 l.length) (sc,O,sb)).2.1,(a:Int),(meetF l (d:Int) (thA l a) (a:Int) (List.range' 0 l.length) (sc,O,sb)).2.2):=rfl
       rw[hv]
       generalize meetF l (d:Int) (thA l a) (a:Int) (List.range' 0 l.length) (sc,O,sb)=R at*
       have hi':=hi.meet (O':=R.2.1) hCc hbd hd b3 b4 b6
       have hcl2:= @Zes l.length C'
       simp only at b5 b6 b7 b8
       have b8':R.2.1.length+card l.length C=O.length+card l.length C':=b8
       have hcm:card l.length C≤card l.length C':=ZGy fun j h=>(b3 j).2 (.inl h)
       have m1:2*(l.length - card l.length C')+R.2.1.length≤m:=by omega
       have m2:R.2.1.length≤card l.length C':=by omega
       refine ih2 C' _ B' R.1 _ R.2.2 R.2.1 m1 m2 b1 p2 b2 hi' ((b3 c).2 (.inl hCc)) (fun c' hc' hne=>?_) fun d' hd'=>?_
       ·rcases b7 c' hc' with h1 | h1
        ·rcases hp c' h1 hne with h2 | h2
         ·exact .inl (b5 _ h2)
         ·exact .inr fun d'' hd''=>by rw[h2 d'' hd''];rfl
        ·exact .inl h1
       ·rcases hcur d' hd' with h1 | h1
        ·left;rw[h1];rfl
        ·rw[hdrop] at h1
         rcases List.mem_cons.1 h1 with h1 | h1
         ·rw[hde] at h1
          have:d'=d:=by omega
          subst this
          left;simp
         ·exact .inr h1
    refine inner 0 (Nat.zero_le _) C G B sc sg sb O (by simp at hm;omega) (by simp at hO1;omega) hc hg hb ⟨hi.c,hi.g,fun y hy=>hi.o y (List.mem_cons_of_mem _ hy),hi.b,hi.s⟩ hCc (fun c' hc' hne=>?_) fun d hd=>?_
    ·rcases hp c' hc' with h1 | h1
     ·rcases List.mem_cons.1 h1 with h1 | h1
      ·exact absurd (by omega) hne
      ·exact .inl h1
     ·exact .inr h1
    ·exact .inr (by rw[List.drop_zero];exact (hLm _).2 ⟨d,(ZMM hd).1,hd,rfl⟩)
 rw[if_pos (kb a _ [] _ ha (by simp))]
 obtain ⟨C',B',b1,b2,b3,b4,b5,b6,b7,b8⟩:=ZEB (l:=l) (x:=a) (own:=thA l a) (a:=(a:Int)) l.length 0 ((((l.length:Nat):Int),[]),[],(((l.length:Nat):Int),[])) (fun _=>false) (fun _=>false) (by omega) (by omega) (SetOK.new _) (SetOK.new _)
 have hv:ZV (a:Int) l (thA l a) (((l.length:Nat):Int),[]) [] (a:Int) (((l.length:Nat):Int),[])=(l,thA l a,(meetF l (a:Int) (thA l a) (a:Int) (List.range' 0 l.length) ((((l.length:Nat):Int),[]),[],(((l.length:Nat):Int),[]))).1,(meetF l (a:Int) (thA l a) (a:Int) (List.range' 0 l.length) ((((l.length:Nat):Int),[]),[],(((l.length:Nat):Int),[]))).2.1,(a:Int),(meetF l (a:Int) (thA l a) (a:Int) (List.range' 0 l.length) ((((l.length:Nat):Int),[]),[],(((l.length:Nat):Int),[]))).2.2):=rfl
 rw[hv]
 generalize meetF l (a:Int) (thA l a) (a:Int) (List.range' 0 l.length) ((((l.length:Nat):Int),[]),[],(((l.length:Nat):Int),[]))=R at*
 simp only at b5 b6 b7 b8
 have hcl2:= @Zes l.length C'
 have h00:card l.length (fun _=>false)=0:=by unfold card;simp
 rw[h00] at b8
 refine loop _ C' (fun _=>false) B' R.1 (((l.length:Nat):Int),[]) R.2.2 R.2.1 (Nat.le_refl _) (by simp at b8;omega) b1 (SetOK.new _) b2 ⟨fun c=>?_,fun d hd=>(by cases hd),fun y hy=>?_,fun b=>?_,fun d hd=>(by cases hd)⟩ fun c hc=>?_
 ·rw[b3]
  constructor
  ·rintro (h | ⟨_,h1,h2,h3⟩)
   ·cases h
   ·exact ⟨by omega,h3,.inl h2⟩
  ·rintro ⟨h1,h2,h3 | ⟨k,hk,_⟩⟩
   ·exact .inr ⟨Nat.zero_le _,by omega,h3,h2⟩
   ·cases hk
 ·rcases b6 y hy with h | h
  ·cases h
  ·exact h
 ·rw[b4]
  constructor
  ·rintro (h | ⟨_,_,_,_,h⟩)
   ·cases h
   ·exact absurd rfl h
  ·rintro ⟨_,_,k,hk,_⟩
   cases hk
 ·rcases b7 c hc with h | h
  ·cases h
  ·exact .inl h
end Go.Ev
end

section
open Go Go.Ev
namespace Go.Ev
noncomputable section
noncomputable def Zxs:Run:=entG ZfF Zmo (fun a=>ZgS a.1 a.2.1) (fun a=>ZbF a.1 a.2.1)
theorem ZFl:EntOK Go.Proofs.Tryz.prog 41 Zxs:=ZM (tb:=Zos) (c:=ZmV) ZEl (by kernel_rfl) (by kernel_rfl) (by kernel_rfl) (fun a=>by kernel_rfl) fun ⟨p,a,_⟩ hk=>Zm (c:=ZmV) (K:=fun v=>(Zmo v,tps (toForms ZfF (p,a,())))) (S:=ZeM p a) (by kernel_rfl) (ZDK p a) (ZFv p a) (ZFA p a hk)
end
end Go.Ev
end

section
open Go Go.Ev
namespace Go.Ev
noncomputable section
def dpB:Code:=Go.Proofs.Tryz.f16.body.getD .skip
def lpR1 (K:Code):Code:=fstC (innC (innC K))
def lpB (K:Code):Code:=innC (fstC (sndC (sndC (innC (innC K)))))
def lpR2 (K:Code):Code:=sndC (sndC (sndC (innC (innC K))))
def dp0:Code:=fstC dpB
def dp1:Code:=fstC (sndC dpB)
def dp2:Code:=fstC (sndC (sndC dpB))
def dp3:Code:=fstC (fstC (sndC (sndC (sndC dpB))))
def dpK0:Code:=sndC (fstC (sndC (sndC (sndC dpB))))
def dpE:Code:=fstC (sndC (sndC (sndC (sndC dpB))))
def dpT:Tbl:=[(35,ZwC),(36,Zvl),(37,Zkt),(38,ZtF),(39,ZcN),(40,Zf0),(41,Zxs)]
theorem ZOX:∀p∈dpT,EntOK Go.Proofs.Tryz.prog p.1 p.2:=Zg Zzd (Zg ZBm (Zg Zln (Zg Zxw (Zg Zb6 (Zg ZeH (Zg ZFl (Zu)))))))
theorem ZPa:dpB=.seq dp0 (.seq dp1 (.seq dp2 (.seq (.seq dp3 dpK0) (.seq dpE .ret)))):=by kernel_rfl
theorem ZOi:dpK0=.block 0 (.loop (.seq (lpR1 dpK0) (.seq (.cond (.tmp 23) .skip (.exit 0)) (.seq (.block 1 (lpB dpK0)) (lpR2 dpK0))))):=by kernel_rfl
def dp4:Code:=fstC (lpB dpK0)
def dp5:Code:=fstC (sndC (lpB dpK0))
def dp6:Code:=fstC (sndC (sndC (lpB dpK0)))
def dpK2:Code:=sndC (sndC (sndC (lpB dpK0)))
theorem ZOC:lpB dpK0=.seq dp4 (.seq (.region (ridC dp5) (ropsC dp5) false) (.seq dp6 dpK2)):=by kernel_rfl
theorem ZOB:dpK2=.block 2 (.loop (.seq (lpR1 dpK2) (.seq (.cond (.tmp 32) .skip (.exit 2)) (.seq (.block 3 (lpB dpK2)) (lpR2 dpK2))))):=by kernel_rfl
def dp7:Code:=fstC (lpB dpK2)
def dp8:Code:=fstC (sndC (lpB dpK2))
def dp9:Code:=fstC (fstC (sndC (sndC (lpB dpK2))))
def dpK4:Code:=sndC (fstC (sndC (sndC (lpB dpK2))))
def dp10:Code:=fstC (sndC (sndC (sndC (lpB dpK2))))
def dpK6:Code:=sndC (sndC (sndC (sndC (lpB dpK2))))
theorem ZOG:lpB dpK2=.seq dp7 (.seq dp8 (.seq (.seq dp9 dpK4) (.seq dp10 dpK6))):=by kernel_rfl
theorem ZOO:dpK4=.block 4 (.loop (.seq (lpR1 dpK4) (.seq (.cond (.tmp 56) .skip (.exit 4)) (.seq (.block 5 (lpB dpK4)) (lpR2 dpK4))))):=by kernel_rfl
theorem ZOk:dpK6=.block 6 (.loop (.seq (lpR1 dpK6) (.seq (.cond (.tmp 68) .skip (.exit 6)) (.seq (.block 7 (lpB dpK6)) (lpR2 dpK6))))):=by kernel_rfl
def dp11:Code:=fstC (lpB dpK6)
def dp12:Code:=fstC (fstC (sndC (lpB dpK6)))
def dpX1:Code:=fstC (sndC (sndC (lpB dpK6)))
def dp13:Code:=fstC dpX1
def dpY:Code:=thenC (sndC dpX1)
def dp14:Code:=fstC dpY
def dp15:Code:=fstC (sndC dpY)
def dpK8:Code:=sndC (sndC dpY)
def dp16:Code:=fstC (sndC (sndC (sndC (lpB dpK6))))
def dp17:Code:=thenC (sndC (sndC (sndC (sndC (lpB dpK6)))))
theorem ZOM:lpB dpK6=.seq dp11 (.seq (.seq dp12 (.cond (.tmp 78) (.exit 7) .skip)) (.seq (.seq (.region (ridC dp13) (ropsC dp13) false) (.cond (.tmp 82) (.seq (.region (ridC dp14) (ropsC dp14) false) (.seq dp15 dpK8)) .skip)) (.seq (.region (ridC dp16) (ropsC dp16) false) (.cond (.tmp 106) dp17 .skip)))):=by kernel_rfl
theorem ZOo:dpK8=.block 8 (.loop (.seq (lpR1 dpK8) (.seq (.cond (.tmp 93) .skip (.exit 8)) (.seq (.block 9 (lpB dpK8)) (lpR2 dpK8))))):=by kernel_rfl
def dp18:Code:=fstC (lpB dpK8)
def dp19:Code:=sndC (lpB dpK8)
theorem ZOv:lpB dpK8=.seq dp18 (.region (ridC dp19) (ropsC dp19) false):=by kernel_rfl
abbrev SetD:=Int×List (El (.int .i64)×El (.int .u64))
def dObP (p:El Zc):Id×Nat×Obj:=(2,0,.box 26 [.d (.sl Zx) p.1,.d (.sl (.sl Za)) p.2] none)
def dObO (out:List (El Zd)):Id×Nat×Obj:=(5,0,.row 35 Zd out false)
def stA (p:El Zc) (l:List (El Zb)) (out:List (El Zd)) (t:Int):St:=
 ⟨mkTm 126 [(1,.pt 2 0 0),(3,.d (.sl Zb) l),(4,.own 5 0 none),(21,.d (.int .i64) (Int.ofNat (List.length p.2))),(22,.d (.int .i64) t)],[dObP p,dObO out]⟩
def labA:Lab:=⟨[1,3,4,21,22],[(5,56)]⟩
def stA5 (p:El Zc) (l:List (El Zb)) (out:List (El Zd)) (t:Int):St:=
 ⟨mkTm 126 [(1,.pt 2 0 0),(3,.d (.sl Zb) l),(4,.own 5 0 none),(5,.d (.int .i64) t),(21,.d (.int .i64) (Int.ofNat (List.length p.2))),(22,.d (.int .i64) t)],[dObP p,dObO out]⟩
def labA5:Lab:=⟨[1,3,4,5,21,22],[(5,56)]⟩
def stB (p:El Zc) (l:List (El Zb)) (out:List (El Zd)) (t:Int) (m:Nat) (ss:List Int) (k:Int):St:=
 ⟨mkTm 126 [(1,.pt 2 0 0),(3,.d (.sl Zb) l),(4,.own 5 0 none),(5,.d (.int .i64) t),(7,.cst (.map (some m))),(21,.d (.int .i64) (Int.ofNat (List.length p.2))),(22,.d (.int .i64) t),(29,.own 30 0 none),(30,.d (.int .i64) (Int.ofNat (List.length ss))),(31,.d (.int .i64) k)],[dObP p,dObO out,(30,0,.row 3 (.int .i64) ss false)]⟩
def labB:Lab:=⟨[1,3,4,5,7,21,22,29,30,31],[(5,56)]⟩
def stB9 (p:El Zc) (l:List (El Zb)) (out:List (El Zd)) (t:Int) (m:Nat) (ss:List Int) (k s:Int):St:=
 ⟨mkTm 126 [(1,.pt 2 0 0),(3,.d (.sl Zb) l),(4,.own 5 0 none),(5,.d (.int .i64) t),(7,.cst (.map (some m))),(9,.d (.int .i64) s),(21,.d (.int .i64) (Int.ofNat (List.length p.2))),(22,.d (.int .i64) t),(29,.own 30 0 none),(30,.d (.int .i64) (Int.ofNat (List.length ss))),(31,.d (.int .i64) k)],[dObP p,dObO out,(30,0,.row 3 (.int .i64) ss false)]⟩
def labB9:Lab:=⟨[1,3,4,5,7,9,21,22,29,30,31],[(5,56)]⟩
def stB10 (p:El Zc) (l:List (El Zb)) (out:List (El Zd)) (t:Int) (m:Nat) (ss:List Int) (k s:Int) (fr:SetD):St:=
 ⟨mkTm 126 [(1,.pt 2 0 0),(3,.d (.sl Zb) l),(4,.own 5 0 none),(5,.d (.int .i64) t),(7,.cst (.map (some m))),(9,.d (.int .i64) s),(10,.pt 11 0 0),(21,.d (.int .i64) (Int.ofNat (List.length p.2))),(22,.d (.int .i64) t),(29,.own 30 0 none),(30,.d (.int .i64) (Int.ofNat (List.length ss))),(31,.d (.int .i64) k)],[dObP p,dObO out,(11,0,.box 98 [.d (.int .i64) fr.1,.mp 11266 0] none),(30,0,.row 3 (.int .i64) ss false),(11266,0,.map (.int .i64) (.int .u64) fr.2)]⟩
def labB10:Lab:=⟨[1,3,4,5,7,9,10,21,22,29,30,31],[(5,56)]⟩
def stC (p:El Zc) (l:List (El Zb)) (out:List (El Zd)) (t:Int) (m:Nat) (ss:List Int) (k s:Int) (fr:SetD) (fs:List Int) (j:Int):St:=
 ⟨mkTm 126 [(1,.pt 2 0 0),(3,.d (.sl Zb) l),(4,.own 5 0 none),(5,.d (.int .i64) t),(7,.cst (.map (some m))),(9,.d (.int .i64) s),(10,.pt 11 0 0),(21,.d (.int .i64) (Int.ofNat (List.length p.2))),(22,.d (.int .i64) t),(29,.own 30 0 none),(30,.d (.int .i64) (Int.ofNat (List.length ss))),(31,.d (.int .i64) k),(53,.own 54 0 none),(54,.d (.int .i64) (Int.ofNat (List.length fs))),(55,.d (.int .i64) j)],[dObP p,dObO out,(11,0,.box 98 [.d (.int .i64) fr.1,.mp 11266 0] none),(30,0,.row 3 (.int .i64) ss false),(54,0,.row 3 (.int .i64) fs false),(11266,0,.map (.int .i64) (.int .u64) fr.2)]⟩
def labC:Lab:=⟨[1,3,4,5,7,9,10,21,22,29,30,31,53,54,55],[(5,56)]⟩
def stD (p:El Zc) (l:List (El Zb)) (out:List (El Zd)) (t:Int) (m:Nat) (ss:List Int) (k s:Int) (fr:SetD) (ls:List Int) (j:Int):St:=
 ⟨mkTm 126 [(1,.pt 2 0 0),(3,.d (.sl Zb) l),(4,.own 5 0 none),(5,.d (.int .i64) t),(7,.cst (.map (some m))),(9,.d (.int .i64) s),(10,.pt 11 0 0),(21,.d (.int .i64) (Int.ofNat (List.length p.2))),(22,.d (.int .i64) t),(29,.own 30 0 none),(30,.d (.int .i64) (Int.ofNat (List.length ss))),(31,.d (.int .i64) k),(65,.own 66 0 none),(66,.d (.int .i64) (Int.ofNat (List.length ls))),(67,.d (.int .i64) j)],[dObP p,dObO out,(11,0,.box 98 [.d (.int .i64) fr.1,.mp 11266 0] none),(30,0,.row 3 (.int .i64) ss false),(66,0,.row 3 (.int .i64) ls false),(11266,0,.map (.int .i64) (.int .u64) fr.2)]⟩
def labD:Lab:=⟨[1,3,4,5,7,9,10,21,22,29,30,31,65,66,67],[(5,56)]⟩
def stD14 (p:El Zc) (l:List (El Zb)) (out:List (El Zd)) (t:Int) (m:Nat) (ss:List Int) (k s:Int) (fr:SetD) (ls:List Int) (j r:Int):St:=
 ⟨mkTm 126 [(1,.pt 2 0 0),(3,.d (.sl Zb) l),(4,.own 5 0 none),(5,.d (.int .i64) t),(7,.cst (.map (some m))),(9,.d (.int .i64) s),(10,.pt 11 0 0),(14,.d (.int .i64) r),(21,.d (.int .i64) (Int.ofNat (List.length p.2))),(22,.d (.int .i64) t),(29,.own 30 0 none),(30,.d (.int .i64) (Int.ofNat (List.length ss))),(31,.d (.int .i64) k),(65,.own 66 0 none),(66,.d (.int .i64) (Int.ofNat (List.length ls))),(67,.d (.int .i64) j)],[dObP p,dObO out,(11,0,.box 98 [.d (.int .i64) fr.1,.mp 11266 0] none),(30,0,.row 3 (.int .i64) ss false),(66,0,.row 3 (.int .i64) ls false),(11266,0,.map (.int .i64) (.int .u64) fr.2)]⟩
def labD14:Lab:=⟨[1,3,4,5,7,9,10,14,21,22,29,30,31,65,66,67],[(5,56)]⟩
def stE (p:El Zc) (l:List (El Zb)) (out:List (El Zd)) (t:Int) (m:Nat) (ss:List Int) (k s:Int) (fr:SetD) (ls:List Int) (j r:Int) (bs:List Int) (i:Int):St:=
 ⟨mkTm 126 [(1,.pt 2 0 0),(3,.d (.sl Zb) l),(4,.own 5 0 none),(5,.d (.int .i64) t),(7,.cst (.map (some m))),(9,.d (.int .i64) s),(10,.pt 11 0 0),(14,.d (.int .i64) r),(21,.d (.int .i64) (Int.ofNat (List.length p.2))),(22,.d (.int .i64) t),(29,.own 30 0 none),(30,.d (.int .i64) (Int.ofNat (List.length ss))),(31,.d (.int .i64) k),(65,.own 66 0 none),(66,.d (.int .i64) (Int.ofNat (List.length ls))),(67,.d (.int .i64) j),(90,.own 91 0 none),(91,.d (.int .i64) (Int.ofNat (List.length bs))),(92,.d (.int .i64) i)],[dObP p,dObO out,(11,0,.box 98 [.d (.int .i64) fr.1,.mp 11266 0] none),(30,0,.row 3 (.int .i64) ss false),(66,0,.row 3 (.int .i64) ls false),(91,0,.row 3 (.int .i64) bs false),(11266,0,.map (.int .i64) (.int .u64) fr.2)]⟩
def labE:Lab:=⟨[1,3,4,5,7,9,10,14,21,22,29,30,31,65,66,67,90,91,92],[(5,56)]⟩
end
end Go.Ev
end

section
open Go Go.Ev
namespace Go.Ev
noncomputable section
abbrev dEv (c:Code) (lab:Lab) (s s':St):Prop:=∀(L:Lt) (k:Kt) (x:Nat→Kt) (r:Kt),evC Go.Proofs.Tryz.prog (clOf dpT) [] L c 0 (fun t=>k (norm Go.Proofs.Tryz.prog lab t)) x r s=k s'
abbrev dEvI (c:Code) (s s':St):Prop:=∀(L:Lt) (k:Kt) (x:Nat→Kt) (r:Kt),evC Go.Proofs.Tryz.prog (clOf dpT) [] L c 0 (fun t=>k t) x r s=k s'
abbrev dEvG (c:Code) (lab:Lab) (s s':St) (b:Bool):Prop:=∀(L:Lt) (k:Kt) (x:Nat→Kt) (r:Kt),evC Go.Proofs.Tryz.prog (clOf dpT) [] L c 0 (fun t=>k (norm Go.Proofs.Tryz.prog lab t)) x r s=bif b then k s' else none
theorem dEvG.ok {c:Code} {lab:Lab} {s s':St} {b:Bool} (h:dEvG c lab s s' b) (hb:b=true):dEv c lab s s':=fun L k x r=>by rw[h,hb];rfl
section
variable (p:El Zc) (l:List (El Zb)) (out:List (El Zd)) (t:Int) (m:Nat) (ss:List Int) (k s:Int) (fr:SetD) (fs:List Int) (j:Int) (ls:List Int) (r:Int) (bs:List Int) (i:Int) (b:Bool)
def dS0:St:=⟨.ag [.d (.sl Zx) p.1,.d (.sl (.sl Za)) p.2] :: tops 125,[]⟩
def dS1:St:=⟨mkTm 126 [(1,.pt 2 0 0)],[dObP p]⟩
def dS2:St:=⟨mkTm 126 [(1,.pt 2 0 0),(3,.d (.sl Zb) l)],[dObP p]⟩
def dS3:St:=⟨mkTm 126 [(1,.pt 2 0 0),(3,.d (.sl Zb) l),(4,.own 5 0 none)],[dObP p,dObO []]⟩
@[reducible] def inB (i:Int) (n:Nat):Bool:=decide ((0:Int)≤i)&&decide (i < Int.ofNat n)
theorem dp_0:dEv dp0 ⟨[1],[]⟩ (dS0 p) (dS1 p):=fun L k x r=>by kernel_rfl
theorem dp_1:dEvG dp1 ⟨[1,3],[]⟩ (dS1 p) (dS2 p (ZC p)) (ZnV p):=fun L k x r=>by kernel_rfl
theorem dp_2:dEv dp2 ⟨[1,3,4],[(5,56)]⟩ (dS2 p l) (dS3 p l):=fun L k x r=>by kernel_rfl
theorem dp_3:dEv dp3 labA (dS3 p l) (stA p l [] 0):=fun L k x r=>by kernel_rfl
theorem ZPr:dEvI (lpR1 dpK0) (stA p l out t) ((stA p l out t).put (some 23) (.d .bool (decide (t < Int.ofNat (List.length p.2))))):=fun L k x r=>by kernel_rfl
theorem dp_4:dEv dp4 labA5 ((stA p l out t).put (some 23) (.d .bool b)) (stA5 p l out t):=fun L k x r=>by kernel_rfl
theorem ZPt:dEvI (lpR1 dpK2) (stB p l out t m ss k) ((stB p l out t m ss k).put (some 32) (.d .bool (decide (k < Int.ofNat (List.length ss))))):=fun L k x r=>by kernel_rfl
theorem dp_7:dEvG dp7 labB9 ((stB p l out t m ss k).put (some 32) (.d .bool b)) (stB9 p l out t m ss k (List.getD ss (Int.toNat k) (dflt (.int .i64)))) (inB k (List.length ss)):=fun L k x r=>by kernel_rfl
theorem dp_8:dEvG dp8 labB10 (stB9 p l out t m ss k s) (stB10 p l out t m ss k s (Zy (Int.ofNat (List.length (List.getD p.2 (Int.toNat t) (dflt (.sl Za))))))) (inB t (List.length p.2)):=fun L k x r=>by kernel_rfl
theorem dp_9:dEvG dp9 labC (stB10 p l out t m ss k s fr) (stC p l out t m ss k s fr (Zbu (List.getD p.2 (Int.toNat t) (dflt (.sl Za))) (List.getD l (Int.toNat s) (dflt Zb)).2.1) 0) (bif inB t (List.length p.2) then (bif inB s (List.length l) then Zih (List.getD p.2 (Int.toNat t) (dflt (.sl Za))) (List.getD l (Int.toNat s) (dflt Zb)).2.1 else false) else false):=fun L k x r=>by
 rw[show ∀(a b c:Bool) (u:Option Ans),(bif (bif a then (bif b then c else false) else false) then u else none)=(bif a then (bif b then (bif c then u else none) else none) else none) from fun a b c u=>by cases a <;> cases b <;> rfl]
 kernel_rfl
theorem ZPh:dEvI (lpR1 dpK4) (stC p l out t m ss k s fr fs j) ((stC p l out t m ss k s fr fs j).put (some 56) (.d .bool (decide (j < Int.ofNat (List.length fs))))):=fun L k x r=>by kernel_rfl
theorem ZPj:dEvG (lpB dpK4) labC ((stC p l out t m ss k s fr fs j).put (some 56) (.d .bool b)) (stC p l out t m ss k s (Zp fr (List.getD fs (Int.toNat j) (dflt (.int .i64)))).2 fs j) (inB j (List.length fs)):=fun L k x r=>by kernel_rfl
theorem ZPm:dEv (lpR2 dpK4) labC (stC p l out t m ss k s fr fs j) (stC p l out t m ss k s fr fs (IntKind.i64.wrap (j+1))):=fun L k x r=>by kernel_rfl
theorem ZPp:dEvG dp10 labD ((stC p l out t m ss k s fr fs j).put (some 56) (.d .bool b)) (stD p l out t m ss k s fr (ZQ l t false) 0) (Zdx l t false):=fun L k x r=>by kernel_rfl
theorem ZPx:dEvI (lpR1 dpK6) (stD p l out t m ss k s fr ls j) ((stD p l out t m ss k s fr ls j).put (some 68) (.d .bool (decide (j < Int.ofNat (List.length ls))))):=fun L k x r=>by kernel_rfl
theorem ZPz:dEvG dp11 labD14 ((stD p l out t m ss k s fr ls j).put (some 68) (.d .bool b)) (stD14 p l out t m ss k s fr ls j (List.getD ls (Int.toNat j) (dflt (.int .i64)))) (inB j (List.length ls)):=fun L k x r=>by kernel_rfl
def labD78:Lab:=⟨[1,3,4,5,7,9,10,14,21,22,29,30,31,65,66,67,78],[(5,56)]⟩
theorem ZPE:dEvG dp12 labD78 (stD14 p l out t m ss k s fr ls j r) ((stD14 p l out t m ss k s fr ls j r).put (some 78) (.d .bool (! (Zo fr (List.getD l (Int.toNat r) (dflt Zb)).2.1).1))) (inB r (List.length l)):=fun L k x r=>by kernel_rfl
theorem dn_D:norm Go.Proofs.Tryz.prog labD ((stD14 p l out t m ss k s fr ls j r).put (some 78) (.d .bool b))=stD p l out t m ss k s fr ls j:=by kernel_rfl
theorem ZPf:norm Go.Proofs.Tryz.prog labD14 ((stD14 p l out t m ss k s fr ls j r).put (some 78) (.d .bool b))=stD14 p l out t m ss k s fr ls j r:=by kernel_rfl
theorem ZPi:dEv (lpR2 dpK6) labD (stD p l out t m ss k s fr ls j) (stD p l out t m ss k s fr ls (IntKind.i64.wrap (j+1))):=fun L k x r=>by kernel_rfl
theorem ZPu:dEvG dp15 labE (stD14 p l out t m ss k s fr ls j r) (stE p l out t m ss k s fr ls j r (ZbF p r) 0) (ZgS p r):=fun L k x r=>by kernel_rfl
theorem ZPn:dEvI (lpR1 dpK8) (stE p l out t m ss k s fr ls j r bs i) ((stE p l out t m ss k s fr ls j r bs i).put (some 93) (.d .bool (decide (i < Int.ofNat (List.length bs))))):=fun L k x r=>by kernel_rfl
def labE16:Lab:=⟨[1,3,4,5,7,9,10,14,16,21,22,29,30,31,65,66,67,90,91,92],[(5,56)]⟩
theorem ZPw:dEvG dp18 labE16 ((stE p l out t m ss k s fr ls j r bs i).put (some 93) (.d .bool b)) ((stE p l out t m ss k s fr ls j r bs i).put (some 16) (.d (.int .i64) (List.getD bs (Int.toNat i) (dflt (.int .i64))))) (inB i (List.length bs)):=fun L k x r=>by kernel_rfl
theorem ZPG:dEv (lpR2 dpK8) labE (stE p l out t m ss k s fr ls j r bs i) (stE p l out t m ss k s fr ls j r bs (IntKind.i64.wrap (i+1))):=fun L k x r=>by kernel_rfl
theorem ZO1:norm Go.Proofs.Tryz.prog labD14 ((stE p l out t m ss k s fr ls j r bs i).put (some 93) (.d .bool b))=stD14 p l out t m ss k s fr ls j r:=by kernel_rfl
theorem ZPF:dEv (lpR2 dpK2) labB ((stD p l out t m ss k s fr ls j).put (some 68) (.d .bool b)) (stB p l out t m ss (IntKind.i64.wrap (k+1))):=fun L k x r=>by kernel_rfl
theorem ZPA:dEv (lpR2 dpK0) labA ((stB p l out t m ss k).put (some 32) (.d .bool b)) (stA p l out (IntKind.i64.wrap (t+1))):=fun L k x r=>by kernel_rfl
end
end
end Go.Ev
end

section
open Go Go.Ev
namespace Go.Ev
noncomputable section
section
variable [Orgs] {Mod F0:Nat→Prop} {w0:World} {h:HS} {a:Act} {w:World} {Q:Exit→Act→World→Prop}
variable {p:El Zc} {l:List (El Zb)} {out:List (El Zd)} {t:Int} {m:Nat} {ss:List Int} {k s:Int} {fr:SetD} {fs:List Int} {j:Int} {ls:List Int} {r:Int} {bs:List Int} {i x:Int} {b:Bool}
theorem dcl:Spec Go.Proofs.Tryz.prog (clOf dpT)∧DetC (clOf dpT):=Zqb ZOX
abbrev dProg:Program:=Go.Proofs.Tryz.prog
def cOf (o:Oper):Call:=match o.op with |.call c=>c | _=>default
def st5a (p:El Zc) (l:List (El Zb)) (out:List (El Zd)) (t:Int):St:=((stA5 p l out t).put (some 25) (.d (.sl Zb) l)).put (some 26) (.d (.int .i64) t)
def st5b (p:El Zc) (l:List (El Zb)) (out:List (El Zd)) (t:Int) (ss:List Int):St:=((st5a p l out t).setOb 28 0 (.row 3 (.int .i64) ss false)).put (some 27) (.own 28 0 none)
def st5c (p:El Zc) (l:List (El Zb)) (out:List (El Zd)) (t:Int) (ss:List Int) (m:Nat):St:=(((st5b p l out t ss).put (some 28) (.cst (.map (some m)))).put (some 6) (.own 28 0 none)).put (some 7) (.cst (.map (some m)))
theorem ZPs (k:St→Option Ans):opA dProg (clOf dpT) (opC dp5 2) (st5a p l out t) k=bif Zdx l t true then k (st5b p l out t (ZQ l t true)) else none:=by kernel_rfl
theorem dp_6:dEv dp6 labB (st5c p l out t ss m) (stB p l out t m ss 0):=fun L k x r=>by kernel_rfl
theorem w_5 (hk:Zdx l t true=true) (hr:Rel Mod F0 w0 (stA5 p l out t) a w) (hQ:∀m a' w',RelH 98 Mod F0 w0 ⟨m,[]⟩ (st5c p l out t (ZQ l t true) m) a' w'→Q .normal a' w'):(Code.region (ridC dp5) (ropsC dp5) false).wp dProg Q a w:=by
 refine wp_region ?_
 rw[show List.range (ropsC dp5).size=[0,1,2,3,4,5] from by kernel_rfl]
 refine evOp dcl.1 (o:=opC dp5 0) (st1:=(stA5 p l out t).put (some 25) (.d (.sl Zb) l)) (by kernel_rfl) (by kernel_rfl) (fun k=>by kernel_rfl) hr fun a w hr=>?_
 refine evOp dcl.1 (o:=opC dp5 1) (st1:=st5a p l out t) (by kernel_rfl) (by kernel_rfl) (fun k=>by kernel_rfl) hr fun a w hr=>?_
 refine evOp dcl.1 (o:=opC dp5 2) (st1:=st5b p l out t (ZQ l t true)) (by kernel_rfl) (by kernel_rfl) (fun k=>by rw[ZPs,hk];rfl) hr fun a w hr=>?_
 refine handOp (o:=opC dp5 3) (by kernel_rfl) (by kernel_rfl) ?_
 refine makeMapH (T:=98) (TM:=79) (by kernel_rfl) hr fun m a w hr=>?_
 rw[show (opC dp5 3).dst=some 28 from by kernel_rfl] at hr
 refine evOpH dcl.1 (o:=opC dp5 4) (st1:=((st5b p l out t (ZQ l t true)).put (some 28) (.cst (.map (some m)))).put (some 6) (.own 28 0 none)) (by kernel_rfl) (by kernel_rfl) (fun k=>by kernel_rfl) hr fun a w hr=>?_
 refine evOpH dcl.1 (o:=opC dp5 5) (st1:=st5c p l out t (ZQ l t true) m) (by kernel_rfl) (by kernel_rfl) (fun k=>by kernel_rfl) hr fun a w hr=>?_
 exact hQ m a w hr
def st13 (p:El Zc) (l:List (El Zb)) (out:List (El Zd)) (t:Int) (m:Nat) (ss:List Int) (k s:Int) (fr:SetD) (ls:List Int) (j r:Int) (v:Value) (b:Bool):St:=
 ((((stD14 p l out t m ss k s fr ls j r).put (some 79) (.cst (.map (some m)))).put (some 80) (.d (.int .i64) r)).put (some 81) (.cst v)).put (some 82) (.d .bool b)
theorem ZPD (v:Value):norm dProg labD14 (st13 p l out t m ss k s fr ls j r v b)=stD14 p l out t m ss k s fr ls j r:=by kernel_rfl
theorem w_13 (hr:RelH 98 Mod F0 w0 h (stD14 p l out t h.m ss k s fr ls j r) a w) (hQ:∀a' w',RelH 98 Mod F0 w0 h (st13 p l out t h.m ss k s fr ls j r (ptrOf (h.at_ r)) (h.at_ r).isNone) a' w'→Q .normal a' w'):(Code.region (ridC dp13) (ropsC dp13) false).wp dProg Q a w:=by
 refine wp_region ?_
 rw[show List.range (ropsC dp13).size=[0,1,2,3] from by kernel_rfl]
 refine evOpH dcl.1 (o:=opC dp13 0) (st1:=(stD14 p l out t h.m ss k s fr ls j r).put (some 79) (.cst (.map (some h.m)))) (by kernel_rfl) (by kernel_rfl) (fun k=>by kernel_rfl) hr fun a w hr=>?_
 refine evOpH dcl.1 (o:=opC dp13 1) (st1:=((stD14 p l out t h.m ss k s fr ls j r).put (some 79) (.cst (.map (some h.m)))).put (some 80) (.d (.int .i64) r)) (by kernel_rfl) (by kernel_rfl) (fun k=>by kernel_rfl) hr fun a w hr=>?_
 refine handOp (o:=opC dp13 2) (by kernel_rfl) (by kernel_rfl) ?_
 refine lookupH (TM:=79) (K:=3) (V:=80) (x:=.tmp 79) (k:=.tmp 80) (key:=r) (by kernel_rfl) (by kernel_rfl) (by kernel_rfl) (by kernel_rfl) (by kernel_rfl) (by kernel_rfl) hr fun a w hr=>?_
 rw[show (opC dp13 2).dst=some 81 from by kernel_rfl] at hr
 refine handOp (o:=opC dp13 3) (by kernel_rfl) (by kernel_rfl) ?_
 refine eqNilH (TT:=80) (TT':=(match (opC dp13 3).op with |.binOp _ _ _ _ T=>T | _=>0)) (E:=(match dProg.underlying 80 with | some (.pointer E)=>E | _=>0)) (x:=.tmp 81) (y:=.const (.pointer none)) (s:=h.at_ r) (by kernel_rfl) (by kernel_rfl) (by kernel_rfl) (by kernel_rfl) hr fun a w hr=>?_
 rw[show (opC dp13 3).dst=some 82 from by kernel_rfl] at hr
 exact hQ a w hr
def st14 (p:El Zc) (l:List (El Zb)) (out:List (El Zd)) (t:Int) (m:Nat) (ss:List Int) (k s:Int) (fr:SetD) (ls:List Int) (j r:Int):St:=
 ((((stD14 p l out t m ss k s fr ls j r).put (some 83) (.cst (.map (some m)))).put (some 84) (.d (.int .i64) r)).put (some 85) (.d (.sl Zb) l)).put (some 86) (.d (.int .i64) (Int.ofNat (List.length l)))
def st14b (p:El Zc) (l:List (El Zb)) (out:List (El Zd)) (t:Int) (m:Nat) (ss:List Int) (k s:Int) (fr:SetD) (ls:List Int) (j r:Int) (d:SetD):St:=
 (((st14 p l out t m ss k s fr ls j r).setOb 90114 0 (.map (.int .i64) (.int .u64) d.2)).setOb 88 0 (.box 98 [.d (.int .i64) d.1,.mp 90114 0] none)).put (some 87) (.pt 88 0 0)
theorem ZPy (d:SetD) (o:Option Nat) (ho:o=none):norm dProg labD14 ((dropIds [88,90114] (st14b p l out t m ss k s fr ls j r d)).put o .top)=stD14 p l out t m ss k s fr ls j r:=by
 subst ho
 kernel_rfl
theorem w_14 (hn:h.at_ r=none) (hr:RelH 98 Mod F0 w0 h (stD14 p l out t h.m ss k s fr ls j r) a w)
  (hQ:∀e a' w',e.key=r→(e.n,e.l)=Zy (Int.ofNat (List.length l))→RelH 98 Mod F0 w0 ⟨h.m,h.es++[e]⟩ (stD14 p l out t h.m ss k s fr ls j r) a' w'→Q .normal a' w'):(Code.region (ridC dp14) (ropsC dp14) false).wp dProg Q a w:=by
 refine wp_region ?_
 rw[show List.range (ropsC dp14).size=[0,1,2,3,4,5] from by kernel_rfl]
 refine evOpH dcl.1 (o:=opC dp14 0) (st1:=(stD14 p l out t h.m ss k s fr ls j r).put (some 83) (.cst (.map (some h.m)))) (by kernel_rfl) (by kernel_rfl) (fun k=>by kernel_rfl) hr fun a w hr=>?_
 refine evOpH dcl.1 (o:=opC dp14 1) (st1:=((stD14 p l out t h.m ss k s fr ls j r).put (some 83) (.cst (.map (some h.m)))).put (some 84) (.d (.int .i64) r)) (by kernel_rfl) (by kernel_rfl) (fun k=>by kernel_rfl) hr fun a w hr=>?_
 refine evOpH dcl.1 (o:=opC dp14 2) (st1:=(((stD14 p l out t h.m ss k s fr ls j r).put (some 83) (.cst (.map (some h.m)))).put (some 84) (.d (.int .i64) r)).put (some 85) (.d (.sl Zb) l)) (by kernel_rfl) (by kernel_rfl) (fun k=>by kernel_rfl) hr fun a w hr=>?_
 refine evOpH dcl.1 (o:=opC dp14 3) (st1:=st14 p l out t h.m ss k s fr ls j r) (by kernel_rfl) (by kernel_rfl) (fun k=>by kernel_rfl) hr fun a w hr=>?_
 refine evOpH dcl.1 (o:=opC dp14 4) (st1:=st14b p l out t h.m ss k s fr ls j r (Zy (Int.ofNat (List.length l)))) (by kernel_rfl) (by kernel_rfl) (fun k=>by kernel_rfl) hr fun a w hr=>?_
 refine handOp (o:=opC dp14 5) (by kernel_rfl) (by kernel_rfl) ?_
 refine putH (TM:=79) (K:=3) (V:=80) (x:=.tmp 83) (k:=.tmp 84) (v:=.tmp 87) (key:=r) (id:=88) (ver:=0) (id2:=90114) (ver2:=0) (tg:=none) (n:=(Zy (Int.ofNat (List.length l))).1) (l:=(Zy (Int.ofNat (List.length l))).2)
  (by kernel_rfl) (by kernel_rfl) (by kernel_rfl) (by kernel_rfl) (by kernel_rfl) (by kernel_rfl) (by kernel_rfl) (by kernel_rfl) (by decide) hn hr fun b mb a w hr=>?_
 exact hQ _ a w rfl rfl (RelH.norm (ZPy _ _ (by kernel_rfl)) hr)
def st19 (p:El Zc) (l:List (El Zb)) (out:List (El Zd)) (t:Int) (m:Nat) (ss:List Int) (k s:Int) (fr:SetD) (ls:List Int) (j r:Int) (bs:List Int) (i x:Int) (v:Value):St:=
 (((((stE p l out t m ss k s fr ls j r bs i).put (some 16) (.d (.int .i64) x)).put (some 96) (.cst (.map (some m)))).put (some 97) (.d (.int .i64) r)).put (some 98) (.cst v)).put (some 99) (.d (.int .i64) x)
theorem ZPv (v:Value) (o:Option Nat) (ho:o=some 100):norm dProg labE ((st19 p l out t m ss k s fr ls j r bs i x v).put o (.d .bool b))=stE p l out t m ss k s fr ls j r bs i:=by
 subst ho
 kernel_rfl
theorem w_19 {e:SE} (he:h.at_ r=some e) (hr:RelH 98 Mod F0 w0 h ((stE p l out t h.m ss k s fr ls j r bs i).put (some 16) (.d (.int .i64) x)) a w)
  (hQ:∀h' a' w',h'.m=h.m→h'.cont=putC h.cont r (Zp (e.n,e.l) x).2→RelH 98 Mod F0 w0 h' (stE p l out t h'.m ss k s fr ls j r bs i) a' w'→Q .normal a' w'):(Code.region (ridC dp19) (ropsC dp19) false).wp dProg Q a w:=by
 refine wp_region ?_
 rw[show List.range (ropsC dp19).size=[0,1,2,3,4] from by kernel_rfl]
 refine evOpH dcl.1 (o:=opC dp19 0) (st1:=((stE p l out t h.m ss k s fr ls j r bs i).put (some 16) (.d (.int .i64) x)).put (some 96) (.cst (.map (some h.m)))) (by kernel_rfl) (by kernel_rfl) (fun k=>by kernel_rfl) hr fun a w hr=>?_
 refine evOpH dcl.1 (o:=opC dp19 1) (st1:=(((stE p l out t h.m ss k s fr ls j r bs i).put (some 16) (.d (.int .i64) x)).put (some 96) (.cst (.map (some h.m)))).put (some 97) (.d (.int .i64) r)) (by kernel_rfl) (by kernel_rfl) (fun k=>by kernel_rfl) hr fun a w hr=>?_
 refine handOp (o:=opC dp19 2) (by kernel_rfl) (by kernel_rfl) ?_
 refine lookupH (TM:=79) (K:=3) (V:=80) (x:=.tmp 96) (k:=.tmp 97) (key:=r) (by kernel_rfl) (by kernel_rfl) (by kernel_rfl) (by kernel_rfl) (by kernel_rfl) (by kernel_rfl) hr fun a w hr=>?_
 rw[show (opC dp19 2).dst=some 98 from by kernel_rfl] at hr
 refine evOpH dcl.1 (o:=opC dp19 3) (st1:=st19 p l out t h.m ss k s fr ls j r bs i x (ptrOf (h.at_ r))) (by kernel_rfl) (by kernel_rfl) (fun k=>by kernel_rfl) hr fun a w hr=>?_
 refine handOp (o:=opC dp19 4) (by kernel_rfl) (by kernel_rfl) ?_
 have hnd:(h.es.map SE.key).Nodup:=by obtain ⟨_,_,_,_,_,_,hH,_⟩:=hr;exact hH.2.1
 have hC:CallOK dProg 39 [.bx 98 [.d (.int .i64) e.n,.mv (.int .i64) (.int .u64) e.l],.d (.int .i64) x] (Zf7 (Zp (e.n,e.l) x)):=ZKp Zb6 fun k=>by kernel_rfl
 refine callSetH (c:=cOf (opC dp19 4)) (f:=39) (fn:=Go.Proofs.Tryz.f39) (body:=Go.Proofs.Tryz.f39.body.getD .skip) (x:=.tmp 98) (y:=.tmp 99) (key:=r) (i:=x) (by kernel_rfl) (by kernel_rfl) (by kernel_rfl) (by kernel_rfl) (by kernel_rfl) (by kernel_rfl) (by kernel_rfl) he (by kernel_rfl) hC hr fun A B mb' a w hAB hr=>?_
 refine hQ ⟨h.m,A++⟨r,e.b,mb',(Zp (e.n,e.l) x).2.1,(Zp (e.n,e.l) x).2.2⟩ :: B⟩ a w rfl ?_ (RelH.norm (ZPv _ _ (by kernel_rfl)) hr)
 have hk:=(ZMq he).2
 have:=ZNv (A:=A) (B:=B) (e:=e) (b:=e.b) (mb:=mb') (n:=0) (n':=(Zp (e.n,e.l) x).2.1) (l':=(Zp (e.n,e.l) x).2.2) hk (by rw[←hAB];exact hnd) h.m h.m
 rw[this]
 have:(⟨h.m,A++e :: B⟩:HS)=h:=by cases h;simp only[HS.mk.injEq,true_and];exact hAB.symm
 rw[this]
def st16 (p:El Zc) (l:List (El Zb)) (out:List (El Zd)) (t:Int) (m:Nat) (ss:List Int) (k s:Int) (fr:SetD) (ls:List Int) (j r:Int) (v:Value) (b:Bool):St:=
 (((((stD14 p l out t m ss k s fr ls j r).put (some 102) (.cst (.map (some m)))).put (some 103) (.d (.int .i64) r)).put (some 104) (.cst v)).put (some 105) (.d (.int .i64) s)).put (some 106) (.d .bool b)
theorem ZPk (v:Value):norm dProg labD (st16 p l out t m ss k s fr ls j r v b)=stD p l out t m ss k s fr ls j:=by kernel_rfl
theorem w_16 {e:SE} (he:h.at_ r=some e) (hr:RelH 98 Mod F0 w0 h (stD14 p l out t h.m ss k s fr ls j r) a w)
  (hQ:∀h' a' w',h'.m=h.m→h'.cont=h.cont→RelH 98 Mod F0 w0 h' (st16 p l out t h'.m ss k s fr ls j r (ptrOf (h.at_ r)) (Zo (e.n,e.l) s).1) a' w'→Q .normal a' w'):(Code.region (ridC dp16) (ropsC dp16) false).wp dProg Q a w:=by
 refine wp_region ?_
 rw[show List.range (ropsC dp16).size=[0,1,2,3,4] from by kernel_rfl]
 refine evOpH dcl.1 (o:=opC dp16 0) (st1:=(stD14 p l out t h.m ss k s fr ls j r).put (some 102) (.cst (.map (some h.m)))) (by kernel_rfl) (by kernel_rfl) (fun k=>by kernel_rfl) hr fun a w hr=>?_
 refine evOpH dcl.1 (o:=opC dp16 1) (st1:=((stD14 p l out t h.m ss k s fr ls j r).put (some 102) (.cst (.map (some h.m)))).put (some 103) (.d (.int .i64) r)) (by kernel_rfl) (by kernel_rfl) (fun k=>by kernel_rfl) hr fun a w hr=>?_
 refine handOp (o:=opC dp16 2) (by kernel_rfl) (by kernel_rfl) ?_
 refine lookupH (TM:=79) (K:=3) (V:=80) (x:=.tmp 102) (k:=.tmp 103) (key:=r) (by kernel_rfl) (by kernel_rfl) (by kernel_rfl) (by kernel_rfl) (by kernel_rfl) (by kernel_rfl) hr fun a w hr=>?_
 rw[show (opC dp16 2).dst=some 104 from by kernel_rfl] at hr
 refine evOpH dcl.1 (o:=opC dp16 3) (st1:=((((stD14 p l out t h.m ss k s fr ls j r).put (some 102) (.cst (.map (some h.m)))).put (some 103) (.d (.int .i64) r)).put (some 104) (.cst (ptrOf (h.at_ r)))).put (some 105) (.d (.int .i64) s)) (by kernel_rfl) (by kernel_rfl) (fun k=>by kernel_rfl) hr fun a w hr=>?_
 refine handOp (o:=opC dp16 4) (by kernel_rfl) (by kernel_rfl) ?_
 have hnd:(h.es.map SE.key).Nodup:=by obtain ⟨_,_,_,_,_,_,hH,_⟩:=hr;exact hH.2.1
 have hC:CallOK dProg 40 [.bx 98 [.d (.int .i64) e.n,.mv (.int .i64) (.int .u64) e.l],.d (.int .i64) s] (Zf4 (Zo (e.n,e.l) s)):=ZKp ZeH fun k=>by kernel_rfl
 refine callSetH (c:=cOf (opC dp16 4)) (f:=40) (fn:=Go.Proofs.Tryz.f40) (body:=Go.Proofs.Tryz.f40.body.getD .skip) (x:=.tmp 104) (y:=.tmp 105) (key:=r) (i:=s) (by kernel_rfl) (by kernel_rfl) (by kernel_rfl) (by kernel_rfl) (by kernel_rfl) (by kernel_rfl) (by kernel_rfl) he (by kernel_rfl) hC hr fun A B mb' a w hAB hr=>?_
 rw[show (opC dp16 4).dst=some 106 from by kernel_rfl] at hr
 refine hQ ⟨h.m,A++⟨r,e.b,mb',(Zo (e.n,e.l) s).2.1,(Zo (e.n,e.l) s).2.2⟩ :: B⟩ a w rfl ?_ hr
 have hk:=(ZMq he).2
 unfold HS.cont
 rw[hAB]
 simp only[List.map_append,List.map_cons,hk]
 rfl
theorem ZPo (v:Value):dEvG dp17 labD (st16 p l out t m ss k s fr ls j r v b) (stD p l (out++[(t,((List.getD l (Int.toNat s) (dflt Zb)).2.1,(List.getD l (Int.toNat r) (dflt Zb)).2.1))]) t m ss k s fr ls j)
  (bif inB s (List.length l) then (bif inB r (List.length l) then Nat.ble ((List.length out+1)*24) limit else false) else false):=fun L k x r=>by
 rw[show ∀(a b c:Bool) (u:Option Ans),(bif (bif a then (bif b then c else false) else false) then u else none)=(bif a then (bif b then (bif c then u else none) else none) else none) from fun a b c u=>by cases a <;> cases b <;> rfl]
 kernel_rfl
end
end
end Go.Ev
end

section
open Go Go.Ev
namespace Go.Ev
noncomputable section
def putAll (d:SetD) (xs:List Int):SetD:=xs.foldl (fun d x=>(Zp d x).2) d
def dBack (p:El Zc) (l:List (El Zb)) (r:Int):SetD:=putAll (Zy (Int.ofNat (List.length l))) (ZbF p r)
abbrev OkS (p:El Zc) (l:List (El Zb)) (ms:SetsD):Prop:=∀r d,getC ms r=some d→d=dBack p l r
abbrev OkBut (p:El Zc) (l:List (El Zb)) (ms:SetsD) (r:Int):Prop:=∀r',r'≠r→∀d,getC ms r'=some d→d=dBack p l r'
theorem ZNB {ms:SetsD} {r:Int} {d d':SetD} (h:getC ms r=some d):getC (putC ms r d') r=some d':=by
 induction ms with
 | nil=>cases h
 | cons x ms ih=>
  unfold getC putC at*
  by_cases hx:x.1=r
  ·simp[hx]
  ·simp only[List.map_cons,hx,if_false]
   rw[List.find?_cons_of_neg (by simpa using hx)]
   rw[List.find?_cons_of_neg (by simpa using hx)] at h
   exact ih h
theorem ZJJ {ms:SetsD} {r r':Int} {d':SetD} (hne:r'≠r):getC (putC ms r d') r'=getC ms r':=by
 induction ms with
 | nil=>rfl
 | cons x ms ih=>
  unfold getC putC at*
  by_cases hx:x.1=r
  ·have h1:¬r=r':=fun e=>hne e.symm
   have h2:¬x.1=r':=by rw[hx];exact h1
   simp only[List.map_cons,hx,if_true]
   rw[List.find?_cons_of_neg (by simpa using h1),List.find?_cons_of_neg (by simpa using h2)]
   exact ih
  ·simp only[List.map_cons,hx,if_false]
   by_cases hx':x.1=r'
   ·rw[List.find?_cons_of_pos (by simpa using hx'),List.find?_cons_of_pos (by simpa using hx')]
   ·rw[List.find?_cons_of_neg (by simpa using hx'),List.find?_cons_of_neg (by simpa using hx')]
    exact ih
theorem ZNi {ms:SetsD} {r:Int} {d:SetD} (h:getC ms r=none):getC (ms++[(r,d)]) r=some d:=by
 unfold getC at*
 rw[List.find?_append]
 rw[Option.map_eq_none_iff] at h
 rw[h]
 simp
theorem ZIW {ms:SetsD} {r r':Int} {d:SetD} (h:r'≠r):getC (ms++[(r,d)]) r'=getC ms r':=by
 unfold getC
 rw[List.find?_append]
 have:¬r=r':=fun e=>h e.symm
 simp[this]
theorem ZCx {i n:Nat} (h:i < n):inB (i:Int) n=true:=by
 unfold inB
 rw[decide_eq_true (Int.natCast_nonneg i),decide_eq_true (show (i:Int) < Int.ofNat n from Int.ofNat_lt.2 h)]
 rfl
theorem ZF0 (i n:Nat):decide ((i:Int) < Int.ofNat n)=decide (i < n):=decide_eq_decide.2 Int.ofNat_lt
section
variable [Orgs] {Mod F0:Nat→Prop} {w0:World} {h:HS} {a:Act} {w:World} {Q:Exit→Act→World→Prop}
variable {p:El Zc} {l:List (El Zb)} {out:List (El Zd)} {t:Int} {m:Nat} {ss:List Int} {k s:Int} {fr:SetD} {fs:List Int} {j:Int} {ls:List Int} {r:Int} {bs:List Int} {i x:Int} {b:Bool}
theorem w_K8 {d0:SetD} (hb:bs.length < 1000000000000) (ho:OkBut p l h.cont r) (hg:getC h.cont r=some d0) (hr:RelH 98 Mod F0 w0 h (stE p l out t h.m ss k s fr ls j r bs 0) a w)
  (hQ:∀h' a' w',OkBut p l h'.cont r→getC h'.cont r=some (putAll d0 bs)→RelH 98 Mod F0 w0 h' (stD14 p l out t h'.m ss k s fr ls j r) a' w'→Q .normal a' w'):dpK8.wp dProg Q a w:=by
 rw[ZOo]
 refine forLoop (fun i a w=>∃h:HS,OkBut p l h.cont r∧getC h.cont r=some (putAll d0 (bs.take i))∧RelH 98 Mod F0 w0 h (stE p l out t h.m ss k s fr ls j r bs (i:Int)) a w)
  (fun i a w=>∃h:HS,OkBut p l h.cont r∧getC h.cont r=some (putAll d0 (bs.take i))∧RelH 98 Mod F0 w0 h ((stE p l out t h.m ss k s fr ls j r bs (i:Int)).put (some 93) (.d .bool (decide ((i:Int) < Int.ofNat (List.length bs))))) a w)
  (fun i a w=>∃h:HS,OkBut p l h.cont r∧getC h.cont r=some (putAll d0 (bs.take (i+1)))∧RelH 98 Mod F0 w0 h (stE p l out t h.m ss k s fr ls j r bs (i:Int)) a w)
  bs.length (toGo 92 bs.length) ?_ ?_ ?_ ?_ ?_ ⟨h,ho,hg,hr⟩ ?_
 ·intro i a w hi ⟨h,ho,hg,hr⟩
  exact pieceH dcl.1 dcl.2 (fun s=>s) (fun h=>h) (ZPn _ _ _ _ _ _ _ _ _ _ _ _ _ _) hr fun a' w' hr'=>⟨rfl,h,ho,hg,hr'⟩
 ·intro i a w hi ⟨h,ho,hg,hr⟩
  rw[hr.evb (x:=.tmp 93) (b:=decide ((i:Int) < Int.ofNat (List.length bs))) (by kernel_rfl),ZF0]
 ·intro i a w hi ⟨h,ho,hg,hr⟩
  rw[ZOv]
  refine wp_seq (pieceH dcl.1 dcl.2 (norm dProg labE16) (fun h=>Z1 h) ((ZPw p l out t h.m ss k s fr j ls r bs (i:Int) _).ok (ZCx hi)) hr fun a w hr=>?_)
  have hat:=ZJk h r
  rw[hg] at hat
  obtain ⟨e,he,hed⟩:=Option.map_eq_some_iff.1 hat
  refine w_19 he hr fun h' a' w' hm hc hr'=>⟨.inl rfl,h',fun r' hr1 d hd=>?_,?_,hr'⟩
  ·rw[hc,ZJJ hr1] at hd
   exact ho r' hr1 d hd
  ·rw[hc,ZNB hg,hed,List.take_succ_eq_append_getElem hi]
   unfold putAll
   rw[List.foldl_append]
   simp only[List.foldl_cons,List.foldl_nil]
   rw[Int.toNat_natCast,List.getD_eq_getElem?_getD,List.getElem?_eq_getElem hi]
   rfl
 ·intro i a w hi ⟨h,ho,hg,hr⟩
  have e:=ZPG p l out t h.m ss k s fr j ls r bs (i:Int)
  rw[Zr (by omega)] at e
  exact pieceH dcl.1 dcl.2 (norm dProg labE) (fun h=>Z1 h) e hr fun a' w' hr'=>⟨rfl,h,ho,hg,hr'⟩
 ·intro i a w hi ⟨h,ho,hg,hr⟩
  unfold toGo
  rw[hr.ev (x:=.tmp 92) (k:=.i64) (n:=(i:Int)) (by kernel_rfl)]
  rfl
 ·intro a w ⟨h,ho,hg,hr⟩
  rw[List.take_length] at hg
  exact hQ h a w ho hg (hr.norm (ZO1 _ _ _ _ _ _ _ _ _ _ _ _ _ _ _))
end
end
end Go.Ev
end

section
open Go Go.Ev
namespace Go.Ev
noncomputable section
def hitP (p:El Zc) (l:List (El Zb)) (s:Int) (fr:SetD) (r:Int):Bool:=(Zo fr (List.getD l (Int.toNat r) (dflt Zb)).2.1).1&&(Zo (dBack p l r) s).1
def oneP (p:El Zc) (l:List (El Zb)) (t s:Int) (fr:SetD) (r:Int):List (El Zd):=
 if hitP p l s fr r=true then [(t,((List.getD l (Int.toNat s) (dflt Zb)).2.1,(List.getD l (Int.toNat r) (dflt Zb)).2.1))] else []
section
variable [Orgs] {Mod F0:Nat→Prop} {w0:World} {h:HS} {a:Act} {w:World} {Q:Exit→Act→World→Prop}
variable {p:El Zc} {l:List (El Zb)} {out:List (El Zd)} {t:Int} {m:Nat} {ss:List Int} {k s:Int} {fr:SetD} {fs:List Int} {j:Int} {ls:List Int} {r:Int} {bs:List Int} {i x:Int} {b:Bool}
theorem ZE0 {r:Int} {n:Nat} (h0:0≤r) (h1:r < (n:Int)):inB r n=true:=by
 unfold inB
 rw[decide_eq_true h0,decide_eq_true (show r < Int.ofNat n from h1)]
 rfl
theorem ZPB (hs:0≤s∧s < (l.length:Int)) (hrr:0≤r∧r < (l.length:Int)) (hlim:(out.length+1)*24≤limit) (hhas:(Zo fr (List.getD l (Int.toNat r) (dflt Zb)).2.1).1=true) (ho:OkS p l h.cont) (hg:getC h.cont r=some (dBack p l r))
  (hr:RelH 98 Mod F0 w0 h (stD14 p l out t h.m ss k s fr ls j r) a w) (hQ:∀h' a' w',OkS p l h'.cont→RelH 98 Mod F0 w0 h' (stD p l (out++oneP p l t s fr r) t h'.m ss k s fr ls j) a' w'→Q .normal a' w'):
  (Code.seq (.region (ridC dp16) (ropsC dp16) false) (.cond (.tmp 106) dp17 .skip)).wp dProg Q a w:=by
 have hat:=ZJk h r
 rw[hg] at hat
 obtain ⟨e,he,hed⟩:=Option.map_eq_some_iff.1 hat
 refine wp_seq (w_16 he hr fun h' a w hm hc hr=>?_)
 have ho':OkS p l h'.cont:=by rw[hc];exact ho
 have hone:hitP p l s fr r=(Zo (e.n,e.l) s).1:=by unfold hitP;rw[hhas,hed];rfl
 refine wp_cond_split (t:=(Zo (e.n,e.l) s).1) (hr.evb (x:=.tmp 106) (by kernel_rfl)) (fun ht=>?_) (fun hf=>?_)
 ·refine pieceH dcl.1 dcl.2 (norm dProg labD) (fun h=>Z1 h) ((ZPo _).ok ?_) hr fun a w hr=>hQ h' a w ho' ?_
  ·rw[ZE0 hs.1 hs.2,ZE0 hrr.1 hrr.2]
   exact Nat.ble_eq_true_of_le hlim
  ·unfold oneP
   rw[if_pos (hone.trans ht)]
   exact hr
 ·refine wp_skip (hQ h' a w ho' ?_)
  unfold oneP
  rw[if_neg (by rw[hone,hf];decide),List.append_nil]
  exact hr.norm (ZPk _)
theorem w_B7 {j:Nat} (hj:j < ls.length) (hrd:List.getD ls j (dflt (.int .i64))=r) (hs:0≤s∧s < (l.length:Int)) (hrr:0≤r∧r < (l.length:Int)) (hlim:(out.length+1)*24≤limit) (hkb:ZgS p r=true) (hbl:(ZbF p r).length < 1000000000000) (ho:OkS p l h.cont)
  (hr:RelH 98 Mod F0 w0 h ((stD p l out t h.m ss k s fr ls (j:Int)).put (some 68) (.d .bool b)) a w):
  (lpB dpK6).wp dProg (fun e a' w'=>(e=.normal∨e=.exit 7)∧∃h':HS,OkS p l h'.cont∧RelH 98 Mod F0 w0 h' (stD p l (out++oneP p l t s fr r) t h'.m ss k s fr ls (j:Int)) a' w') a w:=by
 rw[ZOM]
 refine wp_seq (pieceH dcl.1 dcl.2 (norm dProg labD14) (fun h=>Z1 h) ((ZPz p l out t h.m ss k s fr (j:Int) ls b).ok (ZCx hj)) hr fun a w hr=>?_)
 rw[Int.toNat_natCast,hrd] at hr
 refine wp_seq (wp_seq (pieceH dcl.1 dcl.2 (norm dProg labD78) (fun h=>Z1 h) ((ZPE p l out t h.m ss k s fr (j:Int) ls r).ok (ZE0 hrr.1 hrr.2)) hr fun a w hr=>?_))
 refine wp_cond_split (t:=! (Zo fr (List.getD l (Int.toNat r) (dflt Zb)).2.1).1) (hr.evb (x:=.tmp 78) (by kernel_rfl)) (fun ht=>?_) (fun hf=>?_)
 ·-- not behind it
  refine wp_exit ⟨.inr rfl,h,ho,?_⟩
  have:¬hitP p l s fr r=true:=by
   unfold hitP
   rw[Bool.not_eq_true'] at ht
   rw[ht,Bool.false_and];exact Bool.false_ne_true
  unfold oneP
  rw[if_neg this,List.append_nil]
  exact hr.norm (dn_D _ _ _ _ _ _ _ _ _ _ _ _ _)
 refine wp_skip ?_
 have hhas:(Zo fr (List.getD l (Int.toNat r) (dflt Zb)).2.1).1=true:=by simpa using hf
 have hr:=hr.norm (ZPf p l out t h.m ss k s fr (j:Int) ls r _)
 have fin:∀(h':HS) (a:Act) (w:World),OkS p l h'.cont→getC h'.cont r=some (dBack p l r)→RelH 98 Mod F0 w0 h' (stD14 p l out t h'.m ss k s fr ls (j:Int) r) a w→
   (Code.seq (.region (ridC dp16) (ropsC dp16) false) (.cond (.tmp 106) dp17 .skip)).wp dProg (fun e a' w'=>(e=.normal∨e=.exit 7)∧∃h':HS,OkS p l h'.cont∧RelH 98 Mod F0 w0 h' (stD p l (out++oneP p l t s fr r) t h'.m ss k s fr ls (j:Int)) a' w') a w:=fun h' a w ho hg hr=>
  ZPB hs hrr hlim hhas ho hg hr fun h'' a'' w'' ho'' hr''=>⟨.inl rfl,h'',ho'',hr''⟩
 refine wp_seq (wp_seq (w_13 hr fun a w hr=>?_))
 have hev:=hr.evb (x:=.tmp 82) (b:=(h.at_ r).isNone) (by kernel_rfl)
 have hr:=hr.norm (ZPD _)
 have hat:=ZJk h r
 cases hc:h.at_ r with
 | none=>
  rw[hc] at hev hat
  refine wp_cond_true hev (wp_seq (w_14 hc hr fun e a w hek hed hr=>?_))
  refine wp_seq (pieceH dcl.1 dcl.2 (norm dProg labE) (fun h=>Z1 h) ((ZPu p l out t h.m ss k s fr (j:Int) ls r).ok hkb) hr fun a w hr=>?_)
  have hnone:getC h.cont r=none:=hat.symm
  have hcont:(⟨h.m,h.es++[e]⟩:HS).cont=h.cont++[(r,Zy (Int.ofNat (List.length l)))]:=by
   unfold HS.cont
   rw[List.map_append]
   simp only[List.map_cons,List.map_nil,hek]
   rw[show (e.n,e.l)=Zy (Int.ofNat (List.length l)) from hed]
  refine w_K8 (h:=⟨h.m,h.es++[e]⟩) (d0:=Zy (Int.ofNat (List.length l))) hbl ?_ ?_ hr fun h' a w ho' hg' hr'=>?_
  ·intro r' hne d hd
   rw[hcont,ZIW hne] at hd
   exact ho r' d hd
  ·rw[hcont];exact ZNi hnone
  ·refine fin h' a w (fun r' d hd=>?_) hg' hr'
   by_cases e:r'=r
   ·subst e
    rw[hg'] at hd
    exact (Option.some.inj hd).symm
   ·exact ho' r' e d hd
 | some e=>
  rw[hc] at hev hat
  have hg:getC h.cont r=some (e.n,e.l):=hat.symm
  have:=ho r _ hg
  exact wp_cond_false hev (wp_skip (fin h a w ho (by rw[hg,this]) hr))
end
end
end Go.Ev
end

section
open Go Go.Ev
namespace Go.Ev
noncomputable section
def insP (p:El Zc) (t:Int):List (El Za):=List.getD p.2 (Int.toNat t) (dflt (.sl Za))
def insL (l:List (El Zb)) (s:Int):Int:=(List.getD l (Int.toNat s) (dflt Zb)).2.1
def frS (p:El Zc) (l:List (El Zb)) (t s:Int):SetD:=putAll (Zy (Int.ofNat (List.length (insP p t)))) (Zbu (insP p t) (insL l s))
def outS (p:El Zc) (l:List (El Zb)) (t s:Int):List (El Zd):=(ZQ l t false).flatMap (oneP p l t s (frS p l t s))
def outT (p:El Zc) (l:List (El Zb)) (t:Int):List (El Zd):=(ZQ l t true).flatMap (outS p l t)
theorem Zkw {n:Nat} {M:Nat→Bool} :(listOf n M).length≤n:=by rw[Zhr];exact Zes
theorem ZKD (p:El Zc) (l:List (El Zb)) (t s:Int) (fr:SetD) (r:Int):(oneP p l t s fr r).length≤1:=by
 unfold oneP
 split <;> simp
theorem Zpr {α β:Type} {f:α→List β} {n:Nat} (h:∀x,(f x).length≤n):∀l:List α,(l.flatMap f).length≤l.length*n
 | []=>by simp
 | x :: l=>by
  have:=Zpr h l
  have:=h x
  rw[List.flatMap_cons,List.length_append,List.length_cons,Nat.add_mul]
  omega
theorem ZKl (p:El Zc) (l:List (El Zb)) (t s:Int):(outS p l t s).length≤l.length:=by
 have h1:=Zpr (ZKD p l t s (frS p l t s)) (ZQ l t false)
 have h2:(ZQ l t false).length≤l.length:=Zkw
 unfold outS
 omega
theorem ZM8 (p:El Zc) (l:List (El Zb)) (t:Int):(outT p l t).length≤l.length*l.length:=by
 have h1:=Zpr (ZKl p l t) (ZQ l t true)
 have h2:(ZQ l t true).length≤l.length:=Zkw
 have h3:=Nat.mul_le_mul_right l.length h2
 unfold outT
 omega
theorem ZHd {α β:Type} {f:α→List β} {l:List α} {k:Nat} (hk:k < l.length) {x:α} (hx:l[k]? =some x):(l.take (k+1)).flatMap f=(l.take k).flatMap f++f x:=by
 rw[List.take_add_one,hx]
 simp
section
variable [Orgs] {Mod F0:Nat→Prop} {w0:World} {h:HS} {a:Act} {w:World} {Q:Exit→Act→World→Prop}
variable {p:El Zc} {l:List (El Zb)} {out:List (El Zd)} {t:Int} {m:Nat} {ss:List Int} {k s:Int} {fr:SetD} {fs:List Int} {j:Int} {ls:List Int} {r:Int} {bs:List Int} {i x:Int} {b:Bool}
theorem ZEJ {ls:List Int} {j:Nat} (hj:j < ls.length):ls[j]? =some (List.getD ls j (dflt (.int .i64)))∧List.getD ls j (dflt (.int .i64))∈ls:=by
 have h:ls[j]? =some (List.getD ls j (dflt (.int .i64))):=by rw[List.getD_eq_getElem?_getD,List.getElem?_eq_getElem hj];rfl
 exact ⟨h,List.mem_of_getElem? h⟩
theorem lim1 {o f j n L:Nat} (h:(o+n+1)*24≤L) (h1:f≤min j n*1):(o+f+1)*24≤L:=Nat.le_trans (Nat.mul_le_mul_right _ (Nat.add_le_add_right (Nat.add_le_add_left (Nat.le_trans h1 (by rw[Nat.mul_one];exact Nat.min_le_right _ _)) _) _)) h
theorem lim2 {a b:Nat} (h:a≤b) (h1:b < 1000000000):a < 1000000000000:=Nat.lt_of_le_of_lt h (Nat.lt_trans h1 (by decide))
theorem lim3 {o a b L:Nat} (h:a≤b) (h1:(o+b+1)*24≤L):(o+a+1)*24≤L:=Nat.le_trans (Nat.mul_le_mul_right _ (Nat.add_le_add_right (Nat.add_le_add_left h _) _)) h1
attribute [local irreducible] stA stA5 stB stB9 stB10 stC stD stD14 stE St.put
theorem w_K6 (hs:0≤s∧s < (l.length:Int)) (hls:∀r∈ls,(0≤r∧r < (l.length:Int))∧ZgS p r=true∧(ZbF p r).length < 1000000000000) (hlen:ls.length < 1000000000000) (hlim:(out.length+ls.length+1)*24≤limit) (ho:OkS p l h.cont)
  (hr:RelH 98 Mod F0 w0 h (stD p l out t h.m ss k s fr ls 0) a w)
  (hQ:∀h' j b a' w',OkS p l h'.cont→RelH 98 Mod F0 w0 h' ((stD p l (out++ls.flatMap (oneP p l t s fr)) t h'.m ss k s fr ls j).put (some 68) (.d .bool b)) a' w'→Q .normal a' w'):dpK6.wp dProg Q a w:=by
 rw[ZOk]
 refine forLoop (fun j a w=>∃h:HS,OkS p l h.cont∧RelH 98 Mod F0 w0 h (stD p l (out++(ls.take j).flatMap (oneP p l t s fr)) t h.m ss k s fr ls (j:Int)) a w)
  (fun j a w=>∃h:HS,OkS p l h.cont∧RelH 98 Mod F0 w0 h ((stD p l (out++(ls.take j).flatMap (oneP p l t s fr)) t h.m ss k s fr ls (j:Int)).put (some 68) (.d .bool (decide ((j:Int) < Int.ofNat (List.length ls))))) a w)
  (fun j a w=>∃h:HS,OkS p l h.cont∧RelH 98 Mod F0 w0 h (stD p l (out++(ls.take (j+1)).flatMap (oneP p l t s fr)) t h.m ss k s fr ls (j:Int)) a w)
  ls.length (toGo 67 ls.length) ?_ ?_ ?_ ?_ ?_ ⟨h,ho,by simpa using hr⟩ ?_
 ·intro j a w hj ⟨h,ho,hr⟩
  exact pieceH dcl.1 dcl.2 (fun s=>s) (fun h=>h) (ZPx _ _ _ _ _ _ _ _ _ _ _) hr fun a' w' hr'=>⟨rfl,h,ho,hr'⟩
 ·intro j a w hj ⟨h,ho,hr⟩
  rw[hr.evb (x:=.tmp 68) (b:=decide ((j:Int) < Int.ofNat (List.length ls))) (by kernel_rfl),ZF0]
 ·intro j a w hj ⟨h,ho,hr⟩
  obtain ⟨g1,g2⟩:=ZEJ hj
  obtain ⟨q1,q2,q3⟩:=hls _ g2
  rw[ZHd hj g1,←List.append_assoc]
  refine w_B7 hj rfl hs q1 ?_ q2 q3 ho hr
  have h1:=Zpr (ZKD p l t s fr) (ls.take j)
  rw[List.length_append]
  rw[List.length_take] at h1
  exact lim1 hlim h1
 ·intro j a w hj ⟨h,ho,hr⟩
  have e:=ZPi p l (out++(ls.take (j+1)).flatMap (oneP p l t s fr)) t h.m ss k s fr (j:Int) ls
  rw[Zr (by omega)] at e
  exact pieceH dcl.1 dcl.2 (norm dProg labD) (fun h=>Z1 h) e hr fun a' w' hr'=>⟨rfl,h,ho,hr'⟩
 ·intro j a w hj ⟨h,ho,hr⟩
  unfold toGo
  rw[hr.ev (x:=.tmp 67) (k:=.i64) (n:=(j:Int)) (by kernel_rfl)]
  rfl
 ·intro a w ⟨h,ho,hr⟩
  rw[List.take_length] at hr
  exact hQ h _ _ a w ho hr
theorem w_K4 (hlen:fs.length < 1000000000000) (hr:RelH 98 Mod F0 w0 h (stC p l out t h.m ss k s fr fs 0) a w)
  (hQ:∀j b a' w',RelH 98 Mod F0 w0 h ((stC p l out t h.m ss k s (putAll fr fs) fs j).put (some 56) (.d .bool b)) a' w'→Q .normal a' w'):dpK4.wp dProg Q a w:=by
 rw[ZOO]
 refine forLoop (fun j a w=>RelH 98 Mod F0 w0 h (stC p l out t h.m ss k s (putAll fr (fs.take j)) fs (j:Int)) a w)
  (fun j a w=>RelH 98 Mod F0 w0 h ((stC p l out t h.m ss k s (putAll fr (fs.take j)) fs (j:Int)).put (some 56) (.d .bool (decide ((j:Int) < Int.ofNat (List.length fs))))) a w)
  (fun j a w=>RelH 98 Mod F0 w0 h (stC p l out t h.m ss k s (putAll fr (fs.take (j+1))) fs (j:Int)) a w)
  fs.length (toGo 55 fs.length) ?_ ?_ ?_ ?_ ?_ hr ?_
 ·intro j a w hj hr
  exact pieceH dcl.1 dcl.2 (fun s=>s) (fun h=>h) (ZPh _ _ _ _ _ _ _ _ _ _ _) hr fun a' w' hr'=>⟨rfl,hr'⟩
 ·intro j a w hj hr
  rw[hr.evb (x:=.tmp 56) (b:=decide ((j:Int) < Int.ofNat (List.length fs))) (by kernel_rfl),ZF0]
 ·intro j a w hj hr
  refine pieceH dcl.1 dcl.2 (norm dProg labC) (fun h=>Z1 h) ((ZPj p l out t h.m ss k s (putAll fr (fs.take j)) fs (j:Int) _).ok (ZCx hj)) hr fun a' w' hr'=>⟨.inl rfl,?_⟩
  have:putAll fr (fs.take (j+1))=(Zp (putAll fr (fs.take j)) (List.getD fs (Int.toNat (j:Int)) (dflt (.int .i64)))).2:=by
   rw[List.take_succ_eq_append_getElem hj]
   unfold putAll
   rw[List.foldl_append]
   simp only[List.foldl_cons,List.foldl_nil]
   rw[Int.toNat_natCast,List.getD_eq_getElem?_getD,List.getElem?_eq_getElem hj]
   rfl
  rw[this]
  exact hr'
 ·intro j a w hj hr
  have e:=ZPm p l out t h.m ss k s (putAll fr (fs.take (j+1))) fs (j:Int)
  rw[Zr (by omega)] at e
  exact pieceH dcl.1 dcl.2 (norm dProg labC) (fun h=>Z1 h) e hr fun a' w' hr'=>⟨rfl,hr'⟩
 ·intro j a w hj hr
  unfold toGo
  rw[hr.ev (x:=.tmp 55) (k:=.i64) (n:=(j:Int)) (by kernel_rfl)]
  rfl
 ·intro a w hr
  rw[List.take_length] at hr
  exact hQ _ _ a w hr
structure DelayOK (p:El Zc) (l:List (El Zb)):Prop where
 len:l.length < 1000000000
 thr:p.2.length < 1000000000
 all:(p.2.length*(l.length*l.length)+1)*24≤limit
 back:∀r:Int,ZgS p r=true∧(ZbF p r).length < 1000000000000
 flow:∀(t:Nat) (i:Int),t < p.2.length→Zih (insP p (t:Int)) i=true∧(Zbu (insP p (t:Int)) i).length < 1000000000000
theorem ZKH {l:List (El Zb)} {t:Int} {b:Bool} {r:Int} (h:r∈ZQ l t b):0≤r∧r < (l.length:Int):=by
 obtain ⟨i,hi,_,rfl⟩:=Zcm.1 h
 omega
theorem w_B3 (hd:DelayOK p l) {t:Nat} (ht:t < p.2.length) {k:Nat} (hk:k < ss.length) (hss:∀s∈ss,0≤s∧s < (l.length:Int)) (hlim:(out.length+l.length+1)*24≤limit) (ho:OkS p l h.cont)
  (hr:RelH 98 Mod F0 w0 h ((stB p l out (t:Int) h.m ss (k:Int)).put (some 32) (.d .bool b)) a w):
  (lpB dpK2).wp dProg (fun e a' w'=>(e=.normal∨e=.exit 3)∧∃(h':HS) (s:Int) (fr:SetD) (ls:List Int) (j:Int) (b:Bool),OkS p l h'.cont∧RelH 98 Mod F0 w0 h' ((stD p l (out++outS p l (t:Int) (List.getD ss k (dflt (.int .i64)))) (t:Int) h'.m ss (k:Int) s fr ls j).put (some 68) (.d .bool b)) a' w') a w:=by
 obtain ⟨g1,g2⟩:=ZEJ hk
 have hs:=hss _ g2
 obtain ⟨f1,f2⟩:=hd.flow t (insL l (List.getD ss k (dflt (.int .i64)))) ht
 rw[ZOG]
 refine wp_seq (pieceH dcl.1 dcl.2 (norm dProg labB9) (fun h=>Z1 h) ((dp_7 p l out (t:Int) h.m ss (k:Int) b).ok (ZCx hk)) hr fun a w hr=>?_)
 rw[Int.toNat_natCast] at hr
 refine wp_seq (pieceH dcl.1 dcl.2 (norm dProg labB10) (fun h=>Z1 h) ((dp_8 p l out (t:Int) h.m ss (k:Int) _).ok (ZCx ht)) hr fun a w hr=>?_)
 refine wp_seq (wp_seq (pieceH dcl.1 dcl.2 (norm dProg labC) (fun h=>Z1 h) ((dp_9 p l out (t:Int) h.m ss (k:Int) _ _).ok (by rw[ZCx ht,ZE0 hs.1 hs.2];exact f1)) hr fun a w hr=>?_))
 refine w_K4 f2 hr fun j b a w hr=>?_
 have hkp:Zdx l (t:Int) false=true:=decide_eq_true hd.len
 refine wp_seq (pieceH dcl.1 dcl.2 (norm dProg labD) (fun h=>Z1 h) ((ZPp p l out (t:Int) h.m ss (k:Int) _ _ _ _ _).ok hkp) hr fun a w hr=>?_)
 have hl2:(ZQ l (t:Int) false).length≤l.length:=Zkw
 refine w_K6 hs (fun r hrm=>⟨ZKH hrm,hd.back r⟩) (lim2 hl2 hd.len) (lim3 hl2 hlim) ho hr fun h' j b a w ho hr=>⟨.inl rfl,h',_,_,_,j,b,ho,hr⟩
end
end
end Go.Ev
end

section
open Go Go.Ev
namespace Go.Ev
noncomputable section
theorem limA {o c n N L:Nat} (hc:c < n) (h:(o+n*N+1)*24≤L) {f:Nat} (hf:f≤min c n*N):(o+f+N+1)*24≤L:=by
 refine Nat.le_trans (Nat.mul_le_mul_right _ (Nat.add_le_add_right ?_ _)) h
 rw[Nat.add_assoc]
 refine Nat.add_le_add_left ?_ _
 have h1:(c+1)*N≤n*N:=Nat.mul_le_mul_right _ hc
 have h2:min c n*N≤c*N:=Nat.mul_le_mul_right _ (Nat.min_le_left _ _)
 rw[Nat.succ_mul] at h1
 exact Nat.le_trans (Nat.add_le_add_right (Nat.le_trans hf h2) _) h1
section
variable [Orgs] {Mod F0:Nat→Prop} {w0:World} {h:HS} {a:Act} {w:World} {Q:Exit→Act→World→Prop}
variable {p:El Zc} {l:List (El Zb)} {out:List (El Zd)} {m:Nat} {ss:List Int} {b:Bool}
attribute [local irreducible] stA stA5 stB stB9 stB10 stC stD stD14 stE St.put
theorem w_K2 (hd:DelayOK p l) {t:Nat} (ht:t < p.2.length) (hss:∀s∈ss,0≤s∧s < (l.length:Int)) (hlen:ss.length < 1000000000000) (hlim:(out.length+ss.length*l.length+1)*24≤limit) (ho:OkS p l h.cont)
  (hr:RelH 98 Mod F0 w0 h (stB p l out (t:Int) h.m ss 0) a w)
  (hQ:∀h' k b a' w',RelH 98 Mod F0 w0 h' ((stB p l (out++ss.flatMap (outS p l (t:Int))) (t:Int) h'.m ss k).put (some 32) (.d .bool b)) a' w'→Q .normal a' w'):dpK2.wp dProg Q a w:=by
 rw[ZOB]
 refine forLoop (fun k a w=>∃h:HS,OkS p l h.cont∧RelH 98 Mod F0 w0 h (stB p l (out++(ss.take k).flatMap (outS p l (t:Int))) (t:Int) h.m ss (k:Int)) a w)
  (fun k a w=>∃h:HS,OkS p l h.cont∧RelH 98 Mod F0 w0 h ((stB p l (out++(ss.take k).flatMap (outS p l (t:Int))) (t:Int) h.m ss (k:Int)).put (some 32) (.d .bool (decide ((k:Int) < Int.ofNat (List.length ss))))) a w)
  (fun k a w=>∃(h:HS) (s:Int) (fr:SetD) (ls:List Int) (j:Int) (b:Bool),OkS p l h.cont∧RelH 98 Mod F0 w0 h ((stD p l (out++(ss.take (k+1)).flatMap (outS p l (t:Int))) (t:Int) h.m ss (k:Int) s fr ls j).put (some 68) (.d .bool b)) a w)
  ss.length (toGo 31 ss.length) ?_ ?_ ?_ ?_ ?_ ⟨h,ho,by simpa using hr⟩ ?_
 ·intro k a w hk ⟨h,ho,hr⟩
  exact pieceH dcl.1 dcl.2 (fun s=>s) (fun h=>h) (ZPt _ _ _ _ _ _ _) hr fun a' w' hr'=>⟨rfl,h,ho,hr'⟩
 ·intro k a w hk ⟨h,ho,hr⟩
  rw[hr.evb (x:=.tmp 32) (b:=decide ((k:Int) < Int.ofNat (List.length ss))) (by kernel_rfl),ZF0]
 ·intro k a w hk ⟨h,ho,hr⟩
  obtain ⟨g1,g2⟩:=ZEJ hk
  rw[ZHd hk g1,←List.append_assoc]
  refine w_B3 hd ht hk hss ?_ ho hr
  have h1:=Zpr (ZKl p l (t:Int)) (ss.take k)
  rw[List.length_append]
  rw[List.length_take] at h1
  exact limA hk hlim h1
 ·intro k a w hk ⟨h,s,fr,ls,j,b,ho,hr⟩
  have e:=ZPF p l (out++(ss.take (k+1)).flatMap (outS p l (t:Int))) (t:Int) h.m ss (k:Int) s fr j ls b
  rw[Zr (Nat.lt_trans (Nat.lt_trans hk hlen) (by decide))] at e
  exact pieceH dcl.1 dcl.2 (norm dProg labB) (fun h=>Z1 h) e hr fun a' w' hr'=>⟨rfl,h,ho,hr'⟩
 ·intro k a w hk ⟨h,ho,hr⟩
  unfold toGo
  rw[hr.ev (x:=.tmp 31) (k:=.i64) (n:=(k:Int)) (by kernel_rfl)]
  rfl
 ·intro a w ⟨h,ho,hr⟩
  rw[List.take_length] at hr
  exact hQ h _ _ a w hr
def outN (p:El Zc) (l:List (El Zb)) (n:Nat):List (El Zd):=(List.range n).flatMap fun t:Nat=>outT p l (t:Int)
theorem ZNp (p:El Zc) (l:List (El Zb)) (n:Nat):(outN p l n).length≤n*(l.length*l.length):=by
 have:=Zpr (fun t:Nat=>ZM8 p l (t:Int)) (List.range n)
 rw[List.length_range] at this
 unfold outN
 exact this
theorem ZMN (p:El Zc) (l:List (El Zb)) (n:Nat):outN p l (n+1)=outN p l n++outT p l (n:Int):=by
 unfold outN
 rw[List.range_succ,List.flatMap_append]
 simp
theorem limC {c n N L:Nat} (hc:c < n) (h:(n*(N*N)+1)*24≤L) {o s:Nat} (ho:o≤c*(N*N)) (hs:s≤N):(o+s*N+1)*24≤L:=by
 refine Nat.le_trans (Nat.mul_le_mul_right _ (Nat.add_le_add_right ?_ _)) h
 have h1:(c+1)*(N*N)≤n*(N*N):=Nat.mul_le_mul_right _ hc
 rw[Nat.succ_mul] at h1
 exact Nat.le_trans (Nat.add_le_add ho (Nat.mul_le_mul_right _ hs)) h1
theorem ZON (p:El Zc) (l:List (El Zb)) (m:Nat):OkS p l (⟨m,[]⟩:HS).cont:=fun r d hrd=>by cases hrd
theorem w_B1 (hd:DelayOK p l) {t:Nat} (ht:t < p.2.length) (hr:Rel Mod F0 w0 ((stA p l (outN p l t) (t:Int)).put (some 23) (.d .bool b)) a w):
  (lpB dpK0).wp dProg (fun e a' w'=>(e=.normal∨e=.exit 1)∧∃(m:Nat) (ss:List Int) (k:Int) (b:Bool),Rel Mod F0 w0 ((stB p l (outN p l (t+1)) (t:Int) m ss k).put (some 32) (.d .bool b)) a' w') a w:=by
 rw[ZOC]
 refine wp_seq (piece dcl.1 dcl.2 (norm dProg labA5) (fun h=>Z1 h) (dp_4 p l (outN p l t) (t:Int) b) hr fun a w hr=>?_)
 have hkp:Zdx l (t:Int) true=true:=decide_eq_true hd.len
 refine wp_seq (w_5 hkp hr fun m a w hr=>?_)
 refine wp_seq (pieceH dcl.1 dcl.2 (norm dProg labB) (fun h=>Z1 h) dp_6 hr fun a w hr=>?_)
 have hl2:(ZQ l (t:Int) true).length≤l.length:=Zkw
 refine w_K2 (h:=⟨m,[]⟩) hd ht (fun s hs=>ZKH hs) (lim2 hl2 hd.len) (limC ht hd.all (ZNp p l t) hl2) (ZON p l m) hr fun h' k b a w hr=>⟨.inl rfl,h'.m,ZQ l (t:Int) true,k,b,?_⟩
 rw[ZMN]
 exact hr.out
theorem w_K0 (hd:DelayOK p l) (hr:Rel Mod F0 w0 (stA p l [] 0) a w)
  (hQ:∀t b a' w',Rel Mod F0 w0 ((stA p l (outN p l p.2.length) t).put (some 23) (.d .bool b)) a' w'→Q .normal a' w'):dpK0.wp dProg Q a w:=by
 rw[ZOi]
 refine forLoop (fun t a w=>Rel Mod F0 w0 (stA p l (outN p l t) (t:Int)) a w)
  (fun t a w=>Rel Mod F0 w0 ((stA p l (outN p l t) (t:Int)).put (some 23) (.d .bool (decide ((t:Int) < Int.ofNat (List.length p.2))))) a w)
  (fun t a w=>∃(m:Nat) (ss:List Int) (k:Int) (b:Bool),Rel Mod F0 w0 ((stB p l (outN p l (t+1)) (t:Int) m ss k).put (some 32) (.d .bool b)) a w)
  p.2.length (toGo 22 p.2.length) ?_ ?_ ?_ ?_ ?_ hr ?_
 ·intro t a w ht hr
  exact piece dcl.1 dcl.2 (fun s=>s) (fun h=>h) (ZPr _ _ _ _) hr fun a' w' hr'=>⟨rfl,hr'⟩
 ·intro t a w ht hr
  rw[hr.evb (x:=.tmp 23) (b:=decide ((t:Int) < Int.ofNat (List.length p.2))) (by kernel_rfl),ZF0]
 ·intro t a w ht hr
  exact w_B1 hd ht hr
 ·intro t a w ht ⟨m,ss,k,b,hr⟩
  have e:=ZPA p l (outN p l (t+1)) (t:Int) m ss k b
  rw[Zr (Nat.lt_trans (Nat.lt_trans ht hd.thr) (by decide))] at e
  exact piece dcl.1 dcl.2 (norm dProg labA) (fun h=>Z1 h) e hr fun a' w' hr'=>⟨rfl,hr'⟩
 ·intro t a w ht hr
  unfold toGo
  rw[hr.ev (x:=.tmp 22) (k:=.i64) (n:=(t:Int)) (by kernel_rfl)]
  rfl
 ·intro a w hr
  exact hQ _ _ a w hr
end
end
end Go.Ev
end

section
open Go Go.Ev
namespace Go.Ev
def Zm7:Sig:=[(true,Zc)]
noncomputable def Zl (p:El Zc):List (El Zd):=outN p (ofC p) p.2.length
def Z2 (p:El Zc):Bool:=smallAll p&&(decide ((ofC p).length < 1000000000)&&(decide (p.2.length < 1000000000)&&decide ((p.2.length*((ofC p).length*(ofC p).length)+1)*24≤limit)))
def ZuV:List (El Zd)→AV:=fun (r:List (El Zd))=>.rw 35 Zd r
theorem ZID {x:List (El Za)} :∀ {l:List (List (El Za))},x∈l→x.length≤total l
 | y :: l,h=>by
  unfold total at*
  rw[List.map_cons,List.sum_cons]
  rcases List.mem_cons.1 h with rfl | h
  ·exact Nat.le_add_right _ _
  ·exact Nat.le_trans (by have:=ZID h;unfold total at this;exact this) (Nat.le_add_left _ _)
theorem ZI6 (p:El Zc) (a:Int):(ZbF p a).length≤(ofC p).length:=by
 unfold ZbF
 split
 ·exact Zkw
 ·exact Nat.zero_le _
theorem delayOK {p:El Zc} (hk:Z2 p=true):smallAll p=true∧DelayOK p (ofC p):=by
 unfold Z2 at hk
 simp only[Bool.and_eq_true] at hk
 obtain ⟨h1,h2,h3,h4⟩:=hk
 have h2:=of_decide_eq_true h2
 have hA:=smallA h1
 refine ⟨h1,h2,of_decide_eq_true h3,of_decide_eq_true h4,fun r=>⟨h1,Nat.lt_of_le_of_lt (ZI6 p r) (Nat.lt_trans h2 (by decide))⟩,fun t i ht=>?_⟩
 have hm:insP p (t:Int)∈p.2:=by
  unfold insP
  rw[Int.toNat_natCast,List.getD_eq_getElem?_getD,List.getElem?_eq_getElem ht]
  exact List.getElem_mem ht
 have hf:=Zsz (hA.thr _ hm)
 have h1:(Zbu (insP p (t:Int)) i).length≤(insP p (t:Int)).length:=Zkw
 have h2:(insP p (t:Int)).length < 1073741824:=by
  exact Nat.lt_of_le_of_lt (ZID hm) hA.tot
 exact ⟨hf,Nat.lt_of_le_of_lt h1 (Nat.lt_trans h2 (by decide))⟩
noncomputable section
theorem dp_E (p:El Zc) (l:List (El Zb)) (out:List (El Zd)) (t:Int) (b:Bool):dEvI dpE ((stA p l out t).put (some 23) (.d .bool b)) ((((stA p l out t).put (some 23) (.d .bool b)).put (some 125) (.own 5 0 none)).put (some 2) (.own 5 0 none)):=fun L k x r=>by kernel_rfl
theorem Zvu (p:El Zc) (hk:Z2 p=true):CallOK dProg 16 (toForms Zm7 (p,())) (ZuV (Zl p),tps (toForms Zm7 (p,()))):=by
 obtain ⟨hs,hd⟩:=delayOK hk
 refine ZmP (tb:=[]) (fn:=Go.Proofs.Tryz.f16) (c:=dpB) (vs:=[.ag [.d (.sl Zx) p.1,.d (.sl (.sl Za)) p.2]]) (st:=⟨[],[]⟩) (by kernel_rfl) (by kernel_rfl) (by kernel_rfl) ?_
 intro _ Mod F0 w0 a w hr
 have hr:Rel Mod F0 w0 (dS0 p) a w:=hr
 rw[ZPa]
 refine wp_seq (piece dcl.1 dcl.2 (norm dProg ⟨[1],[]⟩) (fun h=>Z1 h) (dp_0 p) hr fun a w hr=>?_)
 refine wp_seq (piece dcl.1 dcl.2 (norm dProg ⟨[1,3],[]⟩) (fun h=>Z1 h) ((dp_1 p).ok hs) hr fun a w hr=>?_)
 refine wp_seq (piece dcl.1 dcl.2 (norm dProg ⟨[1,3,4],[(5,56)]⟩) (fun h=>Z1 h) (dp_2 p (ZC p)) hr fun a w hr=>?_)
 refine wp_seq (wp_seq (piece dcl.1 dcl.2 (norm dProg labA) (fun h=>Z1 h) (dp_3 p (ZC p)) hr fun a w hr=>?_))
 refine w_K0 (l:=ofC p) hd hr fun t b a w hr=>?_
 refine wp_seq (piece dcl.1 dcl.2 (fun s=>s) (fun h=>h) (dp_E p (ofC p) (outN p (ofC p) p.2.length) t b) hr fun a w hr=>?_)
 exact wp_ret ⟨.inr rfl,_,hr,by kernel_rfl⟩
noncomputable def Zhn:Run:=entG Zm7 ZuV (fun a=>Z2 a.1) (fun a=>Zl a.1)
theorem ZiF:EntOK dProg 16 Zhn:=Zzf (ZiX (fn:=Go.Proofs.Tryz.f16) (c:=dpB) (by kernel_rfl) (by kernel_rfl) (by kernel_rfl)) fun a h=>Zvu a.1 h
end
end Go.Ev
end

section
open Go Go.Ev
namespace Go.Ev
noncomputable section
def ZgW:Sig:=[(true,(.sl Za)),(false,(.sl (.int .i64))),(false,(.int .i64))]
noncomputable def Zuf:Tbl:=[(37,Zkt),(39,ZcN),(61,Zuq),(40,Zf0),(89,ZyL),(62,Zh3)]
theorem ZF2:∀p∈Zuf,EntOK Go.Proofs.Tryz.prog p.1 p.2:=Zg Zln (Zg Zb6 (Zg ZwU (Zg ZeH (Zg ZH2 (Zg ZjC (Zu))))))
noncomputable def Zqc:Code:=Go.Proofs.Tryz.f68.body.getD .skip
def Zqv:Tb:=[(4,⟨[2,3,7,8,23,24,25],[]⟩),(11,⟨[3,7,8,11],[(1000000000000000000000000000000000000000000000000000000000012,1)]⟩),(17,⟨[3,7,8,11,51,52,53],[(1000000000000000000000000000000000000000000000000000000000012,1)]⟩)]
inductive Zlc where | l4 (h:Int) (closed:Int) (closed1:List (Int×Int)) | l11 (closed:Int) (closed1:List (Int×Int)) (len:Nat) (seen:Int) (open_:List Int) (seen1:List (Int×Int)) | l17 (closed:Int) (closed1:List (Int×Int)) (len:Nat) (h:Int) (seen:Int) (open_:List Int) (seen1:List (Int×Int)) (h1:Int) (h2:List Int)
def ZbW (t:List (El Za)) (points:List Int) (s:Int):Zlc→JT Zlc (List Int) |.l4 h closed closed1=>.br (decide (h < (Int.ofNat (List.length points)))) (.br ((decide ((0:Int)≤h))&&(decide (h < (Int.ofNat (List.length points))))) (.jmp (.l4 (IntKind.i64.wrap (h+(1:Int))) (Zp (closed,closed1) (List.getD points (Int.toNat h) (dflt (.int .i64)))).2.1 (Zp (closed,closed1) (List.getD points (Int.toNat h) (dflt (.int .i64)))).2.2)) (.no)) (.jmp (.l11 closed closed1 1 (Zy (Int.ofNat (List.length t))).1 [s] (Zy (Int.ofNat (List.length t))).2)) |.l11 closed closed1 len seen open_ seen1=>.br (decide ((Int.ofNat len) > (0:Int))) (.br ((decide ((0:Int)≤(IntKind.i64.wrap ((Int.ofNat len) - (1:Int)))))&&(decide ((IntKind.i64.wrap ((Int.ofNat len) - (1:Int))) < (Int.ofNat len)))) (.br ((decide ((0:Int)≤(IntKind.i64.wrap ((Int.ofNat len) - (1:Int)))))&&(decide ((IntKind.i64.wrap ((Int.ofNat len) - (1:Int)))≤(Int.ofNat len)))) (.br (ZeJ t (List.getD open_ (Int.toNat (IntKind.i64.wrap ((Int.ofNat len) - (1:Int)))) (dflt (.int .i64)))) (.jmp (.l17 closed closed1 (Int.toNat (IntKind.i64.wrap ((Int.ofNat len) - (1:Int)))) (0:Int) seen open_ seen1 (Int.ofNat (List.length (Z8 t (List.getD open_ (Int.toNat (IntKind.i64.wrap ((Int.ofNat len) - (1:Int)))) (dflt (.int .i64)))))) (Z8 t (List.getD open_ (Int.toNat (IntKind.i64.wrap ((Int.ofNat len) - (1:Int)))) (dflt (.int .i64)))))) (.no)) (.no)) (.no)) (.br (Zbg (seen,seen1)) (.leaf (ZbM (seen,seen1)).1) (.no)) |.l17 closed closed1 len h seen open_ seen1 h1 h2=>.br (decide (h < h1)) (.br ((decide ((0:Int)≤h))&&(decide (h < (Int.ofNat (List.length h2))))) (.br (! (Zo (closed,closed1) (List.getD h2 (Int.toNat h) (dflt (.int .i64)))).1) (.br (Zp (seen,seen1) (List.getD h2 (Int.toNat h) (dflt (.int .i64)))).1 (.br ((decide ((0:Int)≤(List.getD h2 (Int.toNat h) (dflt (.int .i64)))))&&(decide ((List.getD h2 (Int.toNat h) (dflt (.int .i64))) < (Int.ofNat (List.length t))))) (.br (ZeA (List.getD t (Int.toNat (List.getD h2 (Int.toNat h) (dflt (.int .i64)))) (dflt Za))) (.br (! (ZgH (List.getD t (Int.toNat (List.getD h2 (Int.toNat h) (dflt (.int .i64)))) (dflt Za)))) (.br (Nat.ble (((List.length (List.take len open_))+1)*8) limit) (.jmp (.l17 (Zo (closed,closed1) (List.getD h2 (Int.toNat h) (dflt (.int .i64)))).2.1 (Zo (closed,closed1) (List.getD h2 (Int.toNat h) (dflt (.int .i64)))).2.2 (List.length ((List.take len open_)++[(List.getD h2 (Int.toNat h) (dflt (.int .i64)))])) (IntKind.i64.wrap (h+(1:Int))) (Zp (seen,seen1) (List.getD h2 (Int.toNat h) (dflt (.int .i64)))).2.1 ((List.take len open_)++[(List.getD h2 (Int.toNat h) (dflt (.int .i64)))]) (Zp (seen,seen1) (List.getD h2 (Int.toNat h) (dflt (.int .i64)))).2.2 h1 h2)) (.no)) (.jmp (.l17 (Zo (closed,closed1) (List.getD h2 (Int.toNat h) (dflt (.int .i64)))).2.1 (Zo (closed,closed1) (List.getD h2 (Int.toNat h) (dflt (.int .i64)))).2.2 len (IntKind.i64.wrap (h+(1:Int))) (Zp (seen,seen1) (List.getD h2 (Int.toNat h) (dflt (.int .i64)))).2.1 open_ (Zp (seen,seen1) (List.getD h2 (Int.toNat h) (dflt (.int .i64)))).2.2 h1 h2))) (.no)) (.no)) (.jmp (.l17 (Zo (closed,closed1) (List.getD h2 (Int.toNat h) (dflt (.int .i64)))).2.1 (Zo (closed,closed1) (List.getD h2 (Int.toNat h) (dflt (.int .i64)))).2.2 len (IntKind.i64.wrap (h+(1:Int))) (Zp (seen,seen1) (List.getD h2 (Int.toNat h) (dflt (.int .i64)))).2.1 open_ (Zp (seen,seen1) (List.getD h2 (Int.toNat h) (dflt (.int .i64)))).2.2 h1 h2))) (.jmp (.l17 (Zo (closed,closed1) (List.getD h2 (Int.toNat h) (dflt (.int .i64)))).2.1 (Zo (closed,closed1) (List.getD h2 (Int.toNat h) (dflt (.int .i64)))).2.2 len (IntKind.i64.wrap (h+(1:Int))) seen open_ seen1 h1 h2))) (.no)) (.jmp (.l11 closed closed1 len seen open_ seen1))
def Zsj (t:List (El Za)) (points:List Int) (s:Int):JT Zlc (List Int):=.jmp (.l4 (0:Int) (Zy (Int.ofNat (List.length t))).1 (Zy (Int.ofNat (List.length t))).2)
def Zoh:List Int→AV:=fun (r:List Int)=>.rw 3 (.int .i64) r
def Zgw (t:List (El Za)) (points:List Int) (s:Int):Zlc→Nat×St |.l4 h closed closed1=>(4,⟨mkTm 82 [(2,.d (.int .i64) s),(3,.pt 4 0 0),(7,.pt 8 0 0),(8,.pt 9 0 0),(23,.d (.sl (.int .i64)) points),(24,.d (.int .i64) (Int.ofNat (List.length points))),(25,.d (.int .i64) h)],[(4,0,.box 33 [.d (.sl Za) t] none),(8,0,.box 98 [.d (.int .i64) closed,.mp 8194 0] none),(9,0,.box 98 [.d (.int .i64) (Zy (Int.ofNat (List.length t))).1,.mp 9218 0] none),(8194,0,.map (.int .i64) (.int .u64) closed1),(9218,0,.map (.int .i64) (.int .u64) (Zy (Int.ofNat (List.length t))).2)]⟩) |.l11 closed closed1 len seen open_ seen1=>(11,⟨mkTm 82 [(3,.pt 4 0 0),(7,.pt 8 0 0),(8,.pt 9 0 0),(11,.own 12 0 (some len))],[(4,0,.box 33 [.d (.sl Za) t] none),(8,0,.box 98 [.d (.int .i64) closed,.mp 8194 0] none),(9,0,.box 98 [.d (.int .i64) seen,.mp 9218 0] none),(12,0,.row 3 (.int .i64) open_ false),(8194,0,.map (.int .i64) (.int .u64) closed1),(9218,0,.map (.int .i64) (.int .u64) seen1)]⟩) |.l17 closed closed1 len h seen open_ seen1 h1 h2=>(17,⟨mkTm 82 [(3,.pt 4 0 0),(7,.pt 8 0 0),(8,.pt 9 0 0),(11,.own 12 0 (some len)),(51,.own 52 0 none),(52,.d (.int .i64) h1),(53,.d (.int .i64) h)],[(4,0,.box 33 [.d (.sl Za) t] none),(8,0,.box 98 [.d (.int .i64) closed,.mp 8194 0] none),(9,0,.box 98 [.d (.int .i64) seen,.mp 9218 0] none),(12,0,.row 3 (.int .i64) open_ false),(52,0,.row 3 (.int .i64) h2 false),(8194,0,.map (.int .i64) (.int .u64) closed1),(9218,0,.map (.int .i64) (.int .u64) seen1)]⟩)
theorem ZGs (t:List (El Za)) (points:List Int) (s:Int) (L:Lt):entryA Go.Proofs.Tryz.prog (clOf Zuf) Zqv Go.Proofs.Tryz.f68 Zqc L (toForms ZgW (t,points,s,()))=(Zsj t points s).run (fun v=>some (Zoh v,tps (toForms ZgW (t,points,s,())))) fun j=>L (Zgw t points s j).1 (Zgw t points s j).2:=by kernel_rfl
theorem ZFZ (t:List (El Za)) (points:List Int) (s:Int):∀(L:Lt) (j:Zlc),procOf (procsF Go.Proofs.Tryz.prog (clOf Zuf) Zqv Go.Proofs.Tryz.f68 Zqc (toForms ZgW (t,points,s,()))) (Zgw t points s j).1 L (Zgw t points s j).2=(ZbW t points s j).run (fun v=>some (Zoh v,tps (toForms ZgW (t,points,s,())))) fun j=>L (Zgw t points s j).1 (Zgw t points s j).2 | L,.l4 h closed closed1=>by kernel_rfl | L,.l11 closed closed1 len seen open_ seen1=>by kernel_rfl | L,.l17 closed closed1 len h seen open_ seen1 h1 h2=>by kernel_rfl
end
end Go.Ev
end

section
open Go
namespace Go.Ev
noncomputable def ZN (t:List (El Za)) (points:List Int) (s:Int):List Int:=listOf t.length (endsB t points s)
def ZbS (t:List (El Za)) (points:List Int) (s:Int):Bool:=flowOK t&&decide (points.length < 4611686018427387904)
def goB (t:List (El Za)) (points:List Int) (x:Int) (j:Nat):Bool:=nextB t x j&& !points.contains (j:Int)
def nodeP (t:List (El Za)) (s:Int) (M:Nat→Bool) (x:Int):Prop:=x=s∨∃j:Nat,x=(j:Int)∧M j=true∧fenceAtT t j=false
theorem ZLg {l:List Int} {n:Nat} (h:n+1≤l.length):l.take (n+1)=l.take n++[l.getD n 0]:=by
 have hn:n < l.length:=by omega
 rw[List.take_succ_eq_append_getElem hn,ZH hn]
theorem ZJs (t:List (El Za)) (points:List Int) (s:Int) (hk:ZbS t points s=true):Goes (ZbW t points s) (Zsj t points s) (ZN t points s):=by
 unfold ZbS at hk
 rw[Bool.and_eq_true] at hk
 obtain ⟨hf,hpl⟩:=hk
 have hpl:=of_decide_eq_true hpl
 have hlen:=Zby hf
 generalize hn:t.length=n at hlen
 have kfe:∀k,k < n→ZeA (List.getD t k (dflt Za))=true:=fun k hk=>by
  have hmem:t.getD k (dflt Za)∈t:=by rw[ZH (by omega)];exact List.getElem_mem (by omega)
  exact ZOJ (ZoB hf hmem)
 have main:∀(C:Nat→Bool) (cl:Int×List (Int×Int)),SetOK cl n C→(∀j,j < n→C j=points.contains (j:Int))→∀m,∀(M:Nat→Bool) (se:Int×List (Int×Int)) (open_:List Int) (len:Nat),len≤open_.length→2*(n - card n M)+len=m→SetOK se n M→
   (∀j,M j=true→Come (stepB t points) (firstB t points s) j)→(∀x∈open_.take len,nodeP t s M x)→(∀x,nodeP t s M x→x∈open_.take len∨∀j,goB t points x j=true→M j=true)→len≤card n M+1→
   Goes (ZbW t points s) (.jmp (.l11 cl.1 cl.2 len se.1 open_ se.2)) (ZN t points s):=by
  intro C cl hcl hC m
  induction m using Nat.strongRecOn with
  | _ m ih=>
  intro M se open_ len hl hm hs h1 h2 h3 h5
  cases len with
  | zero=>
   rw[Zi,ZbW,Ze,if_neg (by decide)]
   have hkl:Zbg (se.1,se.2)=true:=Nat.ble_eq_true_of_le (by have:=hs.few;unfold limit;show se.2.length*512≤_;omega)
   rw[Ze,if_pos hkl]
   have hv:(ZbM (se.1,se.2)).1=ZN t points s:=by
    show listS se=_
    rw[hs.list (by omega)]
    unfold ZN endsB
    rw[hn]
    refine ZqN fun j _=>Zpy (fun j hj=>?_) (fun k j hk hj=>?_) h1 j
    ·rcases h3 s (.inl rfl) with h | h
     ·simp at h
     ·exact h j hj
    ·unfold stepB at hj
     rw[Bool.and_eq_true] at hj
     rcases h3 (k:Int) (.inr ⟨k,rfl,hk,by simpa using hj.1⟩) with h | h
     ·simp at h
     ·exact h j hj.2
   rw[hv];exact .leaf
  | succ len=>
   have hc:= @Zes n M
   have e:IntKind.i64.wrap (Int.ofNat (len+1) - 1)=(len:Int):=by
    rw[wrap_i64 (by simp <;> omega) (by simp <;> omega)];simp
   have g1:decide (Int.ofNat (len+1) > (0:Int))=true:=decide_eq_true (by simp <;> omega)
   have g2:(decide ((0:Int)≤(len:Int))&&decide ((len:Int) < Int.ofNat (len+1)))=true:=Zaq (by omega)
   have g3:(decide ((0:Int)≤(len:Int))&&decide ((len:Int)≤Int.ofNat (len+1)))=true:=by simp;omega
   rw[Zi,ZbW,e,Ze,if_pos g1,Ze,if_pos g2,Ze,if_pos g3,Int.toNat_natCast]
   have htk:=ZLg hl
   generalize hx0:open_.getD len 0=x0 at htk
   have hd:open_.getD len (dflt (.int .i64))=x0:=hx0
   rw[hd]
   have kn:ZeJ t x0=true:=hf
   rw[Ze,if_pos kn]
   have hnode:=h2 x0 (by rw[htk];simp)
   generalize hr:Z8 t x0=r
   have hrm:∀y∈r,∃j:Nat,j < n∧nextB t x0 j=true∧y=(j:Int):=fun y hy=>by
    rw[←hr] at hy
    unfold Z8 at hy
    rw[hn] at hy
    exact Zcm.1 hy
   have hrl:r.length≤n:=by rw[←hr];unfold Z8;rw[Zhr,hn];exact Zes
   have hin:∀j:Nat,nextB t x0 j=true→(j:Int)∈r:=fun j hj=>by rw[←hr];exact Zcm.2 ⟨j,Zem hj,hj,rfl⟩
   have inner:∀h,h≤r.length→∀(M1:Nat→Bool) (se1:Int×List (Int×Int)) (op1:List Int) (len1:Nat),len1≤op1.length→2*(n - card n M1)+len1 < m→SetOK se1 n M1→nodeP t s M1 x0→
     (∀j,M1 j=true→Come (stepB t points) (firstB t points s) j)→(∀x∈op1.take len1,nodeP t s M1 x)→(∀x,nodeP t s M1 x→x∈op1.take len1∨∀j,goB t points x j=true→M1 j=true∨(x=x0∧(j:Int)∈r.drop h))→len1≤card n M1+1→
     Goes (ZbW t points s) (.jmp (.l17 cl.1 cl.2 len1 (h:Int) se1.1 op1 se1.2 (Int.ofNat r.length) r)) (ZN t points s):=by
    refine down ?_ fun h hh ih2=>?_
    ·intro M1 se1 op1 len1 i1 i2 i3 i4 i5 i6 i7 i8
     rw[Zi,ZbW,Ze,if_neg (by rw[Zw (Nat.lt_irrefl _)];decide)]
     refine ih _ i2 M1 se1 op1 len1 i1 rfl i3 i5 i6 (fun x hx=>(i7 x hx).imp id fun h j hj=>(h j hj).resolve_right (by simp)) i8
    ·intro M1 se1 op1 len1 i1 i2 i3 i4 i5 i6 i7 i8
     obtain ⟨y,hy,hyN,hxy⟩:=hrm r[h] (List.getElem_mem hh)
     have hdy:List.getD r h (dflt (.int .i64))=(y:Int):=by rw[←hxy];exact ZH hh
     have hhas:(Zo (cl.1,cl.2) (y:Int)).1=points.contains (y:Int):=by
      show hasS cl (y:Int)=_
      rw[hcl.has (by omega),Int.toNat_natCast,decide_eq_true (by omega),Bool.true_and,hC y hy]
     have hhas2:(Zo (cl.1,cl.2) (y:Int)).2=cl:=rfl
     have hput:Zp (se1.1,se1.2) (y:Int)=putS se1 (y:Int):=rfl
     have hdr:∀z,z∈r.drop h↔z=(y:Int)∨z∈r.drop (h+1):=fun z=>by rw[ZO hh,List.mem_cons,hxy]
     rw[Zi,ZbW,Ze,if_pos (ZR hh),Ze,if_pos (Zaq hh),Ze,Int.toNat_natCast,hdy,hhas,hhas2,hput,Zr (by omega)]
     have skip:(goB t points x0 y=true→M1 y=true)→Goes (ZbW t points s) (.jmp (.l17 cl.1 cl.2 len1 ((h+1:Nat):Int) se1.1 op1 se1.2 (Int.ofNat r.length) r)) (ZN t points s):=fun hsk=>
      ih2 M1 se1 op1 len1 i1 i2 i3 i4 i5 i6 (fun x hx=>(i7 x hx).imp id fun hg j hj=>by
       rcases hg j hj with h | ⟨hx0,h⟩
       ·exact .inl h
       ·rcases (hdr _).1 h with h | h
        ·have:j=y:=by omega
         subst this
         rw[hx0] at hj
         exact .inl (hsk hj)
        ·exact .inr ⟨hx0,h⟩) i8
     cases hpt:points.contains (y:Int) with
     | true=>
      rw[if_neg (by decide)]
      exact skip fun h=>by unfold goB at h;rw[hpt,Bool.not_true,Bool.and_false] at h;cases h
     | false=>
      rw[if_pos (by decide),Ze]
      cases hMy:M1 y with
      | true=>
       have hno:=i3.put_no (by omega) (i:=(y:Int)) (fun h=>by rw[Int.toNat_natCast,hMy] at h;cases h.2.2)
       rw[hno,if_neg (by simp)]
       exact skip fun _=>hMy
      | false=>
       obtain ⟨p1,p2⟩:=i3.put (by omega) hy hMy
       have hgo:goB t points x0 y=true:=by unfold goB;rw[hyN,hpt];rfl
       have hcome:Come (stepB t points) (firstB t points s) y:=by
        rcases i4 with h | ⟨k,hk,hMk,hfk⟩
        ·subst h;exact .start hgo
        ·subst hk;exact .step (i5 k hMk) (by unfold stepB;rw[hfk];exact hgo)
       have hcard:=Zmm hMy hy
       have hcl2:= @Zes n (fun k=>M1 k || (k==y))
       have mono:∀x,nodeP t s M1 x→nodeP t s (fun k=>M1 k || (k==y)) x:=fun x hx=>hx.imp id fun ⟨k,h1,h2,h3⟩=>⟨k,h1,by show (M1 k || (k==y))=true;rw[h2];rfl,h3⟩
       have hcc:∀k,(M1 k || (k==y))=true→Come (stepB t points) (firstB t points s) k:=fun k hk=>by
        simp only[Bool.or_eq_true,beq_iff_eq] at hk
        rcases hk with hk | hk
        ·exact i5 k hk
        ·subst hk;exact hcome
       have keep:∀(o:List Int),(∀x∈op1.take len1,x∈o)→(fenceAtT t y=false→(y:Int)∈o)→∀x,nodeP t s (fun k=>M1 k || (k==y)) x→x∈o∨∀j,goB t points x j=true→(M1 j || (j==y))=true∨(x=x0∧(j:Int)∈r.drop (h+1)):=fun o ho hyo x hx=>by
        have old:nodeP t s M1 x→x∈o∨∀j,goB t points x j=true→(M1 j || (j==y))=true∨(x=x0∧(j:Int)∈r.drop (h+1)):=fun hx=>by
         rcases i7 x hx with h | h
         ·exact .inl (ho x h)
         ·refine .inr fun j hj=>?_
          rcases h j hj with h | ⟨hx0,h⟩
          ·exact .inl (by rw[h];rfl)
          ·rcases (hdr _).1 h with h | h
           ·have:j=y:=by omega
            subst this;exact .inl (by simp)
           ·exact .inr ⟨hx0,h⟩
        rcases hx with hx | ⟨k,hk,hMk,hfk⟩
        ·exact old (.inl hx)
        ·have hMk:(M1 k || (k==y))=true:=hMk
         simp only[Bool.or_eq_true,beq_iff_eq] at hMk
         rcases hMk with hMk | hMk
         ·exact old (.inr ⟨k,hk,hMk,hfk⟩)
         ·subst hMk;subst hk;exact .inl (hyo hfk)
       have vf:ZgH (List.getD t y (dflt Za))=fenceAtT t y:=rfl
       rw[p1,if_pos rfl,Ze,hn,if_pos (Zaq hy),Ze,Int.toNat_natCast,if_pos (kfe y hy),Ze,vf]
       cases hfy:fenceAtT t y with
       | true=>
        rw[if_neg (by decide)]
        exact ih2 _ _ op1 len1 i1 (by omega) p2 (mono x0 i4) hcc (fun x hx=>mono x (i6 x hx)) (keep _ (fun x hx=>hx) (fun h=>by rw[hfy] at h;cases h)) (by omega)
       | false=>
        have htl:(op1.take len1).length=len1:=by rw[List.length_take];omega
        rw[if_pos (by decide),Ze,if_pos (Nat.ble_eq_true_of_le (by rw[htl];unfold limit;omega))]
        have htake:(op1.take len1++[(y:Int)]).take (op1.take len1++[(y:Int)]).length=op1.take len1++[(y:Int)]:=List.take_length
        have hl2:(op1.take len1++[(y:Int)]).length=len1+1:=by rw[List.length_append,htl];rfl
        refine ih2 _ _ (op1.take len1++[(y:Int)]) _ (Nat.le_refl _) (by omega) p2 (mono x0 i4) hcc (fun x hx=>?_) ?_ (by omega)
        ·rw[htake,List.mem_append] at hx
         rcases hx with hx | hx
         ·exact mono x (i6 x hx)
         ·simp only[List.mem_singleton] at hx
          exact .inr ⟨y,hx,by simp,hfy⟩
        ·rw[htake]
         exact keep _ (fun x hx=>List.mem_append_left _ hx) (fun _=>List.mem_append_right _ (by simp))
   refine inner 0 (Nat.zero_le _) M se open_ len (by omega) (by omega) hs hnode h1 (fun x hx=>h2 x (by rw[htk];simp[hx])) (fun x hx=>?_) (by omega)
   rcases h3 x hx with h | h
   ·rw[htk,List.mem_append] at h
    rcases h with h | h
    ·exact .inl h
    ·simp only[List.mem_singleton] at h
     refine .inr fun j hj=>.inr ⟨h,?_⟩
     subst h
     unfold goB at hj
     rw[Bool.and_eq_true] at hj
     rw[List.drop_zero]
     exact hin j hj.1
   ·exact .inr fun j hj=>.inl (h j hj)
 have hnew:Zy (Int.ofNat (List.length t))=((n:Int),[]):=by
  rw[hn]
  unfold Zy
  simp
  omega
 have first:∀h,h≤points.length→∀(C:Nat→Bool) (cl:Int×List (Int×Int)),SetOK cl n C→(∀j:Nat,j < n→((C j=true∨(j:Int)∈points.drop h)↔(j:Int)∈points))→Goes (ZbW t points s) (.jmp (.l4 (h:Int) cl.1 cl.2)) (ZN t points s):=by
  refine down ?_ fun h hh ih=>?_
  ·intro C cl hcl hC
   rw[Zi,ZbW,Ze,if_neg (by rw[Zw (Nat.lt_irrefl _)];decide),hnew]
   refine main C cl hcl (fun j hj=>?_) _ (fun _=>false) ((n:Int),[]) [s] 1 (by simp) rfl (SetOK.new n) (fun j h=>by cases h) (fun x hx=>.inl (by simpa using hx)) (fun x hx=>.inl ?_) (by omega)
   ·have:=hC j hj
    rw[List.drop_length] at this
    rw[Bool.eq_iff_iff,List.contains_iff_mem,←this]
    simp
   ·rcases hx with hx | ⟨j,_,h,_⟩
    ·simpa using hx
    ·cases h
  ·intro C cl hcl hC
   rw[Zi,ZbW,Ze,if_pos (ZR hh),Ze,if_pos (Zaq hh),Int.toNat_natCast,Zr (by omega)]
   have hd:points.getD h (dflt (.int .i64))=points[h]:=ZH hh
   rw[hd]
   have hput:Zp (cl.1,cl.2) points[h]=putS cl points[h]:=rfl
   rw[hput]
   have hdr:∀z,z∈points.drop h↔z=points[h]∨z∈points.drop (h+1):=fun z=>by rw[ZO hh,List.mem_cons]
   generalize points[h]=x at hdr
   by_cases hx:0≤x∧x < n∧C x.toNat=false
   ·obtain ⟨y,rfl⟩:=Int.eq_ofNat_of_zero_le hx.1
    rw[Int.toNat_natCast] at hx
    obtain ⟨_,p2⟩:=hcl.put (by omega) (show y < n by omega) hx.2.2
    refine ih _ _ p2 fun j hj=>?_
    rw[←hC j hj,hdr]
    simp only[Bool.or_eq_true,beq_iff_eq]
    constructor
    ·rintro ((h | h) | h)
     ·exact .inl h
     ·exact .inr (.inl (by omega))
     ·exact .inr (.inr h)
    ·rintro (h | h | h)
     ·exact .inl (.inl h)
     ·exact .inl (.inr (by omega))
     ·exact .inr h
   ·rw[hcl.put_no (by omega) hx]
    refine ih C cl hcl fun j hj=>?_
    rw[←hC j hj,hdr]
    constructor
    ·rintro (h | h)
     ·exact .inl h
     ·exact .inr (.inr h)
    ·rintro (h | h | h)
     ·exact .inl h
     ·left
      cases hCj:C j with
      | true=>rfl
      | false=>exact absurd ⟨by omega,by omega,by rw[←h,Int.toNat_natCast];exact hCj⟩ hx
     ·exact .inr h
 unfold Zsj
 rw[hnew]
 exact first 0 (Nat.zero_le _) (fun _=>false) ((n:Int),[]) (SetOK.new n) fun j _=>by simp
end Go.Ev
end

section
open Go Go.Ev
namespace Go.Ev
noncomputable section
noncomputable def Zuh:Run:=entG ZgW Zoh (fun a=>ZbS a.1 a.2.1 a.2.2.1) (fun a=>ZN a.1 a.2.1 a.2.2.1)
theorem ZxH:EntOK Go.Proofs.Tryz.prog 68 Zuh:=ZM (tb:=Zqv) (c:=Zqc) ZF2 (by kernel_rfl) (by kernel_rfl) (by kernel_rfl) (fun a=>by kernel_rfl) fun ⟨t,points,s,_⟩ hk=>Zm (c:=Zqc) (K:=fun v=>(Zoh v,tps (toForms ZgW (t,points,s,())))) (S:=Zgw t points s) (by kernel_rfl) (ZGs t points s) (ZFZ t points s) (ZJs t points s hk)
end
end Go.Ev
end

section
open Go Go.Ev
namespace Go.Ev
noncomputable section
def Zaz:Sig:=[(false,(.sl (.int .i64))),(false,(.int .i64))]
noncomputable def ZcY:Tbl:=[]
theorem ZlD:∀p∈ZcY,EntOK Go.Proofs.Tryz.prog p.1 p.2:=Zu
noncomputable def ZbA:Code:=Go.Proofs.Tryz.f88.body.getD .skip
def Zcj:Tb:=[(3,⟨[0,1,7,8],[]⟩)]
inductive Za2 where | l3 (h:Int)
def Za0 (s:List Int) (v_:Int):Za2→JT Za2 (Int) |.l3 h=>.br (decide (h < (Int.ofNat (List.length s)))) (.br ((decide ((0:Int)≤h))&&(decide (h < (Int.ofNat (List.length s))))) (.br (v_==(List.getD s (Int.toNat h) (dflt (.int .i64)))) (.leaf h) (.jmp (.l3 (IntKind.i64.wrap (h+(1:Int)))))) (.no)) (.leaf (-1:Int))
def ZfQ (s:List Int) (v_:Int):JT Za2 (Int):=.jmp (.l3 (0:Int))
def ZbD:Int→AV:=fun (r:Int)=>.d (.int .i64) r
def Zao (s:List Int) (v_:Int):Za2→Nat×St |.l3 h=>(3,⟨mkTm 19 [(0,.d (.sl (.int .i64)) s),(1,.d (.int .i64) v_),(7,.d (.int .i64) (Int.ofNat (List.length s))),(8,.d (.int .i64) h)],[]⟩)
theorem ZlC (s:List Int) (v_:Int) (L:Lt):entryA Go.Proofs.Tryz.prog (clOf ZcY) Zcj Go.Proofs.Tryz.f88 ZbA L (toForms Zaz (s,v_,()))=(ZfQ s v_).run (fun v=>some (ZbD v,tps (toForms Zaz (s,v_,())))) fun j=>L (Zao s v_ j).1 (Zao s v_ j).2:=by kernel_rfl
theorem ZlE (s:List Int) (v_:Int):∀(L:Lt) (j:Za2),procOf (procsF Go.Proofs.Tryz.prog (clOf ZcY) Zcj Go.Proofs.Tryz.f88 ZbA (toForms Zaz (s,v_,()))) (Zao s v_ j).1 L (Zao s v_ j).2=(Za0 s v_ j).run (fun v=>some (ZbD v,tps (toForms Zaz (s,v_,())))) fun j=>L (Zao s v_ j).1 (Zao s v_ j).2 | L,.l3 h=>by kernel_rfl
end
end Go.Ev
end

section
open Go
namespace Go.Ev
def indexI (v:Int):List Int→Nat→Int
 | [],_=> -1
 | x :: r,k=>if v=x then (k:Int) else indexI v r (k+1)
theorem ZHe {v:Int} :∀ {l:List Int} {k:Nat},decide (indexI v l k≥0)=l.contains v
 | [],k=>rfl
 | x :: r,k=>by
  unfold indexI
  rw[List.contains_cons]
  by_cases h:v=x
  ·subst h;rw[if_pos rfl];simp
  ·rw[if_neg h,ZHe]
   have:(v==x)=false:=by simpa using h
   rw[this,Bool.false_or]
def ZaZ (s:List Int) (v:Int):Int:=indexI v s 0
def ZaD (s:List Int) (v:Int):Bool:=decide (s.length < 4611686018427387904)
theorem Znz (s:List Int) (v:Int) (hk:ZaD s v=true):Goes (Za0 s v) (ZfQ s v) (ZaZ s v):=by
 have hn:s.length < 4611686018427387904:=of_decide_eq_true hk
 have loop:∀k,k≤s.length→Goes (Za0 s v) (.jmp (.l3 (k:Int))) (indexI v (s.drop k) k):=by
  refine down ?_ fun k hk ih=>?_
  ·rw[Zi,Za0,Ze,if_neg (by rw[Zw (Nat.lt_irrefl _)];decide),List.drop_length]
   exact .leaf
  ·have hd:s.getD k (dflt (.int .i64))=s[k]:=ZH hk
   rw[Zi,Za0,Ze,if_pos (ZR hk),Ze,if_pos (Zaq hk),Ze,Int.toNat_natCast,hd,ZO hk,indexI,Zr (by omega)]
   by_cases h:v=s[k]
   ·rw[if_pos h,if_pos (by simpa using h)];exact .leaf
   ·rw[if_neg h,if_neg (by simpa using h)];exact ih
 exact loop 0 (Nat.zero_le _)
end Go.Ev
end

section
open Go Go.Ev
namespace Go.Ev
noncomputable section
noncomputable def Zf8:Run:=entG Zaz ZbD (fun a=>ZaD a.1 a.2.1) (fun a=>ZaZ a.1 a.2.1)
theorem ZlB:EntOK Go.Proofs.Tryz.prog 88 Zf8:=ZM (tb:=Zcj) (c:=ZbA) ZlD (by kernel_rfl) (by kernel_rfl) (by kernel_rfl) (fun a=>by kernel_rfl) fun ⟨s,v_,_⟩ hk=>Zm (c:=ZbA) (K:=fun v=>(ZbD v,tps (toForms Zaz (s,v_,())))) (S:=Zao s v_) (by kernel_rfl) (ZlC s v_) (ZlE s v_) (Znz s v_ hk)
end
end Go.Ev
end

section
open Go Go.Ev
namespace Go.Ev
noncomputable section
def Zag:Sig:=[(false,(.sl (.int .i64))),(false,(.int .i64))]
noncomputable def ZbY:Tbl:=[(88,Zf8)]
theorem Zjw:∀p∈ZbY,EntOK Go.Proofs.Tryz.prog p.1 p.2:=Zg ZlB (Zu)
noncomputable def Zbd:Code:=Go.Proofs.Tryz.f67.body.getD .skip
def ZbP:Tb:=[]
def Zel (s:List Int) (v_:Int):Empty→JT Empty (Bool):=fun j=>nomatch j
def ZdN (s:List Int) (v_:Int):JT Empty (Bool):=.br (ZaD s v_) (.leaf (decide ((ZaZ s v_)≥(0:Int)))) (.no)
def ZaK (s:List Int) (v_:Int):Bool:=bif (ZaD s v_) then (decide ((ZaZ s v_)≥(0:Int))) else false
def Z9 (s:List Int) (v_:Int):Bool:=bif (ZaD s v_) then true else false
theorem ZjQ (s:List Int) (v_:Int) (hk:Z9 s v_=true):Goes (Zel s v_) (ZdN s v_) (ZaK s v_):=Goes.brk hk (fun hk=>Goes.leaf) (fun hk=>Goes.nok hk)
def Zbc:Bool→AV:=fun (r:Bool)=>.d .bool r
def Z7 (s:List Int) (v_:Int):Empty→Nat×St:=fun j=>nomatch j
theorem Zjo (s:List Int) (v_:Int) (L:Lt):entryA Go.Proofs.Tryz.prog (clOf ZbY) ZbP Go.Proofs.Tryz.f67 Zbd L (toForms Zag (s,v_,()))=(ZdN s v_).run (fun v=>some (Zbc v,tps (toForms Zag (s,v_,())))) fun j=>L (Z7 s v_ j).1 (Z7 s v_ j).2:=by kernel_rfl
theorem ZjD (s:List Int) (v_:Int):∀(L:Lt) (j:Empty),procOf (procsF Go.Proofs.Tryz.prog (clOf ZbY) ZbP Go.Proofs.Tryz.f67 Zbd (toForms Zag (s,v_,()))) (Z7 s v_ j).1 L (Z7 s v_ j).2=(Zel s v_ j).run (fun v=>some (Zbc v,tps (toForms Zag (s,v_,())))) fun j=>L (Z7 s v_ j).1 (Z7 s v_ j).2:=fun L j=>nomatch j
noncomputable def Zeh:Run:=entG Zag Zbc (fun a=>Z9 a.1 a.2.1) (fun a=>ZaK a.1 a.2.1)
theorem Zjr:EntOK Go.Proofs.Tryz.prog 67 Zeh:=ZM (tb:=ZbP) (c:=Zbd) Zjw (by kernel_rfl) (by kernel_rfl) (by kernel_rfl) (fun a=>by kernel_rfl) fun ⟨s,v_,_⟩ hk=>Zm (c:=Zbd) (K:=fun v=>(Zbc v,tps (toForms Zag (s,v_,())))) (S:=Z7 s v_) (by kernel_rfl) (Zjo s v_) (ZjD s v_) (ZjQ s v_ hk)
end
end Go.Ev
end

section
open Go Go.Ev
namespace Go.Ev
noncomputable section
def Zhh:Sig:=[(true,(.sl Za)),(false,(.sl (.int .i64))),(false,(.int .i64)),(false,(.int .i64))]
noncomputable def ZtL:Tbl:=[(68,Zuh),(67,Zeh)]
theorem ZFN:∀p∈ZtL,EntOK Go.Proofs.Tryz.prog p.1 p.2:=Zg ZxH (Zg Zjr (Zu))
noncomputable def Zpj:Code:=Go.Proofs.Tryz.f42.body.getD .skip
def Zr9:Tb:=[]
def ZzI (t:List (El Za)) (points:List Int) (s:Int) (l:Int):Empty→JT Empty (Bool):=fun j=>nomatch j
def ZxD (t:List (El Za)) (points:List Int) (s:Int) (l:Int):JT Empty (Bool):=.br (ZbS t points s) (.br (Z9 (ZN t points s) l) (.leaf (ZaK (ZN t points s) l)) (.no)) (.no)
def ZdD (t:List (El Za)) (points:List Int) (s:Int) (l:Int):Bool:=bif (ZbS t points s) then bif (Z9 (ZN t points s) l) then (ZaK (ZN t points s) l) else false else false
def ZgJ (t:List (El Za)) (points:List Int) (s:Int) (l:Int):Bool:=bif (ZbS t points s) then bif (Z9 (ZN t points s) l) then true else false else false
theorem ZIL (t:List (El Za)) (points:List Int) (s:Int) (l:Int) (hk:ZgJ t points s l=true):Goes (ZzI t points s l) (ZxD t points s l) (ZdD t points s l):=Goes.brk hk (fun hk=>Goes.brk hk (fun hk=>Goes.leaf) (fun hk=>Goes.nok hk)) (fun hk=>Goes.nok hk)
def ZoO:Bool→AV:=fun (r:Bool)=>.d .bool r
def Zgx (t:List (El Za)) (points:List Int) (s:Int) (l:Int):Empty→Nat×St:=fun j=>nomatch j
theorem ZHt (t:List (El Za)) (points:List Int) (s:Int) (l:Int) (L:Lt):entryA Go.Proofs.Tryz.prog (clOf ZtL) Zr9 Go.Proofs.Tryz.f42 Zpj L (toForms Zhh (t,points,s,l,()))=(ZxD t points s l).run (fun v=>some (ZoO v,tps (toForms Zhh (t,points,s,l,())))) fun j=>L (Zgx t points s l j).1 (Zgx t points s l j).2:=by kernel_rfl
theorem ZHL (t:List (El Za)) (points:List Int) (s:Int) (l:Int):∀(L:Lt) (j:Empty),procOf (procsF Go.Proofs.Tryz.prog (clOf ZtL) Zr9 Go.Proofs.Tryz.f42 Zpj (toForms Zhh (t,points,s,l,()))) (Zgx t points s l j).1 L (Zgx t points s l j).2=(ZzI t points s l j).run (fun v=>some (ZoO v,tps (toForms Zhh (t,points,s,l,())))) fun j=>L (Zgx t points s l j).1 (Zgx t points s l j).2:=fun L j=>nomatch j
noncomputable def ZAi:Run:=entG Zhh ZoO (fun a=>ZgJ a.1 a.2.1 a.2.2.1 a.2.2.2.1) (fun a=>ZdD a.1 a.2.1 a.2.2.1 a.2.2.2.1)
theorem ZHh:EntOK Go.Proofs.Tryz.prog 42 ZAi:=ZM (tb:=Zr9) (c:=Zpj) ZFN (by kernel_rfl) (by kernel_rfl) (by kernel_rfl) (fun a=>by kernel_rfl) fun ⟨t,points,s,l,_⟩ hk=>Zm (c:=Zpj) (K:=fun v=>(ZoO v,tps (toForms Zhh (t,points,s,l,())))) (S:=Zgx t points s l) (by kernel_rfl) (ZHt t points s l) (ZHL t points s l) (ZIL t points s l hk)
end
end Go.Ev
end

section
open Go Go.Ev
namespace Go.Ev
noncomputable section
def ZfG:Sig:=[(true,Zc)]
noncomputable def Zr7:Tbl:=[(16,Zhn),(42,ZAi)]
theorem ZEP:∀p∈Zr7,EntOK Go.Proofs.Tryz.prog p.1 p.2:=Zg ZiF (Zg ZHh (Zu))
noncomputable def ZmC:Code:=Go.Proofs.Tryz.f17.body.getD .skip
def Zpa:Tb:=[(4,⟨[1,3,7,8,9],[(4,56)]⟩)]
inductive Zjf where | l4 (h:Int) (out:List (El Zd))
def ZiZ (p:El Zc):Zjf→JT Zjf (List (El Zd)) |.l4 h out=>.br (decide (h < (Int.ofNat (List.length (Zl p))))) (.br ((decide ((0:Int)≤h))&&(decide (h < (Int.ofNat (List.length (Zl p)))))) (.br ((decide ((0:Int)≤(List.getD (Zl p) (Int.toNat h) (dflt Zd)).1))&&(decide ((List.getD (Zl p) (Int.toNat h) (dflt Zd)).1 < (Int.ofNat (List.length p.2))))) (.br (ZgJ (List.getD p.2 (Int.toNat (List.getD (Zl p) (Int.toNat h) (dflt Zd)).1) (dflt (.sl Za))) [] (List.getD (Zl p) (Int.toNat h) (dflt Zd)).2.1 (List.getD (Zl p) (Int.toNat h) (dflt Zd)).2.2) (.br (ZdD (List.getD p.2 (Int.toNat (List.getD (Zl p) (Int.toNat h) (dflt Zd)).1) (dflt (.sl Za))) [] (List.getD (Zl p) (Int.toNat h) (dflt Zd)).2.1 (List.getD (Zl p) (Int.toNat h) (dflt Zd)).2.2) (.br (Nat.ble (((List.length out)+1)*24) limit) (.jmp (.l4 (IntKind.i64.wrap (h+(1:Int))) (out++[(List.getD (Zl p) (Int.toNat h) (dflt Zd))]))) (.no)) (.jmp (.l4 (IntKind.i64.wrap (h+(1:Int))) out))) (.no)) (.no)) (.no)) (.leaf out)
def Zp0 (p:El Zc):JT Zjf (List (El Zd)):=.br (Z2 p) (.jmp (.l4 (0:Int) [])) (.no)
def Zmy:List (El Zd)→AV:=fun (r:List (El Zd))=>.rw 35 Zd r
def Zer (p:El Zc):Zjf→Nat×St |.l4 h out=>(4,⟨mkTm 30 [(1,.pt 2 0 0),(3,.own 4 0 none),(7,.own 8 0 none),(8,.d (.int .i64) (Int.ofNat (List.length (Zl p)))),(9,.d (.int .i64) h)],[(2,0,.box 26 [.d (.sl Zx) p.1,.d (.sl (.sl Za)) p.2] none),(4,0,.row 35 Zd out false),(8,0,.row 35 Zd (Zl p) false)]⟩)
theorem ZEa (p:El Zc) (L:Lt):entryA Go.Proofs.Tryz.prog (clOf Zr7) Zpa Go.Proofs.Tryz.f17 ZmC L (toForms ZfG (p,()))=(Zp0 p).run (fun v=>some (Zmy v,tps (toForms ZfG (p,())))) fun j=>L (Zer p j).1 (Zer p j).2:=by kernel_rfl
theorem ZDE (p:El Zc):∀(L:Lt) (j:Zjf),procOf (procsF Go.Proofs.Tryz.prog (clOf Zr7) Zpa Go.Proofs.Tryz.f17 ZmC (toForms ZfG (p,()))) (Zer p j).1 L (Zer p j).2=(ZiZ p j).run (fun v=>some (Zmy v,tps (toForms ZfG (p,())))) fun j=>L (Zer p j).1 (Zer p j).2 | L,.l4 h out=>by kernel_rfl
end
end Go.Ev
end

section
open Go
namespace Go.Ev
noncomputable def openB (p:El Zc) (x:El Zd):Bool:=ZdD (List.getD p.2 (Int.toNat x.1) (dflt (.sl Za))) [] x.2.1 x.2.2
noncomputable def openK (p:El Zc) (x:El Zd):Bool:=(decide ((0:Int)≤x.1)&&decide (x.1 < Int.ofNat (List.length p.2)))&&ZgJ (List.getD p.2 (Int.toNat x.1) (dflt (.sl Za))) [] x.2.1 x.2.2
noncomputable def Zv (p:El Zc):List (El Zd):=(Zl p).filter (openB p)
noncomputable def Zbp (p:El Zc):Bool:=Z2 p&&(decide ((Zl p).length < 10000000000)&&(Zl p).all (openK p))
theorem ZGM (p:El Zc) (hk:Zbp p=true):Goes (ZiZ p) (Zp0 p) (Zv p):=by
 unfold Zbp at hk
 rw[Bool.and_eq_true,Bool.and_eq_true] at hk
 obtain ⟨k1,k2,k3⟩:=hk
 have hN:=of_decide_eq_true k2
 unfold Zp0 Zv
 rw[Ze,if_pos k1]
 obtain ⟨l,hl⟩:∃l,Zl p=l:=⟨_,rfl⟩
 rw[hl] at hN k3
 rw[hl]
 have loop:∀k,k≤l.length→∀out:List (El Zd),out.length≤k→Goes (ZiZ p) (.jmp (.l4 (k:Int) out)) (out++(l.drop k).filter (openB p)):=by
  refine down ?_ fun k hk ih=>?_
  ·intro out ho
   rw[Zi,ZiZ,hl,Ze,if_neg (by rw[Zw (Nat.lt_irrefl _)];decide),List.drop_length]
   simp only[List.filter_nil,List.append_nil]
   exact .leaf
  ·intro out ho
   have b1:Nat.ble ((out.length+1)*24) limit=true:=Nat.ble_eq_true_of_le (by unfold limit;omega)
   have hx:=List.all_eq_true.1 k3 l[k] (List.getElem_mem hk)
   unfold openK at hx
   rw[Bool.and_eq_true] at hx
   rw[Zi,ZiZ,hl,ZO hk,List.filter_cons]
   simp only[Ze,ZR hk,nng,Bool.and_self,if_true,Int.toNat_natCast,ZH hk,b1,Zr (k:=k) (by omega)]
   rw[if_pos hx.1,if_pos hx.2]
   by_cases c:openB p l[k]=true
   ·have c':=c
    unfold openB at c'
    rw[if_pos c',if_pos c]
    have:=ih (out++[l[k]]) (by simp;omega)
    rw[List.append_assoc] at this
    exact this
   ·have c':=c
    unfold openB at c'
    rw[if_neg c',if_neg c]
    exact ih out (by omega)
 have:=loop 0 (Nat.zero_le _) [] (Nat.zero_le _)
 rw[List.nil_append,List.drop_zero] at this
 exact this
end Go.Ev
end

section
open Go Go.Ev
namespace Go.Ev
noncomputable section
noncomputable def ZlT:Run:=entG ZfG Zmy (fun a=>Zbp a.1) (fun a=>Zv a.1)
theorem Zok:EntOK Go.Proofs.Tryz.prog 17 ZlT:=ZM (tb:=Zpa) (c:=ZmC) ZEP (by kernel_rfl) (by kernel_rfl) (by kernel_rfl) (fun a=>by kernel_rfl) fun ⟨p,_⟩ hk=>Zm (c:=ZmC) (K:=fun v=>(Zmy v,tps (toForms ZfG (p,())))) (S:=Zer p) (by kernel_rfl) (ZEa p) (ZDE p) (ZGM p hk)
end
end Go.Ev
end

section
open Go Go.Ev
namespace Go.Ev
noncomputable section
def ZnW:Sig:=[(false,(.sl Zd)),(false,(.int .i64))]
noncomputable def ZEv:Tbl:=[]
theorem ZLL:∀p∈ZEv,EntOK Go.Proofs.Tryz.prog p.1 p.2:=Zu
noncomputable def Zyw:Code:=Go.Proofs.Tryz.f32.body.getD .skip
def ZzT:Tb:=[(4,⟨[1,5,8,9,10],[(6,56)]⟩)]
inductive Zvt where | l4 (h:Int) (out:List (El Zd))
def ZvS (l:List (El Zd)) (t:Int):Zvt→JT Zvt (List (El Zd)) |.l4 h out=>.br (decide (h < (Int.ofNat (List.length l)))) (.br ((decide ((0:Int)≤h))&&(decide (h < (Int.ofNat (List.length l))))) (.br ((List.getD l (Int.toNat h) (dflt Zd)).1==t) (.br (Nat.ble (((List.length out)+1)*24) limit) (.jmp (.l4 (IntKind.i64.wrap (h+(1:Int))) (out++[(List.getD l (Int.toNat h) (dflt Zd))]))) (.no)) (.jmp (.l4 (IntKind.i64.wrap (h+(1:Int))) out))) (.no)) (.leaf out)
def ZF8 (l:List (El Zd)) (t:Int):JT Zvt (List (El Zd)):=.jmp (.l4 (0:Int) [])
def Zyt:List (El Zd)→AV:=fun (r:List (El Zd))=>.rw 35 Zd r
def Zor (l:List (El Zd)) (t:Int):Zvt→Nat×St |.l4 h out=>(4,⟨mkTm 24 [(1,.d (.int .i64) t),(5,.own 6 0 none),(8,.d (.sl Zd) l),(9,.d (.int .i64) (Int.ofNat (List.length l))),(10,.d (.int .i64) h)],[(6,0,.row 35 Zd out false)]⟩)
theorem ZLT (l:List (El Zd)) (t:Int) (L:Lt):entryA Go.Proofs.Tryz.prog (clOf ZEv) ZzT Go.Proofs.Tryz.f32 Zyw L (toForms ZnW (l,t,()))=(ZF8 l t).run (fun v=>some (Zyt v,tps (toForms ZnW (l,t,())))) fun j=>L (Zor l t j).1 (Zor l t j).2:=by kernel_rfl
theorem ZLU (l:List (El Zd)) (t:Int):∀(L:Lt) (j:Zvt),procOf (procsF Go.Proofs.Tryz.prog (clOf ZEv) ZzT Go.Proofs.Tryz.f32 Zyw (toForms ZnW (l,t,()))) (Zor l t j).1 L (Zor l t j).2=(ZvS l t j).run (fun v=>some (Zyt v,tps (toForms ZnW (l,t,())))) fun j=>L (Zor l t j).1 (Zor l t j).2 | L,.l4 h out=>by kernel_rfl
end
end Go.Ev
end

section
open Go
namespace Go.Ev
def Zqt (a b:List (El Zd)):Bool:=decide (a.length < 4611686018427387904)
end Go.Ev
end

section
open Go
namespace Go.Ev
theorem ZIc {n:Nat} (hn:n < 4611686018427387904) {B:Nat→Bool} :∀(xs:List Nat) (d:SetD) (M:Nat→Bool),(∀x∈xs,x < n)→SetOK d n M→SetOK (putAll d (xs.map Int.ofNat)) n fun k=>M k || xs.contains k
 | [],d,M,_,h=>h.congr' fun j=>by simp
 | x :: xs,d,M,hx,h=>by
  have h1:=(h.putO hn (hx x (by simp))).2
  have h2:=ZIc (B:=B) hn xs _ _ (fun y hy=>hx y (by simp[hy])) h1
  refine h2.congr' fun j=>?_
  rw[List.contains_cons,Bool.or_assoc]
theorem ZzA {n:Nat} (hn:n < 4611686018427387904) {B:Nat→Bool} :SetOK (putAll ((n:Int),[]) (listOf n B)) n fun k=>decide (k < n)&&B k:=by
 have:=ZIc (B:=B) hn ((List.range n).filter B) ((n:Int),[]) _ (fun x hx=>List.mem_range.1 (List.mem_filter.1 hx).1) (SetOK.new n)
 refine this.congr' fun j=>?_
 rw[Bool.false_or,Bool.eq_iff_iff,List.contains_iff_mem,List.mem_filter,List.mem_range,Bool.and_eq_true,decide_eq_true_eq]
theorem ZN9 {n:Nat} (hn:n < 4611686018427387904):Zy (Int.ofNat n)=((n:Int),[]):=by
 unfold Zy
 simp
 omega
section
variable {p:El Zc}
theorem ZOP (hk:Z2 p=true) {r:Nat} (hr:r < (ofC p).length):SetOK (dBack p (ofC p) (r:Int)) (ofC p).length fun k=>decide (k < (ofC p).length)&&backB p (ofC p) r k:=by
 obtain ⟨hs,hd⟩:=delayOK hk
 have hn:(ofC p).length < 4611686018427387904:=Nat.lt_trans hd.len (by decide)
 unfold dBack
 rw[ZN9 hn]
 unfold ZbF
 rw[if_pos ⟨Int.natCast_nonneg r,Int.ofNat_lt.2 hr⟩,Int.toNat_natCast]
 exact ZzA hn
theorem ZOU (hk:Z2 p=true) {s r:Nat} (hs:s < (ofC p).length) (hr:r < (ofC p).length) (ht:thA (ofC p) r=thA (ofC p) s):
  hitP p (ofC p) (s:Int) (frS p (ofC p) (thA (ofC p) s) (s:Int)) (r:Int)=(fromB (thrOf p (ofC p) s) (inA (ofC p) s) (inA (ofC p) r).toNat&&backB p (ofC p) r s):=by
 obtain ⟨hsm,hd⟩:=delayOK hk
 have hn:(ofC p).length < 4611686018427387904:=Nat.lt_trans hd.len (by decide)
 obtain ⟨t0,t1,hf,i0,i1⟩:=Zf3 hsm hs
 obtain ⟨_,_,_,j0,j1⟩:=Zf3 hsm hr
 have et:thrOf p (ofC p) r=thrOf p (ofC p) s:=by unfold thrOf;rw[ht]
 rw[et] at j1
 have hlen:(thrOf p (ofC p) s).length < 4611686018427387904:=Nat.lt_trans (Zby hf) (by decide)
 have e1:frS p (ofC p) (thA (ofC p) s) (s:Int)=putAll (((thrOf p (ofC p) s).length:Int),[]) (listOf (thrOf p (ofC p) s).length (fromB (thrOf p (ofC p) s) (inA (ofC p) s))):=by
  unfold frS
  rw[show insP p (thA (ofC p) s)=thrOf p (ofC p) s from rfl,ZN9 hlen]
  rfl
 have h1:=ZzA hlen (B:=fromB (thrOf p (ofC p) s) (inA (ofC p) s))
 rw[←e1] at h1
 have h2:=ZOP hk hr
 have e2:∀(x:SetD) (i:Int),(Zo x i).1=hasS x i:=fun _ _=>rfl
 have g1:(Zo (frS p (ofC p) (thA (ofC p) s) (s:Int)) (inA (ofC p) r)).1=fromB (thrOf p (ofC p) s) (inA (ofC p) s) (inA (ofC p) r).toNat:=by
  rw[e2,h1.has hlen,decide_eq_true j0,decide_eq_true (show (inA (ofC p) r).toNat < (thrOf p (ofC p) s).length by omega),Bool.true_and,Bool.true_and]
 have g2:(Zo (dBack p (ofC p) (r:Int)) (s:Int)).1=backB p (ofC p) r s:=by
  rw[e2,h2.has hn,decide_eq_true (Int.natCast_nonneg s),Int.toNat_natCast,decide_eq_true hs,Bool.true_and,Bool.true_and]
 unfold hitP
 rw[g2]
 have:(Zo (frS p (ofC p) (thA (ofC p) s) (s:Int)) (List.getD (ofC p) (Int.toNat (r:Int)) (dflt Zb)).2.1).1=fromB (thrOf p (ofC p) s) (inA (ofC p) s) (inA (ofC p) r).toNat:=by
  rw[Int.toNat_natCast]
  exact g1
 rw[this]
end
theorem Zop {α β:Type} {f g:α→List β} {l:List α} (h:∀x∈l,f x=g x):l.flatMap f=l.flatMap g:=by
 rw[List.flatMap_def,List.flatMap_def,List.map_congr_left h]
theorem ZOc {α β:Type} {key:α→Nat} {D:α→List β} :∀(T:Nat) (L:List α),L.Pairwise (fun a b=>key a≤key b)→(∀x∈L,key x < T)→((List.range T).flatMap fun t=>(L.filter fun x=>key x==t).flatMap D)=L.flatMap D
 | 0,L,_,h=>by
  cases L with
  | nil=>rfl
  | cons x L=>exact absurd (h x (by simp)) (Nat.not_lt_zero _)
 | T+1,L,hp,h=>by
  have split:∀L:List α,L.Pairwise (fun a b=>key a≤key b)→(∀x∈L,key x < T+1)→L=(L.filter fun x=>decide (key x < T))++L.filter fun x=>key x==T:=by
   intro L
   induction L with
   | nil=>intros;rfl
   | cons x L ih=>
    intro hp h
    obtain ⟨p1,p2⟩:=List.pairwise_cons.1 hp
    have ih:=ih p2 fun y hy=>h y (by simp[hy])
    by_cases hx:key x < T
    ·have hx':(key x==T)=false:=by rw[beq_eq_false_iff_ne];omega
     rw[List.filter_cons_of_pos (by simpa using hx),List.filter_cons_of_neg (by rw[hx'];exact Bool.false_ne_true),List.cons_append,←ih]
    ·have hk:key x=T:=by have:=h x (by simp);omega
     have hnone:L.filter (fun x=>decide (key x < T))=[]:=List.filter_eq_nil_iff.2 fun y hy=>by have:=p1 y hy;simp;omega
     rw[List.filter_cons_of_neg (by simpa using hx),List.filter_cons_of_pos (by simpa using hk),hnone,List.nil_append]
     rw[hnone,List.nil_append] at ih
     rw[←ih]
  have e:=split L hp h
  rw[List.range_succ,List.flatMap_append]
  have h1:((List.range T).flatMap fun t=>(L.filter fun x=>key x==t).flatMap D)=(L.filter fun x=>decide (key x < T)).flatMap D:=by
   rw[←ZOc T (L.filter fun x=>decide (key x < T)) (hp.sublist List.filter_sublist) fun x hx=>by simpa using (List.mem_filter.1 hx).2]
   refine Zop fun t ht=>?_
   rw[List.filter_filter]
   congr 1
   refine List.filter_congr fun x hx=>?_
   have:=List.mem_range.1 ht
   by_cases hk:key x=t
   ·simp[hk,this]
   ·simp[hk]
  rw[h1]
  simp only[List.flatMap_cons,List.flatMap_nil,List.append_nil]
  rw[←List.flatMap_append,←e]
theorem ZL6 {α β γ:Type} {g:β→List γ} {f:α→β} {P H:α→Bool} {q:α→γ} :∀(l:List α),(∀x∈l,P x=true→g (f x)=if H x=true then [q x] else [])→((l.filter P).map f).flatMap g=(l.filter fun x=>P x&&H x).map q
 | [],_=>rfl
 | x :: l,h=>by
  have ih:=ZL6 l fun y hy=>h y (by simp[hy])
  cases hP:P x with
  | false=>rw[List.filter_cons_of_neg (by simp[hP]),List.filter_cons_of_neg (by simp[hP]),ih]
  | true=>
   rw[List.filter_cons_of_pos hP,List.map_cons,List.flatMap_cons,h x (by simp) hP,ih]
   cases hH:H x with
   | false=>rw[List.filter_cons_of_neg (by simp[hP,hH])];simp
   | true=>rw[List.filter_cons_of_pos (by simp[hP,hH])];simp
theorem ZtX {α β:Type} {P:α→Bool} {D:α→List β} :∀(l:List α),(l.flatMap fun x=>if P x=true then D x else [])=(l.filter P).flatMap D
 | []=>rfl
 | x :: l=>by
  cases hP:P x with
  | false=>rw[List.filter_cons_of_neg (by simp[hP]),List.flatMap_cons,ZtX l];simp[hP]
  | true=>rw[List.filter_cons_of_pos hP,List.flatMap_cons,List.flatMap_cons,ZtX l];simp[hP]
theorem ZO2 {p:El Zc} {a b:Nat} (ha:a < (ofC p).length) (hb:b < (ofC p).length) (h:a < b):thA (ofC p) a≤thA (ofC p) b:=by
 have ho:=List.pairwise_iff_getElem.1 (ZLX p) a b ha hb h
 have ga:accA (ofC p) a=(ofC p)[a]:=by unfold accA;rw[ZH ha]
 have gb:accA (ofC p) b=(ofC p)[b]:=by unfold accA;rw[ZH hb]
 rw[←ga,←gb] at ho
 have:∀t k q t' k' q':Int,ltNX t k q t' k' q'→t≤t':=fun t k q t' k' q' h=>by
  rcases h with h | ⟨h,_⟩ <;> omega
 exact this _ _ _ _ _ _ ho
theorem ZMK {p:El Zc} (hk:Z2 p=true):Zl p=ZA p:=by
 obtain ⟨hsm,hd⟩:=delayOK hk
 have facts:=fun i=>Zf3 (i:=i) hsm
 have hits:=fun s r=>ZOU (s:=s) (r:=r) hk
 have keys:=fun a b=>ZO2 (p:=p) (a:=a) (b:=b)
 unfold Zl ZA delsFrom outN
 generalize ofC p=l at facts hits keys
 rw[Nat.sub_zero,←List.range_eq_range']
 have hD:∀s,delS p l s=if stB' l s=true then ((List.range l.length).filter fun r=>delB p l s r).map (delPair l s) else []:=fun s=>by
  unfold delS
  rw[←List.range_eq_range']
 rw[Zop fun s _=>hD s,ZtX]
 refine Eq.trans ?_ (ZOc (key:=fun s=>(thA l s).toNat) p.2.length ((List.range l.length).filter fun s=>stB' l s) ?_ ?_)
 ·refine Zop fun t ht=>?_
  have ht:=List.mem_range.1 ht
  rw[List.filter_filter]
  unfold outT ZQ listOf
  rw[List.flatMap_map]
  have hf:(List.range l.length).filter (plB l (t:Int) true)=(List.range l.length).filter fun s=>((thA l s).toNat==t)&&stB' l s:=by
   refine List.filter_congr fun s hs=>?_
   obtain ⟨t0,_⟩:=facts s (List.mem_range.1 hs)
   unfold plB stB'
   rw[Bool.and_assoc]
   have e:(((List.getD l s (dflt Zb)).1:Int)==(t:Int))=((thA l s).toNat==t):=by
    show (thA l s==(t:Int))=_
    rw[Bool.eq_iff_iff,beq_iff_eq,beq_iff_eq]
    omega
   have e2:((List.getD l s (dflt Zb)).2.2.2.2.1==true)=(accA l s).2.2.2.2.1:=by
    show ((accA l s).2.2.2.2.1==true)=_
    cases (accA l s).2.2.2.2.1 <;> rfl
   rw[e2]
   exact congrArg (· &&_) e
  rw[hf]
  refine Zop fun s hs=>?_
  obtain ⟨hs1,hs2⟩:=List.mem_filter.1 hs
  have hsN:=List.mem_range.1 hs1
  rw[Bool.and_eq_true,beq_iff_eq] at hs2
  obtain ⟨t0,_⟩:=facts s hsN
  have hth:thA l s=(t:Int):=by have:=hs2.1;omega
  unfold outS ZQ listOf
  rw[ZL6 (H:=fun r=>fromB (thrOf p l s) (inA l s) (inA l r).toNat&&backB p l r s) (q:=delPair l s)]
  ·congr 1
   refine List.filter_congr fun r hr=>?_
   unfold plB delB ldB'
   have e1:(((List.getD l r (dflt Zb)).1:Int)==(t:Int))=(thA l r==thA l s):=by rw[hth];rfl
   have e2:((List.getD l r (dflt Zb)).2.2.2.2.1==false)=! (accA l r).2.2.2.2.1:=by
    show ((accA l r).2.2.2.2.1==false)=_
    cases (accA l r).2.2.2.2.1 <;> rfl
   rw[e2,←Bool.and_assoc (thA l r==thA l s)]
   exact congrArg (fun x=>x&&_&&_&&_) e1
  ·intro r hr hP
   have hrN:=List.mem_range.1 hr
   unfold plB at hP
   rw[Bool.and_eq_true,Bool.and_eq_true] at hP
   have hth2:thA l r=(t:Int):=by have:=hP.1.1;exact eq_of_beq this
   have:=hits s r hsN hrN (hth2.trans hth.symm)
   rw[hth] at this
   show oneP p l (t:Int) (s:Int) (frS p l (t:Int) (s:Int)) (r:Int)=_
   unfold oneP
   rw[this]
   unfold delPair
   rw[hth]
   rfl
 ·refine List.Pairwise.filter _ ?_
  refine List.pairwise_lt_range.imp_of_mem fun {a b} ha hb h=>?_
  have:=keys a b (List.mem_range.1 ha) (List.mem_range.1 hb) h
  omega
 ·intro s hs
  obtain ⟨t0,t1,_⟩:=facts s (List.mem_range.1 (List.mem_filter.1 hs).1)
  omega
end Go.Ev
end

section
namespace Go.Ev
open Go
theorem ZCg (i:El Za) (ls:List ByteArray):Zz (setL i ls)=Zz i:=rfl
theorem ZOf (i:El Za) (ls:List ByteArray):(setL i ls).2.2.2.2.2.1=i.2.2.2.2.2.1:=rfl
theorem ZCc {th:List (List (El Za))} {k r s n:Int} (h:k=3∨k=4→placeOK k s n=true):placeC (symsB,th) (k,(r,(s,n)))=0:=by
 show placeN 3 _ k s n=0
 unfold placeN
 by_cases hk:k=3∨k=4
 ·rw[if_pos hk]
  have:=h hk
  unfold placeOK at this
  simp only[Bool.and_eq_true,decide_eq_true_eq,Bool.or_eq_true,beq_iff_eq] at this
  obtain ⟨h0,h3,hn⟩:=this
  rw[if_neg (by omega)]
  have hs:s=0∨s=1∨s=2:=by omega
  rcases hs with rfl | rfl | rfl
  ·rw[if_neg]
   rintro ⟨h1,h2⟩
   have h2:(1:Int)≤n:=h2
   rcases hn with hn | hn
   ·omega
   ·have hn:n < (1:Int):=hn
    omega
  ·rw[if_neg]
   rintro ⟨h1,h2⟩
   have h2:(2:Int)≤n:=h2
   rcases hn with hn | hn
   ·omega
   ·have hn:n < (2:Int):=hn
    omega
  ·rw[if_neg]
   rintro ⟨h1,h2⟩
   have h2:(1:Int)≤n:=h2
   rcases hn with hn | hn
   ·omega
   ·have hn:n < (1:Int):=hn
    omega
 ·rw[if_neg hk]
theorem ZLY {th:List (List (El Za))} {many:Int} {i:El Za} (h:BookOK many i) (ls:List ByteArray):insC (symsB,th) (setL i ls)=0:=by
 have hA:placeC (symsB,th) i.2.2.2.1=0:=ZCc (k:=i.2.2.2.1.1) (r:=i.2.2.2.1.2.1) (s:=i.2.2.2.1.2.2.1) (n:=i.2.2.2.1.2.2.2) h.placeA
 have hB:placeC (symsB,th) i.2.2.2.2.1=0:=ZCc (k:=i.2.2.2.2.1.1) (r:=i.2.2.2.2.1.2.1) (s:=i.2.2.2.2.1.2.2.1) (n:=i.2.2.2.2.1.2.2.2) h.placeB
 unfold insC
 rw[ZCg,h.right]
 show (if (0:Int)≠0 then _ else if placeC (symsB,th) i.2.2.2.1≠0 then _ else placeC (symsB,th) i.2.2.2.2.1)=0
 rw[hA,hB]
 rfl
theorem ZGn {p:El Zc} {K:List ByteArray→Int} :∀(x:List (El Za)) (k:Nat) (seen:List ByteArray),
  (∀(j:Nat) (i:El Za),x[j]? =some i→(i.2.2.2.2.2.2=[]∨i.2.2.2.2.2.2=[Zn ((k+j:Nat):Int)])∧insC p i=0)→(∀l∈seen,∃k',k' < k∧l=Zn (k':Int))→k+x.length≤100→scanI p K seen x=K (seen++labels x)
 | [],k,seen,_,_,_=>by simp[scanI,labels]
 | i :: r,k,seen,h,hs,hk=>by
  obtain ⟨hl,hi⟩:=h 0 i rfl
  rw[List.length_cons] at hk
  have hr:=fun seen' hs'=>ZGn (K:=K) r (k+1) seen' (fun j y hy=>by
   have:=h (j+1) y (by simpa using hy)
   rwa[show k+(j+1)=k+1+j by omega] at this) hs' (by omega)
  unfold scanI
  rcases hl with hl | hl
  ·rw[hl]
   unfold scanL
   rw[hi]
   simp only[ne_eq,not_true_eq_false,if_false]
   rw[hr seen fun l hl=>by obtain ⟨k',h1,h2⟩:=hs l hl;exact ⟨k',by omega,h2⟩]
   unfold labels
   rw[List.flatMap_cons,hl,List.nil_append]
  ·rw[hl,Nat.add_zero]
   unfold scanL
   rw[if_neg (by rw[(Zp8 (k:=(k:Int)) (by omega) (by omega)).1];decide)]
   have hns:seen.contains (Zn (k:Int))=false:=by
    rw[Bool.eq_false_iff]
    intro hc
    rw[List.contains_iff_mem] at hc
    obtain ⟨k',h1,h2⟩:=hs _ hc
    have:=ZL1 (by omega) (by omega) h2
    omega
   rw[if_neg (by rw[hns];decide)]
   unfold scanL
   rw[hi]
   simp only[ne_eq,not_true_eq_false,if_false]
   rw[hr _ fun l hl=>by
    rcases List.mem_append.1 hl with hl | hl
    ·obtain ⟨k',h1,h2⟩:=hs l hl;exact ⟨k',by omega,h2⟩
    ·rw[List.mem_singleton] at hl;exact ⟨k,by omega,hl⟩]
   unfold labels
   rw[List.flatMap_cons,hl,Nat.add_zero,List.append_assoc]
theorem ZH7 {seen:List ByteArray} :∀ {x:List (El Za)},(∀i∈x,((i.1==(10:Int)) || (i.1==(11:Int)))=true→seen.contains i.2.2.2.2.2.1=true)→jumpC seen x=0
 | [],_=>rfl
 | i :: r,h=>by
  unfold jumpC
  have ih:=ZH7 fun j hj=>h j (List.mem_cons_of_mem _ hj)
  by_cases hj:((i.1==(10:Int)) || (i.1==(11:Int)))=true
  ·rw[if_pos hj,if_pos (h i (List.mem_cons_self ..) hj)];exact ih
  ·rw[if_neg hj];exact ih
theorem ZkZ {a:List (El Zq)} {n:Nat} (hn:n≤90) (ha:n≤a.length) {k:Nat} {i:El Za} (h:(threadB a n)[k]? =some i):
  (k < n∧∃x,(baseT a n)[k]? =some x∧BookOK ((n+1:Nat):Int) x∧i=setL x (if sAt (baseT a n) n k then [Zn (k:Int)] else []))∨(k=n∧i=setL (bare 14) (if sAt (baseT a n) n k then [Zn (k:Int)] else [])):=by
 have hl:=Zqz a n ha
 obtain ⟨hk,he⟩:=List.getElem?_eq_some_iff.1 h
 unfold threadB at hk he
 rw[Zh1 hk] at he
 rw[Zci,hl] at hk
 by_cases hkn:k < n
 ·obtain ⟨x,h1,h2⟩:=ZLc hn hkn ha
  obtain ⟨h3,h4⟩:=List.getElem?_eq_some_iff.1 h1
  rw[h4] at he
  exact .inl ⟨hkn,_,h1,h2,he.symm⟩
 ·have hkn:k=n:=by omega
  subst hkn
  have:(baseT a k)[k]'(by omega)=bare 14:=by
   unfold baseT
   rw[List.getElem_append_right (by simp;omega)]
   simp
  rw[this] at he
  exact .inr ⟨rfl,he.symm⟩
theorem ZJz (many:Int) (ls:List ByteArray) {th:List (List (El Za))} :insC (symsB,th) (setL (bare 14) ls)=0:=by
 unfold insC
 rw[ZCg,ZLB (.inr (.inr rfl))]
 rfl
theorem ZLv {x:List (El Za)} {k:Nat} {i:El Za} {l:ByteArray} (h:x[k]? =some i) (hl:l∈i.2.2.2.2.2.2):(labels x).contains l=true:=by
 rw[List.contains_iff_mem]
 unfold labels
 exact List.mem_flatMap.2 ⟨i,List.mem_of_getElem? h,hl⟩
theorem ZG4 {a:List (El Zq)} {n:Nat} (hn:n≤90) (ha:n≤a.length) {th:List (List (El Za))} :threadC (symsB,th) (threadB a n)=0:=by
 have hlen:(threadB a n).length=n+1:=by unfold threadB;rw[Zci,Zqz a n ha]
 unfold threadC
 have hc:=ZMj (threadB a n)
 rw[if_neg (by omega),ZGn (threadB a n) 0 [] (fun j i h=>by
  rw[Nat.zero_add]
  rcases ZkZ hn ha h with ⟨_,x,_,hx,rfl⟩ | ⟨_,rfl⟩
  ·refine ⟨?_,ZLY hx _⟩
   show (if _ then [Zn (j:Int)] else [])=[]∨(if _ then [Zn (j:Int)] else [])=[Zn (j:Int)]
   split
   ·exact .inr rfl
   ·exact .inl rfl
  ·refine ⟨?_,ZJz 0 _⟩
   show (if _ then [Zn (j:Int)] else [])=[]∨(if _ then [Zn (j:Int)] else [])=[Zn (j:Int)]
   split
   ·exact .inr rfl
   ·exact .inl rfl) (fun l hl=>by cases hl) (by omega)]
 rw[List.nil_append,ZKb (by omega)]
 have hlast:(threadB a n)[(threadB a n).length - 1]? =some ((threadB a n)[(threadB a n).length - 1]'(by omega)):=List.getElem?_eq_getElem (by omega)
 have h14:(((threadB a n)[(threadB a n).length - 1]'(by omega)).1==(10:Int) || ((threadB a n)[(threadB a n).length - 1]'(by omega)).1==(14:Int))=true:=by
  rcases ZkZ hn ha hlast with ⟨h1,_⟩ | ⟨_,h2⟩
  ·omega
  ·rw[h2];rfl
 rw[if_pos h14]
 refine ZH7 fun i hi hj=>?_
 obtain ⟨k,hk⟩:=List.getElem?_of_mem hi
 rcases ZkZ hn ha hk with ⟨hkn,x,hx,hb,rfl⟩ | ⟨_,rfl⟩
 ·rw[ZOf]
  rcases hb.to with ⟨h1,h2,_⟩ | ⟨_,m,m0,m1,e⟩
  ·exfalso
   have hj:((x.1==(10:Int)) || (x.1==(11:Int)))=true:=hj
   simp only[Bool.or_eq_true,beq_iff_eq] at hj
   rcases hj with hj | hj
   ·exact h1 hj
   ·exact h2 hj
  ·rw[e]
   obtain ⟨q,rfl⟩:∃q:Nat,m=(q:Int):=⟨m.toNat,by omega⟩
   have hqn:q < n+1:=by omega
   have hq:(threadB a n)[q]? =some ((threadB a n)[q]'(by omega)):=List.getElem?_eq_getElem (by omega)
   have hs:sAt (baseT a n) n q=true:=by
    unfold sAt
    rw[List.any_eq_true]
    exact ⟨x,List.mem_of_getElem? (i:=k) (by rw[List.getElem?_take,if_pos hkn];exact hx),decide_eq_true e⟩
   refine ZLv hq ?_
   rcases ZkZ hn ha hq with ⟨_,y,_,_,h2⟩ | ⟨_,h2⟩
   ·rw[h2,hs];exact List.mem_singleton.2 rfl
   ·rw[h2,hs];exact List.mem_singleton.2 rfl
 ·cases hj
theorem ZK7 {a:List (El Zq)} {n:Nat} (hn:n≤90) (ha:n≤a.length):smallThread (threadB a n)=true:=by
 have hlen:(threadB a n).length=n+1:=by unfold threadB;rw[Zci,Zqz a n ha]
 have hlab:∀i∈threadB a n,smallText i.2.2.2.2.2.1=true∧i.2.2.2.2.2.2.length≤1∧∀l∈i.2.2.2.2.2.2,smallText l=true:=fun i hi=>by
  obtain ⟨k,hk⟩:=List.getElem?_of_mem hi
  have hkl:=(List.getElem?_eq_some_iff.1 hk).1
  have hls:∀b:Bool,(if b=true then [Zn (k:Int)] else []).length≤1∧∀l∈(if b=true then [Zn (k:Int)] else []),smallText l=true:=fun b=>by
   cases b with
   | false=>exact ⟨by simp,fun l hl=>by simp at hl⟩
   | true=>exact ⟨by simp,fun l hl=>by
     rw[if_pos rfl,List.mem_singleton] at hl
     rw[hl];exact (Zp8 (by omega) (by omega)).2⟩
  rcases ZkZ hn ha hk with ⟨hkn,x,hx,hb,rfl⟩ | ⟨_,rfl⟩
  ·exact ⟨hb.small (by omega),hls _⟩
  ·exact ⟨(by decide:smallText (bs [])=true),hls _⟩
 have:=ZMQ (t:=threadB a n) (n:=1) fun i hi=>(hlab i hi).2.1
 unfold smallThread
 simp only[Bool.and_eq_true,decide_eq_true_eq,List.all_eq_true]
 exact ⟨by omega,by omega,fun i hi=>⟨(hlab i hi).1,(hlab i hi).2.2⟩⟩
theorem ZK6 (K:Int):symsC K [] symsB=K:=by kernel_rfl
theorem ZFw {p:El Zc} :∀ {th:List (List (El Za))},(∀t∈th,threadC p t=0)→thsC p th=0
 | [],_=>rfl
 | t :: r,h=>by
  unfold thsC
  rw[h t (List.mem_cons_self ..)]
  simp only[ne_eq,not_true_eq_false,if_false]
  exact ZFw fun x hx=>h x (List.mem_cons_of_mem _ hx)
theorem ZK8 (l:List (List (El Zq))) {threads many:Int} (h0:0≤threads) (h1:threads≤64) (m0:0≤many) (m1:many≤90):checkC (Zt l threads many)=0∧smallProg (Zt l threads many)=true∧Zey l threads many=true:=by
 refine ⟨?_,?_,?_⟩
 ·unfold checkC Zt
  show (if 64 < symsB.length∨64 < ((l.take threads.toNat).map fun a=>threadB a (min a.length many.toNat)).length then (10:Int) else symsC (thsC _ ((l.take threads.toNat).map fun a=>threadB a (min a.length many.toNat))) [] symsB)=0
  rw[if_neg,ZK6]
  ·exact ZFw fun t ht=>by
    obtain ⟨a,_,rfl⟩:=List.mem_map.1 ht
    exact ZG4 (by omega) (by omega)
  ·rw[List.length_map,List.length_take]
   have:symsB.length=3:=rfl
   omega
 ·unfold smallProg Zt
  simp only[Bool.and_eq_true,List.all_eq_true]
  refine ⟨?_,fun t ht=>?_⟩
  ·have:symsB.all (fun s=>smallText s.1)=true:=by decide+kernel
   rw[List.all_eq_true] at this
   exact this
  ·obtain ⟨a,_,rfl⟩:=List.mem_map.1 ht
   exact ZK7 (by omega) (by omega)
 ·unfold Zey
  simp only[Bool.and_eq_true,decide_eq_true_eq]
  omega
end Go.Ev
end

section
open Go
namespace Go.Ev
end Go.Ev
end

section
open Go Go.Ev
namespace Go.Ev
noncomputable section
def Zcl:Sig:=[(false,(.sl (.int .i64))),(false,(.sl (.int .i64)))]
noncomputable def ZkU:Tbl:=[]
theorem Zx5:∀p∈ZkU,EntOK Go.Proofs.Tryz.prog p.1 p.2:=Zu
noncomputable def Zhz:Code:=Go.Proofs.Tryz.f19.body.getD .skip
def Zjz:Tb:=[(6,⟨[0,1,5],[]⟩)]
inductive ZeU where | l6 (i:Int)
def Ze8 (a:List Int) (b:List Int):ZeU→JT ZeU (Bool) |.l6 i=>.br (decide (i < (Int.ofNat (List.length a)))) (.br ((decide ((0:Int)≤i))&&(decide (i < (Int.ofNat (List.length a))))) (.br ((decide ((0:Int)≤i))&&(decide (i < (Int.ofNat (List.length b))))) (.br ((List.getD a (Int.toNat i) (dflt (.int .i64))) !=(List.getD b (Int.toNat i) (dflt (.int .i64)))) (.leaf false) (.jmp (.l6 (IntKind.i64.wrap (i+(1:Int)))))) (.no)) (.no)) (.leaf true)
def Zjm (a:List Int) (b:List Int):JT ZeU (Bool):=.br ((Int.ofNat (List.length a)) !=(Int.ofNat (List.length b))) (.leaf false) (.jmp (.l6 (0:Int)))
def Zhq:Bool→AV:=fun (r:Bool)=>.d .bool r
def Zb8 (a:List Int) (b:List Int):ZeU→Nat×St |.l6 i=>(6,⟨mkTm 26 [(0,.d (.sl (.int .i64)) a),(1,.d (.sl (.int .i64)) b),(5,.d (.int .i64) i)],[]⟩)
theorem Zx6 (a:List Int) (b:List Int) (L:Lt):entryA Go.Proofs.Tryz.prog (clOf ZkU) Zjz Go.Proofs.Tryz.f19 Zhz L (toForms Zcl (a,b,()))=(Zjm a b).run (fun v=>some (Zhq v,tps (toForms Zcl (a,b,())))) fun j=>L (Zb8 a b j).1 (Zb8 a b j).2:=by kernel_rfl
theorem ZxY (a:List Int) (b:List Int):∀(L:Lt) (j:ZeU),procOf (procsF Go.Proofs.Tryz.prog (clOf ZkU) Zjz Go.Proofs.Tryz.f19 Zhz (toForms Zcl (a,b,()))) (Zb8 a b j).1 L (Zb8 a b j).2=(Ze8 a b j).run (fun v=>some (Zhq v,tps (toForms Zcl (a,b,())))) fun j=>L (Zb8 a b j).1 (Zb8 a b j).2 | L,.l6 i=>by kernel_rfl
end
end Go.Ev
end

section
open Go
namespace Go.Ev
theorem ZLK {a b:Int} :(a==b)=decide (a=b):=by rw[Bool.eq_iff_iff];simp
def ZaC (a b:List Int):Bool:=decide (a=b)
def ZaP (a b:List Int):Bool:=decide (a.length < 4611686018427387904)
theorem Zzq (a b:List Int) (hk:ZaP a b=true):Goes (Ze8 a b) (Zjm a b) (ZaC a b):=by
 have hn:a.length < 4611686018427387904:=of_decide_eq_true hk
 have loop:a.length=b.length→∀k,k≤a.length→Goes (Ze8 a b) (.jmp (.l6 (k:Int))) (decide (a.drop k=b.drop k)):=by
  intro he
  refine down ?_ fun k hk ih=>?_
  ·rw[Zi]
   simp[Ze8,Ze,ZS,he]
  ·rw[Zi]
   have hkb:k < b.length:=he▸hk
   simp only[Ze8,Ze,ZR hk,ZR hkb,nng,Bool.and_self,if_true,Int.toNat_natCast,ZH hk,ZH hkb,Zr (k:=k) (by omega)]
   rw[ZO hk,ZO hkb]
   split
   ·rename_i h1
    have h2:(! decide (a[k]=b[k]))=true:=(congrArg Bool.not ZLK).symm.trans h1
    have h3:¬a[k]=b[k]:=by simpa using h2
    rw[decide_eq_false (fun e=>h3 (List.cons.inj e).1)]
    exact .leaf
   ·rename_i h1
    have h2:¬(! decide (a[k]=b[k]))=true:=fun h=>h1 ((congrArg Bool.not ZLK).trans h)
    have h3:a[k]=b[k]:=by simpa using h2
    rw[show decide (a[k] :: List.drop (k+1) a=b[k] :: List.drop (k+1) b)=decide (List.drop (k+1) a=List.drop (k+1) b) from decide_eq_decide.2 ⟨fun e=>(List.cons.inj e).2,fun e=>by rw[h3,e]⟩]
    exact ih
 unfold Zjm ZaC
 rw[Ze]
 by_cases h:a.length=b.length
 ·have:=loop h 0 (Nat.zero_le _)
  simpa[h] using this
 ·have:a≠b:=fun e=>h (congrArg _ e)
  rw[if_pos (by simp;omega),decide_eq_false this]
  exact .leaf
end Go.Ev
end

section
open Go
namespace Go.Ev
theorem ZyJ {n:Nat} {M:Nat→Bool} :(listOf n M).length≤n:=by rw[Zhr];exact Zes
theorem Zrt {n:Nat} {M:Nat→Bool} {x:Int} :(listOf n M).contains x=(decide (0≤x∧x < (n:Int))&&M x.toNat):=by
 rw[Bool.eq_iff_iff,List.contains_iff_mem,Zcm]
 simp only[Bool.and_eq_true,decide_eq_true_eq]
 constructor
 ·rintro ⟨i,h1,h2,rfl⟩;exact ⟨by omega,by rw[Int.toNat_natCast];exact h2⟩
 ·rintro ⟨h1,h2⟩;exact ⟨x.toNat,by omega,h2,by omega⟩
theorem ZLJ {l:List Int} (h:l.length < 1099511627776):ZaP l l=true∧ZaC l l=true:=⟨decide_eq_true (by omega),decide_eq_true rfl⟩
theorem ZL2 {t:List (El Za)} {points:List Int} (h:flowOK t=true) (hp:points.length < 4611686018427387904) (s:Int):
  ZbS t points s=true∧ZaP (ZN t points s) (ZN t points s)=true∧ZaC (ZN t points s) (ZN t points s)=true:=by
 have k1:ZbS t points s=true:=by unfold ZbS;rw[h,decide_eq_true hp];rfl
 have hl:=Zby h
 exact ⟨k1,ZLJ (by unfold ZN;have:= @ZyJ t.length (endsB t points s);omega)⟩
theorem ZMe {t:List (El Za)} {points:List Int} (h:flowOK t=true) (hp:points.length < 4611686018427387904) (s l:Int):
  ZgJ t points s l=true∧ZdD t points s l=(decide (0≤l∧l < (t.length:Int))&&endsB t points s l.toNat):=by
 obtain ⟨k1,_⟩:=ZL2 h hp s
 have hl:=Zby h
 have ki:ZaD (ZN t points s) l=true:=decide_eq_true (by unfold ZN;have:= @ZyJ t.length (endsB t points s);omega)
 have vr:ZdD t points s l=(decide (0≤l∧l < (t.length:Int))&&endsB t points s l.toNat):=by
  unfold ZdD Z9 ZaK
  rw[k1,ki]
  simp only[cond_true]
  unfold ZaZ
  rw[ZHe]
  unfold ZN
  exact Zrt
 refine ⟨?_,vr⟩
 unfold ZgJ Z9;rw[k1,ki];rfl
end Go.Ev
end

section
namespace Go.Ev
open Go
def listFrom:Nat→List Bool→List Int
 | _,[]=>[]
 | k,b :: r=>if b then (k:Int) :: listFrom (k+1) r else listFrom (k+1) r
theorem ZrV:∀ {l:List Bool} {k:Nat} {x:Int},x∈listFrom k l↔∃i,l[i]? =some true∧x=((k+i:Nat):Int)
 | [],k,x=>by simp[listFrom]
 | b :: r,k,x=>by
  have ih:= @ZrV r (k+1) x
  unfold listFrom
  constructor
  ·intro h
   cases b with
   | true=>
    rw[if_pos rfl] at h
    rcases List.mem_cons.1 h with rfl | h
    ·exact ⟨0,rfl,by simp⟩
    ·obtain ⟨i,h1,h2⟩:=ih.1 h
     exact ⟨i+1,by simpa using h1,by rw[h2];omega⟩
   | false=>
    rw[if_neg (by decide)] at h
    obtain ⟨i,h1,h2⟩:=ih.1 h
    exact ⟨i+1,by simpa using h1,by rw[h2];omega⟩
  ·rintro ⟨i,h1,h2⟩
   cases i with
   | zero=>
    have hb:b=true:=by simpa using h1
    subst hb
    rw[if_pos rfl,h2]
    exact List.mem_cons_self ..
   | succ i=>
    have:=ih.2 ⟨i,by simpa using h1,by rw[h2];omega⟩
    split
    ·exact List.mem_cons_of_mem _ this
    ·exact this
end Go.Ev
end

section
namespace Go.Ev
open Go
end Go.Ev
end

section
open Go
namespace Go.Ev
theorem ZKm {t:List (El Za)} {points:List Int} (h:flowOK t=true) (hp:points.length < 4611686018427387904) (s l:Int):
  ZgJ t points s l=true∧Zis t points s l=true∧Zie t points s l=ZdD t points s l∧ZdD t points s l=(decide (0≤l∧l < (t.length:Int))&&endsB t points s l.toNat):=by
 have hl:=Zby h
 have k4:ZeI t points s=true:=by unfold ZeI;rw[h,decide_eq_true hp];rfl
 obtain ⟨kr,vr⟩:=ZMe h hp s l
 refine ⟨kr,?_,?_,vr⟩
 ·unfold Zis
  by_cases h0:l≥0
  ·rw[decide_eq_true h0,cond_true]
   by_cases h1:l < Int.ofNat t.length
   ·have h2:decide (l < Int.ofNat (Zal t points s).length)=true:=by
     unfold Zal
     rw[ZJ];exact decide_eq_true h1
    simp only[decide_eq_true h1,k4,h2,Bool.and_self,Bool.true_and,cond_true]
   ·rw[decide_eq_false h1];rfl
  ·rw[decide_eq_false h0];rfl
 ·rw[vr]
  unfold Zie
  by_cases h0:l≥0
  ·rw[decide_eq_true h0,cond_true]
   by_cases h1:l < Int.ofNat t.length
   ·have h2:decide (l < Int.ofNat (Zal t points s).length)=true:=by
     unfold Zal
     rw[ZJ];exact decide_eq_true h1
    simp only[decide_eq_true h1,k4,h2,Bool.and_self,Bool.true_and,cond_true]
    rw[decide_eq_true (show 0≤l∧l < (t.length:Int) from ⟨h0,h1⟩),Bool.true_and]
    unfold Zal
    obtain ⟨j,rfl⟩:=Int.eq_ofNat_of_zero_le h0
    rw[Int.toNat_natCast,Zbs (by have:(j:Int) < (t.length:Int):=h1;omega)]
   ·rw[decide_eq_false h1,decide_eq_false (show ¬(0≤l∧l < (t.length:Int)) from fun h=>h1 h.2)];rfl
  ·rw[decide_eq_false h0,decide_eq_false (show ¬(0≤l∧l < (t.length:Int)) from fun h=>h0 h.1)];rfl
end Go.Ev
end

section
open Go
namespace Go.Ev
end Go.Ev
end

section
open Go
namespace Go.Ev
def fromX (t:List (El Za)) (i:Int) (j:Nat):Bool:=(comeL (fun k j=>nextB t (k:Int) j) (nextB t i) t.length).getD j false
theorem ZKh (t:List (El Za)) (i:Int) (j:Nat):fromB t i j=fromX t i j:=ZE2 (fun j=>Zem) (fun k j=>Zem) j
def behX (p:El Zc) (l:List Acc) (c d:Nat):Bool:=
 decide (d < l.length)&&(thA l d==thA l c&&(d==c || ((inA l d==inA l c&&decide (paA l d > paA l c)) || (decide (0≤inA l d)&&fromX (thrOf p l c) (inA l c) (inA l d).toNat))))
theorem ZOj (p:El Zc) (l:List Acc) (c d:Nat):behB p l c d=behX p l c d:=by
 unfold behB behX
 rw[ZKh]
def chX (p:El Zc) (l:List Acc) (a i k:Nat):Bool:=decide (k < l.length)&&(!(thA l k==thA l a)&&(clB l i k || behX p l i k))
def isX (p:El Zc) (l:List Acc) (a k:Nat):Bool:=(comeL (chX p l a) (chS l a) l.length).getD k false
theorem ZPc (p:El Zc) (l:List Acc) (a k:Nat):isB p l a k=isX p l a k:=by
 have e:chB p l a=chX p l a:=by
  funext i k
  unfold chB chX
  rw[ZOj]
 unfold isB isX
 rw[e]
 refine ZE2 (fun j h=>?_) (fun k j h=>?_) k
 ·unfold chS at h
  rw[Bool.and_eq_true,decide_eq_true_eq] at h
  exact h.1
 ·unfold chX at h
  rw[Bool.and_eq_true,decide_eq_true_eq] at h
  exact h.1
def backX (p:El Zc) (l:List Acc) (a b:Nat):Bool:=thA l b==thA l a&&(List.range l.length).any fun k=>isX p l a k&&clB l k b
theorem ZNO (p:El Zc) (l:List Acc) (a b:Nat):backB p l a b=backX p l a b:=by
 unfold backB backX
 simp only[ZPc]
end Go.Ev
end

section
open Go
namespace Go.Ev
theorem ZKe (p:El Zc):(ZA p).length≤(ofC p).length*(ofC p).length:=by
 unfold ZA delsFrom
 have:=Zpr (ZKk p (ofC p)) (List.range' 0 ((ofC p).length - 0))
 rw[List.length_range',Nat.sub_zero] at this
 exact this
theorem ZES {p:El Zc} {x:El Zd} (h:x∈ZA p):∃s r,s < (ofC p).length∧r < (ofC p).length∧stB' (ofC p) s=true∧delB p (ofC p) s r=true∧x=delPair (ofC p) s r:=by
 unfold ZA delsFrom at h
 obtain ⟨s,hs,hx⟩:=List.mem_flatMap.1 h
 rw[Nat.sub_zero,←List.range_eq_range'] at hs
 unfold delS at hx
 split at hx
 ·rename_i hst
  obtain ⟨r,hr,rfl⟩:=List.mem_map.1 hx
  obtain ⟨hr1,hr2⟩:=List.mem_filter.1 hr
  rw[←List.range_eq_range'] at hr1
  exact ⟨s,r,List.mem_range.1 hs,List.mem_range.1 hr1,hst,hr2,rfl⟩
 ·cases hx
theorem Zzg {p:El Zc} (h:smallAll p=true) {x:El Zd} (hx:x∈ZA p):openK p x=true∧openRK p x=true∧openR p x=openB p x:=by
 obtain ⟨s,r,hs,hr,h1,h2,rfl⟩:=ZES hx
 obtain ⟨t0,t1,hf,i0,i1⟩:=Zf3 h hs
 have hf':flowOK (List.getD p.2 (Int.toNat (delPair (ofC p) s r).1) (dflt (.sl Za)))=true:=hf
 obtain ⟨f1,f2,f3,_⟩:=ZKm hf' (points:=[]) (by decide) (delPair (ofC p) s r).2.1 (delPair (ofC p) s r).2.2
 have hin:(decide ((0:Int)≤(delPair (ofC p) s r).1)&&decide ((delPair (ofC p) s r).1 < Int.ofNat (List.length p.2)))=true:=by
  rw[Bool.and_eq_true,decide_eq_true_eq,decide_eq_true_eq];exact ⟨t0,t1⟩
 unfold openK openRK openR openB
 rw[hin,f1,f2]
 exact ⟨rfl,rfl,f3⟩
theorem ZLA {p:El Zc} (h:smallAll p=true) (hN:(ofC p).length≤20000) (hT:p.2.length≤100):
  Z2 p=true∧ZbZ p=true∧ZA p=Zl p∧Zqt (Zl p) (Zl p)=true∧Zbp p=true∧Ze9 p=true∧Zan p=Zv p∧Zqt (Zv p) (Zv p)=true:=by
 have hNN:(ofC p).length*(ofC p).length≤20000*20000:=Nat.mul_le_mul hN hN
 have hTN:p.2.length*((ofC p).length*(ofC p).length)≤100*(20000*20000):=Nat.mul_le_mul hT hNN
 have k1:Z2 p=true:=by
  unfold Z2
  rw[h,decide_eq_true (show (ofC p).length < 1000000000 by omega),decide_eq_true (show p.2.length < 1000000000 by omega),decide_eq_true]
  ·rfl
  ·unfold limit;omega
 have k2:ZbZ p=true:=by unfold ZbZ;rw[h,decide_eq_true (show (ofC p).length < 1000000 by omega)];rfl
 have e:=ZMK k1
 have hl:=ZKe p
 have hl2:(ZA p).length≤400000000:=by omega
 have k3:Zbp p=true:=by
  unfold Zbp
  rw[k1,e,decide_eq_true (Nat.lt_of_le_of_lt hl2 (by decide)),Bool.true_and,Bool.true_and]
  exact List.all_eq_true.2 fun x hx=>(Zzg h hx).1
 have k4:Ze9 p=true:=by
  unfold Ze9
  rw[k2,decide_eq_true (Nat.lt_of_le_of_lt hl2 (by decide)),Bool.true_and,Bool.true_and]
  exact List.all_eq_true.2 fun x hx=>(Zzg h hx).2.1
 have e2:Zan p=Zv p:=by
  unfold Zan Zv
  rw[e]
  exact List.filter_congr fun x hx=>(Zzg h hx).2.2
 refine ⟨k1,k2,e.symm,decide_eq_true (by rw[e];exact Nat.lt_of_le_of_lt hl2 (by decide)),k3,k4,e2,decide_eq_true ?_⟩
 have:(Zv p).length≤(Zl p).length:=by unfold Zv;exact List.length_filter_le _ _
 rw[e] at this
 exact Nat.lt_of_le_of_lt (Nat.le_trans this hl2) (by decide)
def delBX (p:El Zc) (l:List Acc) (s r:Nat):Bool:=((thA l r==thA l s)&&ldB' l r)&&(fromX (thrOf p l s) (inA l s) (inA l r).toNat&&backX p l r s)
def delsX (p:El Zc) (l:List Acc):List (El Zd):=(List.range' 0 l.length).flatMap fun s=>if stB' l s then ((List.range' 0 l.length).filter fun r=>delBX p l s r).map (delPair l s) else []
theorem ZN5 (p:El Zc):ZA p=delsX p (ofC p):=by
 unfold ZA delsFrom delsX delS
 rw[Nat.sub_zero]
 have:∀l s r,delB p l s r=delBX p l s r:=fun l s r=>by unfold delB delBX;rw[ZKh,ZNO]
 simp only[this]
def endsX (t:List (El Za)) (points:List Int) (s:Int) (j:Nat):Bool:=(comeL (stepB t points) (firstB t points s) t.length).getD j false
theorem ZKz (t:List (El Za)) (points:List Int) (s:Int) (j:Nat):endsB t points s j=endsX t points s j:=ZE2 (fun j=>ZGF) (fun k j=>ZEn) j
end Go.Ev
end

section
namespace Go.Ev
open Go
theorem ZrM {zs:List Int} {j:Nat} (h:j < zs.length):zs.toArray[j]! =zs[j]:=by simp[h]
theorem ZJg {zs:List Int} {x:Int} :x∈Go.Lib.compact zs↔x∈zs:=by
 unfold Go.Lib.compact Go.Lib.compactUpTo
 rw[List.mem_map]
 constructor
 ·rintro ⟨j,hj,rfl⟩
  obtain ⟨h1,_⟩:=List.mem_filter.1 hj
  have hj:=List.mem_range.1 h1
  rw[ZrM hj]
  exact List.getElem_mem hj
 ·intro hx
  obtain ⟨j,hj,he⟩:=List.mem_iff_getElem.1 hx
  induction j using Nat.strongRecOn with
  | _ j ih=>
  by_cases hk:Go.Lib.keeps zs.toArray j=true
  ·exact ⟨j,List.mem_filter.2 ⟨List.mem_range.2 hj,hk⟩,by rw[ZrM hj,he]⟩
  ·unfold Go.Lib.keeps at hk
   simp only[ne_eq,decide_eq_true_eq,not_or,Decidable.not_not] at hk
   obtain ⟨h0,h1⟩:=hk
   have hj':j - 1 < zs.length:=by omega
   rw[ZrM hj,ZrM hj'] at h1
   exact ih (j - 1) (by omega) hj' (h1▸he)
theorem ZAY {zs:List Int} (h:zs.Pairwise (· ≤ ·)):(Go.Lib.compact zs).Pairwise (· < ·):=by
 unfold Go.Lib.compact Go.Lib.compactUpTo
 have hg:=List.pairwise_iff_getElem.1 h
 refine List.pairwise_map.2 ((List.Pairwise.filter _ List.pairwise_lt_range).imp_of_mem ?_)
 intro i j hi hj hij
 obtain ⟨h1,_⟩:=List.mem_filter.1 hi
 obtain ⟨h2,h3⟩:=List.mem_filter.1 hj
 have hi:=List.mem_range.1 h1
 have hj:=List.mem_range.1 h2
 have hj':j - 1 < zs.length:=by omega
 unfold Go.Lib.keeps at h3
 simp only[ne_eq,decide_eq_true_eq] at h3
 rw[ZrM hi,ZrM hj]
 rw[ZrM hj,ZrM hj'] at h3
 have a1:zs[i]≤zs[j - 1]:=by
  by_cases e:i=j - 1
  ·subst e;exact Int.le_refl _
  ·exact hg i (j - 1) hi hj' (by omega)
 have a2:zs[j - 1]≤zs[j]:=hg (j - 1) j hj' hj (by omega)
 rcases h3 with h3 | h3
 ·omega
 ·have:zs[j]≠zs[j - 1]:=h3
  omega
@[reducible] def risL (l:List Int):List Int:=Go.Lib.compact (sorted l)
theorem ZMf (l:List Int):(sorted l).Pairwise (· ≤ ·):=by
 have:=List.pairwise_mergeSort (le:=fun x y:Int=>decide (x≤y)) (fun a b c h1 h2=>by simp at*;omega) (fun a b=>by simp;omega) l
 exact this.imp fun h=>by simpa using h
theorem ZKs {l:List Int} {x:Int} :x∈risL l↔x∈l:=by rw[ZJg,List.mem_mergeSort]
theorem ZyY {l:List Int} :(risL l).Pairwise (· < ·):=ZAY (ZMf l)
theorem ZNz {l:List Int} :(risL l).length≤l.length:=by
 have:=Go.Lib.compact_length_le (sorted l)
 rwa[List.length_mergeSort] at this
def putL (n:Int):List Int→List Int
 | []=>[n]
 | x :: r=>if x < n then x :: putL n r else if x=n then x :: r else n :: x :: r
theorem ZC0 {n x:Int} :∀ {l:List Int},x∈putL n l↔x=n∨x∈l
 | []=>by simp[putL]
 | y :: r=>by
  unfold putL
  split
  ·rw[List.mem_cons,ZC0,List.mem_cons]
   constructor
   ·rintro (h | h | h) <;> simp[h]
   ·rintro (h | h | h) <;> simp[h]
  ·split
   ·rename_i h
    subst h
    simp
   ·simp
theorem ZzO {n:Int} :∀ {l:List Int},l.Pairwise (· < ·)→(putL n l).Pairwise (· < ·)
 | [],_=>by simp[putL]
 | y :: r,h=>by
  obtain ⟨h1,h2⟩:=List.pairwise_cons.1 h
  unfold putL
  split
  ·refine List.pairwise_cons.2 ⟨fun z hz=>?_,ZzO h2⟩
   rcases ZC0.1 hz with rfl | hz
   ·assumption
   ·exact h1 z hz
  ·split
   ·exact h
   ·refine List.pairwise_cons.2 ⟨fun z hz=>?_,h⟩
    rcases List.mem_cons.1 hz with rfl | hz
    ·omega
    ·have:=h1 z hz;omega
def putsL (acc:List Int) (l:List Int):List Int:=l.foldl (fun a n=>putL n a) acc
theorem Zv8 {x:Int} :∀ {l acc:List Int},x∈putsL acc l↔x∈acc∨x∈l
 | [],acc=>by simp[putsL]
 | n :: r,acc=>by
  show x∈putsL (putL n acc) r↔_
  rw[Zv8,ZC0,List.mem_cons]
  constructor
  ·rintro ((h | h) | h) <;> simp[h]
  ·rintro (h | h | h) <;> simp[h]
theorem ZmG:∀ {l acc:List Int},acc.Pairwise (· < ·)→(putsL acc l).Pairwise (· < ·)
 | [],acc,h=>h
 | n :: r,acc,h=>ZmG (l:=r) (ZzO h)
end Go.Ev
end

section
open Go
namespace Go.Ev
section
variable {α:Type} (U:List Int→α→Bool)
def stepG (pts:List Int) (l:List α) (acc:Int×List α) (k:Nat):Int×List α:=if (l.filter (U (pts++[(k:Int)]))).length < acc.2.length then ((k:Int),l.filter (U (pts++[(k:Int)]))) else acc
def bestFrom (n:Nat) (pts:List Int) (l:List α) (k:Nat) (acc:Int×List α):Int×List α:=(List.range' k (n - k)).foldl (stepG U pts l) acc
def bestG (n:Nat) (pts:List Int) (l:List α):Int×List α:=bestFrom U n pts l 0 (0,l)
def greedyL (n:Nat):Nat→List Int→List α→List Int
 | 0,pts,_=>pts
 | f+1,pts,l=>if l.length=0 then pts else greedyL n f (pts++[(bestG U n pts l).1]) (bestG U n pts l).2
def pruneL (all:List α):List Int→List Int→List Int
 | done,[]=>done
 | done,x :: r=>if (all.filter (U (done++r))).length=0 then pruneL all done r else pruneL all (done++[x]) r
variable {U}
theorem ZxE {n:Nat} {pts:List Int} {l:List α} {acc:Int×List α} :bestFrom U n pts l n acc=acc:=by unfold bestFrom;rw[Nat.sub_self];rfl
theorem ZvF {n:Nat} {pts:List Int} {l:List α} {k:Nat} (hk:k < n) {acc:Int×List α} :bestFrom U n pts l k acc=bestFrom U n pts l (k+1) (stepG U pts l acc k):=by
 unfold bestFrom
 rw[show n - k=(n - (k+1))+1 by omega,List.range'_succ,List.foldl_cons]
theorem ZGX {n:Nat} {pts:List Int} {l:List α} :∀(m k:Nat),k+m=n→∀acc:Int×List α,
  ((bestFrom U n pts l k acc)=acc∨∃j:Nat,k≤j∧j < n∧(bestFrom U n pts l k acc).1=(j:Int)∧(bestFrom U n pts l k acc).2=l.filter (U (pts++[(j:Int)]))∧(bestFrom U n pts l k acc).2.length < acc.2.length)∧
  (bestFrom U n pts l k acc).2.length≤acc.2.length∧∀j:Nat,k≤j→j < n→(bestFrom U n pts l k acc).2.length≤(l.filter (U (pts++[(j:Int)]))).length:=by
 intro m
 induction m with
 | zero=>
  intro k hk acc
  have:k=n:=by omega
  subst this
  rw[ZxE]
  exact ⟨.inl rfl,Nat.le_refl _,fun j h1 h2=>by omega⟩
 | succ m ih=>
  intro k hk acc
  rw[ZvF (by omega)]
  obtain ⟨h1,h2,h3⟩:=ih (k+1) (by omega) (stepG U pts l acc k)
  unfold stepG at h1 h2 h3 ⊢
  by_cases hc:(l.filter (U (pts++[(k:Int)]))).length < acc.2.length
  ·rw[if_pos hc] at h1 h2 h3 ⊢
   refine ⟨.inr ?_,by simp only at h2;omega,fun j j1 j2=>?_⟩
   ·rcases h1 with h1 | ⟨j,j1,j2,j3,j4,j5⟩
    ·rw[h1];exact ⟨k,Nat.le_refl _,by omega,rfl,rfl,hc⟩
    ·exact ⟨j,by omega,j2,j3,j4,by simp only at j5;omega⟩
   ·by_cases e:j=k
    ·subst e;exact h2
    ·exact h3 j (by omega) j2
  ·rw[if_neg hc] at h1 h2 h3 ⊢
   refine ⟨?_,h2,fun j j1 j2=>?_⟩
   ·rcases h1 with h1 | ⟨j,j1,j2,j3⟩
    ·exact .inl h1
    ·exact .inr ⟨j,by omega,j2,j3⟩
   ·by_cases e:j=k
    ·subst e;omega
    ·exact h3 j (by omega) j2
def Cuts (U:List Int→α→Bool) (n:Nat) (l:List α):Prop:=∀x∈l,∃k:Nat,k < n∧∀pts:List Int,U (pts++[(k:Int)]) x=false
theorem ZMD {p:α→Bool} {l:List α} {x:α} (hx:x∈l) (hp:p x=false):(l.filter p).length < l.length:=by
 induction l with
 | nil=>cases hx
 | cons y r ih=>
  rw[List.filter_cons]
  rcases List.mem_cons.1 hx with rfl | hx
  ·rw[hp,if_neg Bool.false_ne_true]
   have:=List.length_filter_le p r
   show (List.filter p r).length < r.length+1
   omega
  ·have:=ih hx
   split
   ·show (List.filter p r).length+1 < r.length+1
    omega
   ·show (List.filter p r).length < r.length+1
    omega
theorem ZKP {n:Nat} {pts:List Int} {l:List α} (hc:Cuts U n l) (hl:0 < l.length):
  ∃j:Nat,j < n∧(bestG U n pts l).1=(j:Int)∧(bestG U n pts l).2=l.filter (U (pts++[(j:Int)]))∧(bestG U n pts l).2.length < l.length:=by
 obtain ⟨h1,h2,h3⟩:=ZGX (U:=U) (n:=n) (pts:=pts) (l:=l) n 0 (by omega) (0,l)
 have hx:l[0]∈l:=List.getElem_mem hl
 obtain ⟨k,hk,hU⟩:=hc _ hx
 have h4:=h3 k (Nat.zero_le _) hk
 have h5:=ZMD hx (hU pts)
 unfold bestG
 rcases h1 with h1 | ⟨j,_,j2,j3,j4,j5⟩
 ·rw[h1] at h4
  simp only at h4
  omega
 ·exact ⟨j,j2,j3,j4,j5⟩
theorem ZNX {n:Nat} {l m:List α} (h:Cuts U n l) (hs:∀x∈m,x∈l):Cuts U n m:=fun x hx=>h x (hs x hx)
end
end Go.Ev
end

section
open Go
namespace Go.Ev
abbrev PairD:=El Zd
theorem ZJO {a b:Nat} (h:a < b):decide (Int.ofNat a < Int.ofNat b)=true:=decide_eq_true (Int.ofNat_lt.2 h)
theorem ZEO {a b:Nat} (h:¬a < b):decide (Int.ofNat a < Int.ofNat b)=false:=decide_eq_false fun h'=>h (Int.ofNat_lt.1 h')
theorem ZAa {y:Int} {n:Nat} (h0:0≤y) (h:y < (n:Int)):y.toNat < n:=by omega
noncomputable def uB (t:List (El Za)) (pts:List Int) (x:PairD):Bool:=decide ((0:Int)≤x.2.2∧(show Int from x.2.2) < (t.length:Int))&&endsB t pts x.2.1 (Int.toNat x.2.2)
def uX (t:List (El Za)) (pts:List Int) (x:PairD):Bool:=decide ((0:Int)≤x.2.2∧(show Int from x.2.2) < (t.length:Int))&&endsX t pts x.2.1 (Int.toNat x.2.2)
theorem ZOg (t:List (El Za)):uB t=uX t:=by
 funext pts x
 unfold uB uX
 rw[ZKz]
theorem ZOn {t:List (El Za)} {pts:List Int} {x:PairD} (h:(show Int from x.2.2)∈pts):uB t pts x=false:=by
 unfold uB
 by_cases hr:(0:Int)≤x.2.2∧(show Int from x.2.2) < (t.length:Int)
 ·rw[decide_eq_true hr,Bool.true_and,Bool.eq_false_iff]
  intro he
  unfold endsB at he
  have hc:∀j,pts.contains ((j:Nat):Int)=true→firstB t pts x.2.1 j=false∧∀k,stepB t pts k j=false:=fun j hj=>by
   unfold firstB stepB
   rw[hj]
   simp
  have hj:pts.contains (((Int.toNat x.2.2:Nat)):Int)=true:=by
   rw[List.contains_iff_mem,Int.toNat_of_nonneg hr.1]
   exact h
  cases ZdQ.1 he with
  | start h=>rw[(hc _ hj).1] at h;cases h
  | step _ h=>rw[(hc _ hj).2] at h;cases h
 ·rw[decide_eq_false hr,Bool.false_and]
theorem ZOq (l:List Int):risL l=putsL [] l:=ZnM ZyY (ZmG .nil) fun x=>by rw[ZKs,Zv8];simp
def ofB (t:Int) (x:PairD):Bool:=(show Int from x.1)==t
def missL (U:List Int→PairD→Bool) (pts:List Int) (l:List PairD):List PairD:=l.filter (U pts)
def inR (n:Nat) (k:Int):Bool:=decide (0≤k)&&decide (k < (n:Int))
def pruneV (U:List Int→PairD→Bool) (n:Nat) (all:List PairD) (pts:List Int):List Int:=pruneL U all [] (putsL [] (pts.filter (inR n)))
def greedyV (U:List Int→PairD→Bool) (n:Nat) (l:List PairD):List Int:=putsL [] (greedyL U n l.length [] l)
def shorter (a b:List Int):List Int:=if b.length < a.length then b else a
def pointsV (U:List Int→PairD→Bool) (n:Nat) (all op:List PairD):List Int:=
 shorter (shorter (pruneV U n all (greedyV U n op)) (pruneV U n all (op.map fun x=>(show Int from x.2.1)+1))) (pruneV U n all (op.map fun x=>x.2.2))
def cutOK (p:El Zc):Bool:=smallAll p&&(decide ((ofC p).length≤20000)&&decide (p.2.length≤100))
def thrT (p:El Zc) (t:Int):List (El Za):=List.getD p.2 (Int.toNat t) (dflt (.sl Za))
def rightT (p:El Zc) (t:Int):Bool:=decide ((0:Int)≤t)&&(decide (t < (p.2.length:Int))&&decide (checkC p=0))
end Go.Ev
end

section
open Go
namespace Go.Ev
def Zas (l:List (El Zd)) (t:Int):List (El Zd):=l.filter (ofB t)
def Zek (l:List (El Zd)) (t:Int):Bool:=decide (l.length < 1000000000000)
theorem ZNg (l:List (El Zd)) (t:Int) (hk:Zek l t=true):Goes (ZvS l t) (ZF8 l t) (Zas l t):=by
 have hN:=of_decide_eq_true hk
 have loop:∀k,k≤l.length→∀out:List (El Zd),out.length≤k→Goes (ZvS l t) (.jmp (.l4 (k:Int) out)) (out++(l.drop k).filter (ofB t)):=by
  refine down ?_ fun k hk ih=>?_
  ·intro out ho
   rw[Zi,ZvS,Ze,if_neg (by rw[Zw (Nat.lt_irrefl _)];decide),List.drop_length]
   simp only[List.filter_nil,List.append_nil]
   exact .leaf
  ·intro out ho
   have b1:Nat.ble ((out.length+1)*24) limit=true:=Nat.ble_eq_true_of_le (by unfold limit;omega)
   rw[Zi,ZvS,ZO hk,List.filter_cons]
   simp only[Ze,ZR hk,nng,Bool.and_self,if_true,Int.toNat_natCast,ZH hk,b1,Zr (k:=k) (by omega)]
   by_cases c:ofB t l[k]=true
   ·have c':=c
    unfold ofB at c'
    rw[if_pos c',if_pos c]
    have:=ih (out++[l[k]]) (by simp;omega)
    rw[List.append_assoc] at this
    exact this
   ·have c':=c
    unfold ofB at c'
    rw[if_neg c',if_neg c]
    exact ih out (by omega)
 have:=loop 0 (Nat.zero_le _) [] (Nat.zero_le _)
 rw[List.nil_append,List.drop_zero] at this
 exact this
end Go.Ev
end

section
open Go Go.Ev
namespace Go.Ev
noncomputable section
noncomputable def Zyy:Run:=entG ZnW Zyt (fun a=>Zek a.1 a.2.1) (fun a=>Zas a.1 a.2.1)
theorem ZyM:EntOK Go.Proofs.Tryz.prog 32 Zyy:=ZM (tb:=ZzT) (c:=Zyw) ZLL (by kernel_rfl) (by kernel_rfl) (by kernel_rfl) (fun a=>by kernel_rfl) fun ⟨l,t,_⟩ hk=>Zm (c:=Zyw) (K:=fun v=>(Zyt v,tps (toForms ZnW (l,t,())))) (S:=Zor l t) (by kernel_rfl) (ZLT l t) (ZLU l t) (ZNg l t hk)
end
end Go.Ev
end

section
open Go Go.Ev
namespace Go.Ev
def renClo:Go.Shelf.Ren:=⟨fun n=>if n=15 then 57 else n,
 fun n=>if n=22 then 36 else n,
 fun n=>n⟩
theorem Zt9:Go.Proofs.Lays2.n15 Go.Proofs.Tryz.prog renClo where
 mixed:=by kernel_rfl
 f15:=by kernel_rfl
 t3:=by kernel_rfl
 a3:=fun w=>by kernel_rfl
 z3:=fun w=>by kernel_rfl
 v3:=fun w=>by kernel_rfl
 t4:=by kernel_rfl
 a4:=fun w=>by kernel_rfl
 z4:=fun w=>by kernel_rfl
 v4:=fun w=>by kernel_rfl
 t22:=by kernel_rfl
 a22:=fun w=>by kernel_rfl
 z22:=fun w=>by kernel_rfl
 v22:=fun w=>by kernel_rfl
 i3:=by kernel_rfl
theorem cloOK:CloneOK Go.Proofs.Tryz.prog 57 3:=⟨fun b off n c zs w h1 h2 h3=>Go.Proofs.Any.slices_Clone_int Zt9 b off n c zs w h1 h2 h3,fun n c w=>Go.Proofs.Any.slices_Clone_int_nil Zt9 n c w,fun a c w=>Go.Proofs.Any.slices_Clone_int_zero Zt9 a c w⟩
noncomputable section
def ZlG:Sig:=[(false,.sl (.int .i64))]
def ZK (l:List Int):List Int:=l
def Za4 (l:List Int):Bool:=decide (l.length*8≤140737488355328)
def Zni:List Int→AV:=fun r=>.rw 3 (.int .i64) r
def ZcI:Run:=entG ZlG Zni (fun a=>Za4 a.1) (fun a=>ZK a.1)
theorem ZfR:EntOK Go.Proofs.Tryz.prog 57 ZcI:=Zzf (ZiX (fn:=Go.Proofs.Tryz.f57) (c:=Go.Proofs.Tryz.f57.body.getD .skip) (by kernel_rfl) (by kernel_rfl) (by kernel_rfl)) fun a h=>ZLn cloOK a.1 (of_decide_eq_true h)
end
end Go.Ev
end

section
open Go Go.Ev
namespace Go.Ev
noncomputable section
def Zb4:Sig:=[(false,(.int .i64))]
noncomputable def Zjq:Tbl:=[]
theorem Zwg:∀p∈Zjq,EntOK Go.Proofs.Tryz.prog p.1 p.2:=Zu
noncomputable def Zgc:Code:=Go.Proofs.Tryz.f111.body.getD .skip
def Ziq:Tb:=[]
def Zqp (x:Int):Empty→JT Empty (Bool):=fun j=>nomatch j
def Zn2 (x:Int):JT Empty (Bool):=.leaf (x !=x)
def ZbT (x:Int):Bool:=(x !=x)
theorem Zyl (x:Int):Goes (Zqp x) (Zn2 x) (ZbT x):=Goes.leaf
def Zga:Bool→AV:=fun (r:Bool)=>.d .bool r
def ZbX (x:Int):Empty→Nat×St:=fun j=>nomatch j
theorem Zwv (x:Int) (L:Lt):entryA Go.Proofs.Tryz.prog (clOf Zjq) Ziq Go.Proofs.Tryz.f111 Zgc L (toForms Zb4 (x,()))=(Zn2 x).run (fun v=>some (Zga v,tps (toForms Zb4 (x,())))) fun j=>L (ZbX x j).1 (ZbX x j).2:=by kernel_rfl
theorem ZwF (x:Int):∀(L:Lt) (j:Empty),procOf (procsF Go.Proofs.Tryz.prog (clOf Zjq) Ziq Go.Proofs.Tryz.f111 Zgc (toForms Zb4 (x,()))) (ZbX x j).1 L (ZbX x j).2=(Zqp x j).run (fun v=>some (Zga v,tps (toForms Zb4 (x,())))) fun j=>L (ZbX x j).1 (ZbX x j).2:=fun L j=>nomatch j
noncomputable def Zqo:Run:=entT Zb4 Zga (fun a=>ZbT a.1)
theorem Zwk:EntOK Go.Proofs.Tryz.prog 111 Zqo:=Zat (tb:=Ziq) (c:=Zgc) Zwg (by kernel_rfl) (by kernel_rfl) (by kernel_rfl) (fun a=>by kernel_rfl) fun ⟨x,_⟩=>Zm (c:=Zgc) (K:=fun v=>(Zga v,tps (toForms Zb4 (x,())))) (S:=ZbX x) (by kernel_rfl) (Zwv x) (ZwF x) (Zyl x)
end
end Go.Ev
end

section
open Go Go.Ev
namespace Go.Ev
noncomputable section
def Zcr:Sig:=[(false,(.int .i64)),(false,(.int .i64))]
noncomputable def Zk9:Tbl:=[(111,Zqo)]
theorem Zyn:∀p∈Zk9,EntOK Go.Proofs.Tryz.prog p.1 p.2:=Zg Zwk (Zu)
noncomputable def Zhv:Code:=Go.Proofs.Tryz.f90.body.getD .skip
def Zjy:Tb:=[]
def Zsa (x:Int) (y:Int):Empty→JT Empty (Bool):=fun j=>nomatch j
def Zqn (x:Int) (y:Int):JT Empty (Bool):=.br (ZbT x) (.br (! (ZbT y)) (.leaf true) (.leaf (decide (x < y)))) (.leaf (decide (x < y)))
def ZeP (x:Int) (y:Int):Bool:=bif (ZbT x) then bif (! (ZbT y)) then true else (decide (x < y)) else (decide (x < y))
theorem ZAs (x:Int) (y:Int):Goes (Zsa x y) (Zqn x y) (ZeP x y):=Goes.br (Goes.br (Goes.leaf) (Goes.leaf)) (Goes.leaf)
def ZhU:Bool→AV:=fun (r:Bool)=>.d .bool r
def Zca (x:Int) (y:Int):Empty→Nat×St:=fun j=>nomatch j
theorem Zx7 (x:Int) (y:Int) (L:Lt):entryA Go.Proofs.Tryz.prog (clOf Zk9) Zjy Go.Proofs.Tryz.f90 Zhv L (toForms Zcr (x,y,()))=(Zqn x y).run (fun v=>some (ZhU v,tps (toForms Zcr (x,y,())))) fun j=>L (Zca x y j).1 (Zca x y j).2:=by kernel_rfl
theorem Zya (x:Int) (y:Int):∀(L:Lt) (j:Empty),procOf (procsF Go.Proofs.Tryz.prog (clOf Zk9) Zjy Go.Proofs.Tryz.f90 Zhv (toForms Zcr (x,y,()))) (Zca x y j).1 L (Zca x y j).2=(Zsa x y j).run (fun v=>some (ZhU v,tps (toForms Zcr (x,y,())))) fun j=>L (Zca x y j).1 (Zca x y j).2:=fun L j=>nomatch j
noncomputable def Zru:Run:=entT Zcr ZhU (fun a=>ZeP a.1 a.2.1)
theorem ZxZ:EntOK Go.Proofs.Tryz.prog 90 Zru:=Zat (tb:=Zjy) (c:=Zhv) Zyn (by kernel_rfl) (by kernel_rfl) (by kernel_rfl) (fun a=>by kernel_rfl) fun ⟨x,y,_⟩=>Zm (c:=Zhv) (K:=fun v=>(ZhU v,tps (toForms Zcr (x,y,())))) (S:=Zca x y) (by kernel_rfl) (Zx7 x y) (Zya x y) (ZAs x y)
end
end Go.Ev
end

section
open Go Go.Ev
namespace Go.Ev
noncomputable section
def Zbo:Sig:=[(false,(.int .i64))]
noncomputable def Zgt:Tbl:=[]
theorem ZsX:∀p∈Zgt,EntOK Go.Proofs.Tryz.prog p.1 p.2:=Zu
noncomputable def Zdp:Code:=Go.Proofs.Tryz.f91.body.getD .skip
def ZfT:Tb:=[]
def Zk1 (x:Int):Empty→JT Empty (Bool):=fun j=>nomatch j
def ZjE (x:Int):JT Empty (Bool):=.leaf (x !=x)
def Zbv (x:Int):Bool:=(x !=x)
theorem ZtS (x:Int):Goes (Zk1 x) (ZjE x) (Zbv x):=Goes.leaf
def ZdK:Bool→AV:=fun (r:Bool)=>.d .bool r
def Za7 (x:Int):Empty→Nat×St:=fun j=>nomatch j
theorem Zs0 (x:Int) (L:Lt):entryA Go.Proofs.Tryz.prog (clOf Zgt) ZfT Go.Proofs.Tryz.f91 Zdp L (toForms Zbo (x,()))=(ZjE x).run (fun v=>some (ZdK v,tps (toForms Zbo (x,())))) fun j=>L (Za7 x j).1 (Za7 x j).2:=by kernel_rfl
theorem ZsY (x:Int):∀(L:Lt) (j:Empty),procOf (procsF Go.Proofs.Tryz.prog (clOf Zgt) ZfT Go.Proofs.Tryz.f91 Zdp (toForms Zbo (x,()))) (Za7 x j).1 L (Za7 x j).2=(Zk1 x j).run (fun v=>some (ZdK v,tps (toForms Zbo (x,())))) fun j=>L (Za7 x j).1 (Za7 x j).2:=fun L j=>nomatch j
noncomputable def ZkS:Run:=entT Zbo ZdK (fun a=>Zbv a.1)
theorem ZsW:EntOK Go.Proofs.Tryz.prog 91 ZkS:=Zat (tb:=ZfT) (c:=Zdp) ZsX (by kernel_rfl) (by kernel_rfl) (by kernel_rfl) (fun a=>by kernel_rfl) fun ⟨x,_⟩=>Zm (c:=Zdp) (K:=fun v=>(ZdK v,tps (toForms Zbo (x,())))) (S:=Za7 x) (by kernel_rfl) (Zs0 x) (ZsY x) (ZtS x)
end
end Go.Ev
end

section
open Go Go.Ev
namespace Go.Ev
noncomputable section
def Z0:Sig:=[(false,(.sl (.int .i64))),(false,(.int .i64))]
noncomputable def Zbq:Tbl:=[(90,Zru),(91,ZkS)]
theorem Zhw:∀p∈Zbq,EntOK Go.Proofs.Tryz.prog p.1 p.2:=Zg ZxZ (Zg ZsW (Zu))
noncomputable def ZaN:Code:=Go.Proofs.Tryz.f69.body.getD .skip
def Zbh:Tb:=[(4,⟨[0,1,6,7,8,42,48,50,51],[]⟩)]
inductive Zap where | l4 (i:Int) (j_:Int)
def Z5 (x:List Int) (target:Int):Zap→JT Zap (Int×Bool) |.l4 i j_=>.br (decide (i < j_)) (.br ((decide ((0:Int)≤(IntKind.i64.wrap (Int.fdiv (IntKind.u64.wrap (IntKind.i64.wrap (i+j_))) (2 ^ (min 1 (IntKind.u64).bits))))))&&(decide ((IntKind.i64.wrap (Int.fdiv (IntKind.u64.wrap (IntKind.i64.wrap (i+j_))) (2 ^ (min 1 (IntKind.u64).bits)))) < (Int.ofNat (List.length x))))) (.br (ZeP (List.getD x (Int.toNat (IntKind.i64.wrap (Int.fdiv (IntKind.u64.wrap (IntKind.i64.wrap (i+j_))) (2 ^ (min 1 (IntKind.u64).bits))))) (dflt (.int .i64))) target) (.jmp (.l4 (IntKind.i64.wrap ((IntKind.i64.wrap (Int.fdiv (IntKind.u64.wrap (IntKind.i64.wrap (i+j_))) (2 ^ (min 1 (IntKind.u64).bits))))+(1:Int))) j_)) (.jmp (.l4 i (IntKind.i64.wrap (Int.fdiv (IntKind.u64.wrap (IntKind.i64.wrap (i+j_))) (2 ^ (min 1 (IntKind.u64).bits))))))) (.no)) (.br (decide (i < (Int.ofNat (List.length x)))) (.br ((decide ((0:Int)≤i))&&(decide (i < (Int.ofNat (List.length x))))) (.br ((List.getD x (Int.toNat i) (dflt (.int .i64)))==target) (.leaf (i,true)) (.br ((decide ((0:Int)≤i))&&(decide (i < (Int.ofNat (List.length x))))) (.br (Zbv (List.getD x (Int.toNat i) (dflt (.int .i64)))) (.leaf (i,(Zbv target))) (.leaf (i,false))) (.no))) (.no)) (.leaf (i,false)))
def ZcB (x:List Int) (target:Int):JT Zap (Int×Bool):=.jmp (.l4 (0:Int) (Int.ofNat (List.length x)))
def ZaM:Int×Bool→AV:=fun (r:Int×Bool)=>.tu [.d (.int .i64) r.1,.d .bool r.2]
def ZT (x:List Int) (target:Int):Zap→Nat×St |.l4 i j_=>(4,⟨mkTm 54 [(0,.d (.sl (.int .i64)) x),(1,.d (.int .i64) target),(6,.d (.int .i64) (Int.ofNat (List.length x))),(7,.d (.int .i64) i),(8,.d (.int .i64) j_)],[]⟩)
theorem Zht (x:List Int) (target:Int) (L:Lt):entryA Go.Proofs.Tryz.prog (clOf Zbq) Zbh Go.Proofs.Tryz.f69 ZaN L (toForms Z0 (x,target,()))=(ZcB x target).run (fun v=>some (ZaM v,tps (toForms Z0 (x,target,())))) fun j=>L (ZT x target j).1 (ZT x target j).2:=by kernel_rfl
theorem Zhx (x:List Int) (target:Int):∀(L:Lt) (j:Zap),procOf (procsF Go.Proofs.Tryz.prog (clOf Zbq) Zbh Go.Proofs.Tryz.f69 ZaN (toForms Z0 (x,target,()))) (ZT x target j).1 L (ZT x target j).2=(Z5 x target j).run (fun v=>some (ZaM v,tps (toForms Z0 (x,target,())))) fun j=>L (ZT x target j).1 (ZT x target j).2 | L,.l4 i j_=>by kernel_rfl
end
end Go.Ev
end

section
open Go
namespace Go.Ev
def ZL (x:List Int) (target:Int):Int×Bool:=(((x.countP fun y=>decide (y < target)):Nat),x.contains target)
def Z6 (x:List Int) (target:Int):Bool:=decide (x.Pairwise (· < ·))&&decide (x.length < 4611686018427387904)
theorem ZO5 {a b:Nat} (h:a+b < 9223372036854775807):IntKind.i64.wrap (Int.fdiv (IntKind.u64.wrap (IntKind.i64.wrap ((a:Int)+(b:Int)))) (2 ^ (min 1 (IntKind.u64).bits)))=(((a+b) / 2:Nat):Int):=by
 have e1:IntKind.i64.wrap ((a:Int)+(b:Int))=((a+b:Nat):Int):=by rw[wrap_i64 (by omega) (by omega)];omega
 have e2:IntKind.u64.wrap ((a+b:Nat):Int)=((a+b:Nat):Int):=Zyu (by omega)
 have e3:(2:Int) ^ (min 1 (IntKind.u64).bits)=2:=by decide
 rw[e1,e2,e3,Int.fdiv_eq_ediv_of_nonneg _ (by decide),wrap_i64 (by omega) (by omega)]
 omega
theorem ZGS {x:List Int} {t:Int} {lo:Nat} (hlo:lo≤x.length) (h1:∀j (h:j < x.length),j < lo→x[j] < t) (h2:∀j (h:j < x.length),lo≤j→t≤x[j]):(x.countP fun y=>decide (y < t))=lo:=by
 have e:x=x.take lo++x.drop lo:=(List.take_append_drop lo x).symm
 rw[e,List.countP_append]
 have a:(x.take lo).countP (fun y=>decide (y < t))=lo:=by
  have:(x.take lo).countP (fun y=>decide (y < t))=(x.take lo).length:=List.countP_eq_length.2 fun y hy=>by
   obtain ⟨j,hj,rfl⟩:=List.mem_iff_getElem.1 hy
   rw[List.getElem_take]
   rw[List.length_take] at hj
   exact decide_eq_true (h1 j (by omega) (by omega))
  rw[this,List.length_take];omega
 have b:(x.drop lo).countP (fun y=>decide (y < t))=0:=List.countP_eq_zero.2 fun y hy=>by
  obtain ⟨j,hj,rfl⟩:=List.mem_iff_getElem.1 hy
  rw[List.getElem_drop]
  rw[List.length_drop] at hj
  have:=h2 (lo+j) (by omega) (by omega)
  simpa using this
 rw[a,b,Nat.add_zero]
theorem Zh6 (x:List Int) (target:Int) (hk:Z6 x target=true):Goes (Z5 x target) (ZcB x target) (ZL x target):=by
 unfold Z6 at hk
 rw[Bool.and_eq_true,decide_eq_true_eq,decide_eq_true_eq] at hk
 obtain ⟨hp,hn⟩:=hk
 have hg:=List.pairwise_iff_getElem.1 hp
 have vless:∀a b:Int,ZeP a b=decide (a < b):=fun a b=>by
  unfold ZeP ZbT
  simp
 have vnan:∀a:Int,Zbv a=false:=fun a=>by unfold Zbv;simp
 have fin:∀lo:Nat,lo≤x.length→(∀j (h:j < x.length),j < lo→x[j] < target)→(∀j (h:j < x.length),lo≤j→target≤x[j])→Goes (Z5 x target) (.jmp (.l4 (lo:Int) (lo:Int))) (ZL x target):=by
  intro lo hlo h1 h2
  have hc:=ZGS hlo h1 h2
  have hv:ZL x target=((lo:Int),x.contains target):=by unfold ZL;rw[hc]
  rw[hv,Zi,Z5,Ze,if_neg (by simp),Ze]
  have hcon:∀h:lo < x.length,x[lo]≠target→x.contains target=false:=fun h hne=>by
   rw[Bool.eq_false_iff]
   intro hm
   rw[List.contains_iff_mem] at hm
   obtain ⟨j,hj,he⟩:=List.mem_iff_getElem.1 hm
   rcases Nat.lt_trichotomy j lo with hjl | rfl | hjl
   ·have:=h1 j hj hjl;omega
   ·exact hne he
   ·have:=hg lo j h hj hjl
    have:=h2 lo h (Nat.le_refl _)
    omega
  by_cases hl:lo < x.length
  ·rw[if_pos (ZR hl)]
   simp only[Ze,nng,ZR hl,Bool.and_self,if_true,Int.toNat_natCast,ZH hl,vnan]
   by_cases he:x[lo]=target
   ·rw[if_pos (by simpa using he),show x.contains target=true from List.contains_iff_mem.2 (he▸List.getElem_mem hl)]
    exact .leaf
   ·rw[if_neg (by simpa using he),if_neg (by decide),hcon hl he]
    exact .leaf
  ·have:lo=x.length:=by omega
   subst this
   rw[if_neg (by rw[Zw (Nat.lt_irrefl _)];decide)]
   have:x.contains target=false:=by
    rw[Bool.eq_false_iff]
    intro hm
    rw[List.contains_iff_mem] at hm
    obtain ⟨j,hj,he⟩:=List.mem_iff_getElem.1 hm
    have:=h1 j hj hj
    omega
   rw[this]
   exact .leaf
 have loop:∀m lo hi:Nat,hi - lo≤m→lo≤hi→hi≤x.length→(∀j (h:j < x.length),j < lo→x[j] < target)→(∀j (h:j < x.length),hi≤j→target≤x[j])→Goes (Z5 x target) (.jmp (.l4 (lo:Int) (hi:Int))) (ZL x target):=by
  intro m
  induction m with
  | zero=>
   intro lo hi hm hlh hhi h1 h2
   have:lo=hi:=by omega
   subst this
   exact fin lo hhi h1 h2
  | succ m ih=>
   intro lo hi hm hlh hhi h1 h2
   by_cases he:lo=hi
   ·subst he
    exact fin lo hhi h1 h2
   have hlt:lo < hi:=by omega
   have hM:(lo+hi) / 2 < x.length:=by omega
   rw[Zi,Z5,ZO5 (by omega),Ze,if_pos (decide_eq_true (by omega))]
   simp only[Ze,nng,ZR hM,Bool.and_self,if_true,Int.toNat_natCast,ZH hM,vless]
   by_cases c:x[(lo+hi) / 2] < target
   ·rw[if_pos (decide_eq_true c),Zr (by omega)]
    refine ih _ _ (by omega) (by omega) hhi (fun j h hj=>?_) h2
    by_cases e:j=(lo+hi) / 2
    ·subst e;exact c
    ·have:=hg j ((lo+hi) / 2) h hM (by omega)
     omega
   ·rw[if_neg (by simpa using c)]
    refine ih _ _ (by omega) (by omega) (by omega) h1 (fun j h hj=>?_)
    by_cases e:j=(lo+hi) / 2
    ·subst e;omega
    ·have:=hg ((lo+hi) / 2) j hM h (by omega)
     omega
 exact loop x.length 0 x.length (by omega) (by omega) (Nat.le_refl _) (fun j h hj=>absurd hj (Nat.not_lt_zero _)) (fun j h hj=>absurd h (by omega))
end Go.Ev
end

section
open Go Go.Ev
namespace Go.Ev
noncomputable section
noncomputable def Zc1:Run:=entG Z0 ZaM (fun a=>Z6 a.1 a.2.1) (fun a=>ZL a.1 a.2.1)
theorem ZhL:EntOK Go.Proofs.Tryz.prog 69 Zc1:=ZM (tb:=Zbh) (c:=ZaN) Zhw (by kernel_rfl) (by kernel_rfl) (by kernel_rfl) (fun a=>by kernel_rfl) fun ⟨x,target,_⟩ hk=>Zm (c:=ZaN) (K:=fun v=>(ZaM v,tps (toForms Z0 (x,target,())))) (S:=ZT x target) (by kernel_rfl) (Zht x target) (Zhx x target) (Zh6 x target hk)
end
end Go.Ev
end

section
open Go Go.Ev
namespace Go.Ev
noncomputable section
abbrev mProg:Program:=Go.Proofs.Tryz.prog
noncomputable def msB:Code:=Go.Proofs.Tryz.f43.body.getD .skip
noncomputable def mlR1 (K:Code):Code:=fstC (innC (innC K))
noncomputable def mlB (K:Code):Code:=innC (fstC (sndC (sndC (innC (innC K)))))
noncomputable def mlR2 (K:Code):Code:=sndC (sndC (sndC (innC (innC K))))
noncomputable def ms0:Code:=fstC msB
noncomputable def ms1:Code:=fstC (sndC msB)
noncomputable def ms2:Code:=fstC (sndC (sndC msB))
noncomputable def ms3:Code:=fstC (fstC (sndC (sndC (sndC msB))))
noncomputable def msK:Code:=sndC (fstC (sndC (sndC (sndC msB))))
noncomputable def msE:Code:=fstC (sndC (sndC (sndC (sndC msB))))
noncomputable def msT:Tbl:=[(68,Zuh),(69,Zc1)]
theorem ZPb:∀p∈msT,EntOK Go.Proofs.Tryz.prog p.1 p.2:=Zg ZxH (Zg ZhL Zu)
theorem mcl:Spec mProg (clOf msT)∧DetC (clOf msT):=Zqb ZPb
theorem ZOW:msB=.seq ms0 (.seq ms1 (.seq (.region (ridC ms2) (ropsC ms2) false) (.seq (.seq ms3 msK) (.seq msE .ret)))):=by kernel_rfl
theorem ZOZ:msK=.block 0 (.loop (.seq (mlR1 msK) (.seq (.cond (.tmp 19) .skip (.exit 0)) (.seq (.block 1 (mlB msK)) (mlR2 msK))))):=by kernel_rfl
noncomputable def ms4:Code:=fstC (mlB msK)
noncomputable def ms5:Code:=fstC (sndC (mlB msK))
noncomputable def ms6:Code:=fstC (fstC (sndC (sndC (mlB msK))))
noncomputable def msX:Code:=thenC (sndC (fstC (sndC (sndC (mlB msK)))))
noncomputable def ms7:Code:=fstC msX
noncomputable def ms8:Code:=sndC msX
noncomputable def ms9:Code:=sndC (sndC (sndC (mlB msK)))
theorem ZO3:mlB msK=.seq ms4 (.seq (.region (ridC ms5) (ropsC ms5) false) (.seq (.seq ms6 (.cond (.tmp 30) (.seq ms7 (.region (ridC ms8) (ropsC ms8) false)) .skip)) ms9)):=by kernel_rfl
def mOb (t:List (El Za)):Id×Nat×Obj:=(4,0,.box 33 [.d (.sl Za) t] none)
def mOut (out:List (El Zd)):Id×Nat×Obj:=(8,0,.row 35 Zd out false)
def mX (x:El Zd):Id×Nat×Obj:=(11,0,.box 35 [.d (.int .i64) x.1,.d (.int .i64) x.2.1,.d (.int .i64) x.2.2] none)
section
variable (t:List (El Za)) (l:List (El Zd)) (pts:List Int) (out:List (El Zd)) (m:Nat) (k:Int) (x:El Zd) (e:List Int) (b:Bool)
def mS0:St:=⟨.ag [.d (.sl Za) t] :: .d (.sl Zd) l :: .d (.sl (.int .i64)) pts :: tops 51,[]⟩
def mS1:St:=⟨mkTm 54 [(1,.d (.sl Zd) l),(2,.d (.sl (.int .i64)) pts),(3,.pt 4 0 0)],[mOb t]⟩
def mS2:St:=⟨mkTm 54 [(1,.d (.sl Zd) l),(2,.d (.sl (.int .i64)) pts),(3,.pt 4 0 0),(7,.own 8 0 none)],[mOb t,mOut []]⟩
def mS3:St:=((mS2 t l pts).put (some 15) (.cst (.map (some m)))).put (some 8) (.cst (.map (some m)))
def mSA:St:=⟨mkTm 54 [(2,.d (.sl (.int .i64)) pts),(3,.pt 4 0 0),(7,.own 8 0 none),(8,.cst (.map (some m))),(16,.d (.sl Zd) l),(17,.d (.int .i64) (Int.ofNat (List.length l))),(18,.d (.int .i64) k)],[mOb t,mOut out]⟩
def mLA:Lab:=⟨[2,3,7,8,16,17,18],[(8,56)]⟩
def mSB:St:=⟨mkTm 54 [(2,.d (.sl (.int .i64)) pts),(3,.pt 4 0 0),(7,.own 8 0 none),(8,.cst (.map (some m))),(10,.pt 11 0 0),(16,.d (.sl Zd) l),(17,.d (.int .i64) (Int.ofNat (List.length l))),(18,.d (.int .i64) k)],[mOb t,mOut out,mX x]⟩
def mLB:Lab:=⟨[2,3,7,8,10,16,17,18],[(8,56)]⟩
def mSC:St:=⟨mkTm 54 [(2,.d (.sl (.int .i64)) pts),(3,.pt 4 0 0),(7,.own 8 0 none),(8,.cst (.map (some m))),(10,.pt 11 0 0),(11,.d (.sl (.int .i64)) e),(12,.d .bool b),(16,.d (.sl Zd) l),(17,.d (.int .i64) (Int.ofNat (List.length l))),(18,.d (.int .i64) k)],[mOb t,mOut out,mX x]⟩
def mLC:Lab:=⟨[2,3,7,8,10,11,12,16,17,18],[(8,56)]⟩
def mLC30:Lab:=⟨[2,3,7,8,10,11,16,17,18,30],[(8,56)]⟩
def mSD:St:=⟨mkTm 54 [(2,.d (.sl (.int .i64)) pts),(3,.pt 4 0 0),(7,.own 8 0 none),(8,.cst (.map (some m))),(10,.pt 11 0 0),(11,.d (.sl (.int .i64)) e),(16,.d (.sl Zd) l),(17,.d (.int .i64) (Int.ofNat (List.length l))),(18,.d (.int .i64) k)],[mOb t,mOut out,mX x]⟩
def mLD:Lab:=⟨[2,3,7,8,10,11,16,17,18],[(8,56)]⟩
def mSO:St:=⟨mkTm 54 [(2,.d (.sl (.int .i64)) pts),(3,.pt 4 0 0),(7,.own 8 0 none),(8,.cst (.map (some m))),(10,.pt 11 0 0),(11,.own 12 0 none),(16,.d (.sl Zd) l),(17,.d (.int .i64) (Int.ofNat (List.length l))),(18,.d (.int .i64) k)],[mOb t,mOut out,mX x,(12,0,.row 3 (.int .i64) e false)]⟩
@[reducible] def inM (i:Int) (n:Nat):Bool:=decide ((0:Int)≤i)&&decide (i < Int.ofNat n)
abbrev mEv (c:Code) (lab:Lab) (s s':St):Prop:=∀(L:Lt) (k:Kt) (x:Nat→Kt) (r:Kt),evC mProg (clOf msT) [] L c 0 (fun t=>k (norm mProg lab t)) x r s=k s'
abbrev mEvI (c:Code) (s s':St):Prop:=∀(L:Lt) (k:Kt) (x:Nat→Kt) (r:Kt),evC mProg (clOf msT) [] L c 0 (fun t=>k t) x r s=k s'
abbrev mEvG (c:Code) (lab:Lab) (s s':St) (b:Bool):Prop:=∀(L:Lt) (k:Kt) (x:Nat→Kt) (r:Kt),evC mProg (clOf msT) [] L c 0 (fun t=>k (norm mProg lab t)) x r s=bif b then k s' else none
theorem mEvG.ok {c:Code} {lab:Lab} {s s':St} {b:Bool} (h:mEvG c lab s s' b) (hb:b=true):mEv c lab s s':=fun L k x r=>by rw[h,hb];rfl
theorem m_0:mEv ms0 ⟨[1,2,3],[]⟩ (mS0 t l pts) (mS1 t l pts):=fun L k x r=>by kernel_rfl
theorem m_1:mEv ms1 ⟨[1,2,3,7],[(8,56)]⟩ (mS1 t l pts) (mS2 t l pts):=fun L k x r=>by kernel_rfl
theorem m_3:mEv ms3 mLA (mS3 t l pts m) (mSA t l pts [] m 0):=fun L k x r=>by kernel_rfl
theorem m_R1:mEvI (mlR1 msK) (mSA t l pts out m k) ((mSA t l pts out m k).put (some 19) (.d .bool (decide (k < Int.ofNat (List.length l))))):=fun L k x r=>by kernel_rfl
theorem m_4:mEvG ms4 mLB ((mSA t l pts out m k).put (some 19) (.d .bool b)) (mSB t l pts out m k (List.getD l (Int.toNat k) (dflt Zd))) (inM k (List.length l)):=fun L k x r=>by kernel_rfl
theorem m_6:mEv ms6 mLC30 (mSC t l pts out m k x e b) ((mSD t l pts out m k x e).put (some 30) (.d .bool (! b))):=fun L k x r=>by kernel_rfl
theorem m_7:mEvG ms7 mLD ((mSD t l pts out m k x e).put (some 30) (.d .bool b)) (mSO t l pts out m k x (ZN t pts x.2.1)) (ZbS t pts x.2.1):=fun L k x r=>by kernel_rfl
theorem ZPC:norm mProg mLD ((mSD t l pts out m k x e).put (some 30) (.d .bool b))=mSD t l pts out m k x e:=by kernel_rfl
theorem m_9 (L:Lt) (kk:Kt) (xx:Nat→Kt) (r:Kt):evC mProg (clOf msT) [] L ms9 0 (fun t=>kk (norm mProg mLA t)) xx r (mSD t l pts out m k x e)=
  bif Z6 e x.2.2 then (bif (ZL e x.2.2).2 then (bif Nat.ble ((List.length out+1)*24) limit then kk (mSA t l pts (out++[x]) m k) else none) else kk (mSA t l pts out m k)) else none:=by kernel_rfl
theorem m_R2:mEv (mlR2 msK) mLA (mSA t l pts out m k) (mSA t l pts out m (IntKind.i64.wrap (k+1))):=fun L k x r=>by kernel_rfl
theorem m_E:mEvI msE ((mSA t l pts out m k).put (some 19) (.d .bool b)) ((((mSA t l pts out m k).put (some 19) (.d .bool b)).put (some 53) (.own 8 0 none)).put (some 6) (.own 8 0 none)):=fun L k x r=>by kernel_rfl
def mSB5 (e:List Int) (b:Bool):St:=((((mSB t l pts out m k x).put (some 23) (.cst (.map (some m)))).put (some 24) (.pt 11 0 1)).put (some 25) (.d (.int .i64) x.2.1)).put (some 26) (.tu [.d (.sl (.int .i64)) e,.d .bool b])
def mSB9 (e:List Int) (b:Bool):St:=(((((mSB5 t l pts out m k x e b).put (some 22) (.tu [.d (.sl (.int .i64)) e,.d .bool b])).put (some 27) (.d (.sl (.int .i64)) e)).put (some 28) (.d .bool b)).put (some 11) (.d (.sl (.int .i64)) e)).put (some 12) (.d .bool b)
theorem m_n9:norm mProg mLC (mSB9 t l pts out m k x e b)=mSC t l pts out m k x e b:=by kernel_rfl
def mSO4:St:=((((mSO t l pts out m k x e).put (some 36) (.cst (.map (some m)))).put (some 37) (.pt 11 0 1)).put (some 38) (.d (.int .i64) x.2.1)).put (some 39) (.own 12 0 none)
theorem m_n8 (o:Option Nat) (ho:o=none):norm mProg ⟨[2,3,7,8,10,11,16,17,18],[(8,56),(12+lockK,1)]⟩ (((mSO4 t l pts out m k x e).lock [12]).put o .top)=mSD t l pts out m k x e:=by
 subst ho
 kernel_rfl
end
section
variable [Orgs] {Mod F0:Nat→Prop} {w0:World} {a:Act} {w:World} {Q:Exit→Act→World→Prop}
variable {t:List (El Za)} {l:List (El Zd)} {pts:List Int} {out:List (El Zd)} {m:Nat} {k:Int} {x:El Zd} {ms:MapD}
theorem mw_2 (hr:Rel Mod F0 w0 (mS2 t l pts) a w) (hQ:∀m a' w',RelX (mapHid m []) Mod F0 w0 (mS3 t l pts m) a' w'→Q .normal a' w'):(Code.region (ridC ms2) (ropsC ms2) false).wp mProg Q a w:=by
 refine wp_region ?_
 rw[show List.range (ropsC ms2).size=[0,1] from by kernel_rfl]
 refine handOp (o:=opC ms2 0) (by kernel_rfl) (by kernel_rfl) ?_
 refine makeMapX (TM:=106) (by kernel_rfl) hr fun m a w hr=>?_
 rw[show (opC ms2 0).dst=some 15 from by kernel_rfl] at hr
 refine evOpX mcl.1 (o:=opC ms2 1) (st1:=mS3 t l pts m) (by kernel_rfl) (by kernel_rfl) (fun k=>by kernel_rfl) hr fun a w hr=>?_
 exact hQ m a w hr
theorem mw_5 (hr:RelX (mapHid m ms) Mod F0 w0 (mSB t l pts out m k x) a w) (hQ:∀a' w',RelX (mapHid m ms) Mod F0 w0 (mSC t l pts out m k x ((getM ms x.2.1).getD []) (getM ms x.2.1).isSome) a' w'→Q .normal a' w'):(Code.region (ridC ms5) (ropsC ms5) false).wp mProg Q a w:=by
 refine wp_region ?_
 rw[show List.range (ropsC ms5).size=[0,1,2,3,4,5,6,7,8] from by kernel_rfl]
 refine evOpX mcl.1 (o:=opC ms5 0) (st1:=(mSB t l pts out m k x).put (some 23) (.cst (.map (some m)))) (by kernel_rfl) (by kernel_rfl) (fun k=>by kernel_rfl) hr fun a w hr=>?_
 refine evOpX mcl.1 (o:=opC ms5 1) (st1:=((mSB t l pts out m k x).put (some 23) (.cst (.map (some m)))).put (some 24) (.pt 11 0 1)) (by kernel_rfl) (by kernel_rfl) (fun k=>by kernel_rfl) hr fun a w hr=>?_
 refine evOpX mcl.1 (o:=opC ms5 2) (st1:=(((mSB t l pts out m k x).put (some 23) (.cst (.map (some m)))).put (some 24) (.pt 11 0 1)).put (some 25) (.d (.int .i64) x.2.1)) (by kernel_rfl) (by kernel_rfl) (fun k=>by kernel_rfl) hr fun a w hr=>?_
 refine handOp (o:=opC ms5 3) (by kernel_rfl) (by kernel_rfl) ?_
 refine lookupX (TM:=106) (K:=3) (V:=36) (x:=.tmp 23) (k:=.tmp 25) (key:=x.2.1) (by kernel_rfl) (by kernel_rfl) (by kernel_rfl) (by kernel_rfl) (by kernel_rfl) (by kernel_rfl) hr fun a w hr=>?_
 rw[show (opC ms5 3).dst=some 26 from by kernel_rfl] at hr
 generalize (getM ms x.2.1).getD []=e at hr hQ
 generalize (getM ms x.2.1).isSome=b at hr hQ
 refine evOpX mcl.1 (o:=opC ms5 4) (st1:=(mSB5 t l pts out m k x e b).put (some 22) (.tu [.d (.sl (.int .i64)) e,.d .bool b])) (by kernel_rfl) (by kernel_rfl) (fun k=>by kernel_rfl) hr fun a w hr=>?_
 refine evOpX mcl.1 (o:=opC ms5 5) (st1:=((mSB5 t l pts out m k x e b).put (some 22) (.tu [.d (.sl (.int .i64)) e,.d .bool b])).put (some 27) (.d (.sl (.int .i64)) e)) (by kernel_rfl) (by kernel_rfl) (fun k=>by kernel_rfl) hr fun a w hr=>?_
 refine evOpX mcl.1 (o:=opC ms5 6) (st1:=(((mSB5 t l pts out m k x e b).put (some 22) (.tu [.d (.sl (.int .i64)) e,.d .bool b])).put (some 27) (.d (.sl (.int .i64)) e)).put (some 28) (.d .bool b)) (by kernel_rfl) (by kernel_rfl) (fun k=>by kernel_rfl) hr fun a w hr=>?_
 refine evOpX mcl.1 (o:=opC ms5 7) (st1:=((((mSB5 t l pts out m k x e b).put (some 22) (.tu [.d (.sl (.int .i64)) e,.d .bool b])).put (some 27) (.d (.sl (.int .i64)) e)).put (some 28) (.d .bool b)).put (some 11) (.d (.sl (.int .i64)) e)) (by kernel_rfl) (by kernel_rfl) (fun k=>by kernel_rfl) hr fun a w hr=>?_
 refine evOpX mcl.1 (o:=opC ms5 8) (st1:=mSB9 t l pts out m k x e b) (by kernel_rfl) (by kernel_rfl) (fun k=>by kernel_rfl) hr fun a w hr=>?_
 exact hQ a w (RelX.norm (P:=mProg) (m_n9 t l pts out m k x e b) hr)
theorem mw_8 {e:List Int} (hn:getM ms x.2.1=none) (hr:RelX (mapHid m ms) Mod F0 w0 (mSO t l pts out m k x e) a w) (hQ:∀a' w',RelX (mapHid m (ms++[((show Int from x.2.1),e)])) Mod F0 w0 (mSD t l pts out m k x e) a' w'→Q .normal a' w'):(Code.region (ridC ms8) (ropsC ms8) false).wp mProg Q a w:=by
 refine wp_region ?_
 rw[show List.range (ropsC ms8).size=[0,1,2,3,4] from by kernel_rfl]
 refine evOpX mcl.1 (o:=opC ms8 0) (st1:=(mSO t l pts out m k x e).put (some 36) (.cst (.map (some m)))) (by kernel_rfl) (by kernel_rfl) (fun k=>by kernel_rfl) hr fun a w hr=>?_
 refine evOpX mcl.1 (o:=opC ms8 1) (st1:=((mSO t l pts out m k x e).put (some 36) (.cst (.map (some m)))).put (some 37) (.pt 11 0 1)) (by kernel_rfl) (by kernel_rfl) (fun k=>by kernel_rfl) hr fun a w hr=>?_
 refine evOpX mcl.1 (o:=opC ms8 2) (st1:=(((mSO t l pts out m k x e).put (some 36) (.cst (.map (some m)))).put (some 37) (.pt 11 0 1)).put (some 38) (.d (.int .i64) x.2.1)) (by kernel_rfl) (by kernel_rfl) (fun k=>by kernel_rfl) hr fun a w hr=>?_
 refine evOpX mcl.1 (o:=opC ms8 3) (st1:=mSO4 t l pts out m k x e) (by kernel_rfl) (by kernel_rfl) (fun k=>by kernel_rfl) hr fun a w hr=>?_
 refine handOp (o:=opC ms8 4) (by kernel_rfl) (by kernel_rfl) ?_
 refine updateX (TM:=106) (K:=3) (V:=36) (E:=3) (x:=.tmp 36) (k:=.tmp 38) (v:=.tmp 39) (key:=x.2.1) (id:=12) (ver:=0) (r:=e) (lk:=false) (by kernel_rfl) (by kernel_rfl) (by kernel_rfl) (by kernel_rfl) (by kernel_rfl) (by kernel_rfl) (by kernel_rfl) hn hr fun a w hr=>?_
 exact hQ a w (RelX.norm (P:=mProg) (m_n8 t l pts out m k x e _ (by kernel_rfl)) hr)
def OkM (t:List (El Za)) (pts:List Int) (ms:MapD):Prop:=∀s r,getM ms s=some r→r=ZN t pts s
theorem ZOu {s:Int} (h:OkM t pts ms):OkM t pts (ms++[(s,ZN t pts s)]):=fun s' r hr=>by
 unfold getM at hr
 rw[List.find?_append] at hr
 cases hf:ms.find? (fun e=>e.1==s') with
 | some y=>
  rw[hf] at hr
  exact h s' r (by unfold getM;rw[hf];exact hr)
 | none=>
  rw[hf] at hr
  simp only[Option.none_or,List.find?_cons,List.find?_nil] at hr
  split at hr
  ·rename_i hs
   have hs:s=s':=by simpa using hs
   subst hs
   cases hr
   rfl
  ·cases hr
theorem ZNf (hf:flowOK t=true) (hp:pts.length < 4611686018427387904) (x:El Zd):Z6 (ZN t pts x.2.1) x.2.2=true∧(ZL (ZN t pts x.2.1) x.2.2).2=uB t pts x:=by
 have hl:=Zby hf
 have h1:(ZN t pts x.2.1).length≤t.length:=ZyJ
 refine ⟨?_,?_⟩
 ·unfold Z6
  rw[Bool.and_eq_true,decide_eq_true_eq,decide_eq_true_eq]
  exact ⟨ZpC,by omega⟩
 ·show (ZN t pts x.2.1).contains x.2.2=_
  unfold ZN uB
  exact Zrt
theorem ZO7 {n j:Nat} (h:j < n):inM (j:Int) n=true:=by
 unfold inM
 rw[Bool.and_eq_true,decide_eq_true_eq,decide_eq_true_eq]
 exact ⟨Int.natCast_nonneg j,Int.ofNat_lt.2 h⟩
theorem mw_L (hf:flowOK t=true) (hp:pts.length < 4611686018427387904) {j:Nat} (hj:j < l.length) {b:Bool} (hlim:(out.length+1)*24≤limit) (ho:OkM t pts ms) (hr:RelX (mapHid m ms) Mod F0 w0 ((mSA t l pts out m (j:Int)).put (some 19) (.d .bool b)) a w):
  (mlB msK).wp mProg (fun e a' w'=>(e=.normal∨e=.exit 1)∧∃ms',OkM t pts ms'∧RelX (mapHid m ms') Mod F0 w0 (mSA t l pts (out++if uB t pts l[j]=true then [l[j]] else []) m (j:Int)) a' w') a w:=by
 rw[ZO3]
 refine wp_seq (pieceX mcl.1 mcl.2 (norm mProg mLB) (fun h=>Z1 h) ((m_4 t l pts out m (j:Int) b).ok (ZO7 hj)) hr fun a w hr=>?_)
 rw[Int.toNat_natCast,ZH hj] at hr
 generalize l[j]=x at hr
 have kE:ZbS t pts x.2.1=true:=by unfold ZbS;rw[hf,decide_eq_true hp];rfl
 obtain ⟨q1,q2⟩:=ZNf hf hp x
 have last:∀(ms':MapD),OkM t pts ms'→∀a w,RelX (mapHid m ms') Mod F0 w0 (mSD t l pts out m (j:Int) x (ZN t pts x.2.1)) a w→ms9.wp mProg (fun e a' w'=>(e=.normal∨e=.exit 1)∧∃ms',OkM t pts ms'∧RelX (mapHid m ms') Mod F0 w0 (mSA t l pts (out++if uB t pts x=true then [x] else []) m (j:Int)) a' w') a w:=by
  intro ms' ho' a w hr
  by_cases hu:uB t pts x=true
  ·refine pieceX mcl.1 mcl.2 (norm mProg mLA) (fun h=>Z1 h) (st1:=mSA t l pts (out++[x]) m (j:Int)) (fun L k xx r=>by rw[m_9,q1,q2,hu,Nat.ble_eq_true_of_le hlim];rfl) hr fun a w hr=>?_
   rw[if_pos hu]
   exact ⟨.inl rfl,ms',ho',hr⟩
  ·have hu':uB t pts x=false:=by simpa using hu
   refine pieceX mcl.1 mcl.2 (norm mProg mLA) (fun h=>Z1 h) (st1:=mSA t l pts out m (j:Int)) (fun L k xx r=>by rw[m_9,q1,q2,hu'];rfl) hr fun a w hr=>?_
   rw[if_neg hu,List.append_nil]
   exact ⟨.inl rfl,ms',ho',hr⟩
 refine wp_seq (mw_5 hr fun a w hr=>?_)
 refine wp_seq (wp_seq (pieceX mcl.1 mcl.2 (norm mProg mLC30) (fun h=>Z1 h) (m_6 t l pts out m (j:Int) x _ _) hr fun a w hr=>?_))
 have ht:=hr.evb (x:=.tmp 30) (b:=! (getM ms x.2.1).isSome) (by kernel_rfl)
 cases hg:getM ms x.2.1 with
 | none=>
  rw[hg] at ht hr
  refine wp_cond_true ht ?_
  refine wp_seq (pieceX mcl.1 mcl.2 (norm mProg mLD) (fun h=>Z1 h) ((m_7 t l pts out m (j:Int) x _ _).ok kE) hr fun a w hr=>?_)
  exact mw_8 hg hr fun a w hr=>last _ (ZOu ho) a w hr
 | some e=>
  rw[hg] at ht hr
  refine wp_cond_false ht (wp_skip ?_)
  have:=RelX.norm (P:=mProg) (ZPC t l pts out m (j:Int) x _ _) hr
  have he:=ho _ _ hg
  subst he
  exact last _ ho a w this
end
def Zm1:Sig:=[(true,(.sl Za)),(false,(.sl Zd)),(false,(.sl (.int .i64)))]
noncomputable def ZbC (t:List (El Za)) (l:List (El Zd)) (points:List Int):List (El Zd):=missL (uB t) points l
def ZaB (t:List (El Za)) (l:List (El Zd)) (points:List Int):Bool:=flowOK t&&(decide (points.length < 4611686018427387904)&&decide (l.length < 1000000000000))
def Zvy:List (El Zd)→AV:=fun r=>.rw 35 Zd r
theorem ZMu {U:El Zd→Bool} {l:List (El Zd)} {j:Nat} (hj:j < l.length):(l.take (j+1)).filter U=(l.take j).filter U++if U l[j]=true then [l[j]] else []:=by
 rw[List.take_succ_eq_append_getElem hj,List.filter_append,List.filter_cons,List.filter_nil]
theorem Zv2 (t:List (El Za)) (l:List (El Zd)) (pts:List Int) (hk:ZaB t l pts=true):CallOK mProg 43 (toForms Zm1 (t,l,pts,())) (Zvy (ZbC t l pts),tps (toForms Zm1 (t,l,pts,()))):=by
 unfold ZaB at hk
 rw[Bool.and_eq_true,Bool.and_eq_true,decide_eq_true_eq,decide_eq_true_eq] at hk
 obtain ⟨hf,hp,hN⟩:=hk
 refine ZmP (tb:=[]) (fn:=Go.Proofs.Tryz.f43) (c:=msB) (vs:=[.ag [.d (.sl Za) t],.d (.sl Zd) l,.d (.sl (.int .i64)) pts]) (st:=⟨[],[]⟩) (by kernel_rfl) (by kernel_rfl) (by kernel_rfl) ?_
 intro _ Mod F0 w0 a w hr
 have hr:Rel Mod F0 w0 (mS0 t l pts) a w:=hr
 rw[ZOW]
 refine wp_seq (piece mcl.1 mcl.2 (norm mProg ⟨[1,2,3],[]⟩) (fun h=>Z1 h) (m_0 t l pts) hr fun a w hr=>?_)
 refine wp_seq (piece mcl.1 mcl.2 (norm mProg ⟨[1,2,3,7],[(8,56)]⟩) (fun h=>Z1 h) (m_1 t l pts) hr fun a w hr=>?_)
 refine wp_seq (mw_2 hr fun m a w hr=>?_)
 refine wp_seq (wp_seq (pieceX mcl.1 mcl.2 (norm mProg mLA) (fun h=>Z1 h) (m_3 t l pts m) hr fun a w hr=>?_))
 rw[ZOZ]
 refine forLoop (fun j a w=>∃ms,OkM t pts ms∧RelX (mapHid m ms) Mod F0 w0 (mSA t l pts ((l.take j).filter (uB t pts)) m (j:Int)) a w)
  (fun j a w=>∃ms,OkM t pts ms∧RelX (mapHid m ms) Mod F0 w0 ((mSA t l pts ((l.take j).filter (uB t pts)) m (j:Int)).put (some 19) (.d .bool (decide ((j:Int) < Int.ofNat (List.length l))))) a w)
  (fun j a w=>∃ms,OkM t pts ms∧RelX (mapHid m ms) Mod F0 w0 (mSA t l pts ((l.take (j+1)).filter (uB t pts)) m (j:Int)) a w)
  l.length (toGo 18 l.length) ?_ ?_ ?_ ?_ ?_ ⟨[],fun s r h=>(by cases h),hr⟩ ?_
 ·intro j a w hj ⟨ms,ho,hr⟩
  exact pieceX mcl.1 mcl.2 (fun s=>s) (fun h=>h) (m_R1 _ _ _ _ _ _) hr fun a' w' hr'=>⟨rfl,ms,ho,hr'⟩
 ·intro j a w hj ⟨ms,ho,hr⟩
  rw[hr.evb (x:=.tmp 19) (b:=decide ((j:Int) < Int.ofNat (List.length l))) (by kernel_rfl)]
  exact congrArg Value.bool (by rw[Bool.eq_iff_iff,decide_eq_true_eq,decide_eq_true_eq];exact Int.ofNat_lt)
 ·intro j a w hj ⟨ms,ho,hr⟩
  rw[ZMu hj]
  refine mw_L hf hp hj ?_ ho hr
  have h1:=List.length_filter_le (uB t pts) (l.take j)
  rw[List.length_take] at h1
  unfold limit
  omega
 ·intro j a w hj ⟨ms,ho,hr⟩
  have e:=m_R2 t l pts ((l.take (j+1)).filter (uB t pts)) m (j:Int)
  rw[Zr (by omega)] at e
  exact pieceX mcl.1 mcl.2 (norm mProg mLA) (fun h=>Z1 h) e hr fun a' w' hr'=>⟨rfl,ms,ho,hr'⟩
 ·intro j a w hj ⟨ms,ho,hr⟩
  unfold toGo
  rw[hr.ev (x:=.tmp 18) (k:=.i64) (n:=(j:Int)) (by kernel_rfl)]
  rfl
 ·intro a w ⟨ms,ho,hr⟩
  rw[List.take_length] at hr
  have hr:=hr.out
  refine wp_seq (piece mcl.1 mcl.2 (fun s=>s) (fun h=>h) (m_E t l pts (l.filter (uB t pts)) m _ _) hr fun a w hr=>?_)
  exact wp_ret ⟨.inr rfl,_,hr,by kernel_rfl⟩
noncomputable def ZjL:Run:=entG Zm1 Zvy (fun a=>ZaB a.1 a.2.1 a.2.2.1) (fun a=>ZbC a.1 a.2.1 a.2.2.1)
theorem ZnE:EntOK mProg 43 ZjL:=Zzf (ZiX (fn:=Go.Proofs.Tryz.f43) (c:=msB) (by kernel_rfl) (by kernel_rfl) (by kernel_rfl)) fun a h=>Zv2 a.1 a.2.1 a.2.2.1 h
end
end Go.Ev
end

section
open Go Go.Ev
namespace Go.Ev
def renComp:Go.Shelf.Ren:=⟨fun n=>if n=20 then 71 else n,
 fun n=>if n=22 then 36 else n,
 fun n=>n⟩
theorem Zxl:Go.Proofs.Lays2.n20 Go.Proofs.Tryz.prog renComp where
 mixed:=by kernel_rfl
 f20:=by kernel_rfl
 t0:=by kernel_rfl
 a0:=fun w=>by kernel_rfl
 z0:=fun w=>by kernel_rfl
 v0:=fun w=>by kernel_rfl
 t3:=by kernel_rfl
 a3:=fun w=>by kernel_rfl
 z3:=fun w=>by kernel_rfl
 v3:=fun w=>by kernel_rfl
 t4:=by kernel_rfl
 a4:=fun w=>by kernel_rfl
 z4:=fun w=>by kernel_rfl
 v4:=fun w=>by kernel_rfl
 t22:=by kernel_rfl
 a22:=fun w=>by kernel_rfl
 z22:=fun w=>by kernel_rfl
 v22:=fun w=>by kernel_rfl
 i3:=by kernel_rfl
theorem compOK:CompactOK Go.Proofs.Tryz.prog 71:=⟨fun blk off cap zs w h1 h2 h3=>Go.Proofs.Any.slices_Compact_int Zxl blk off cap zs w h1 h2 h3,fun a cap w=>Go.Proofs.Any.slices_Compact_int_empty Zxl a cap w⟩
noncomputable section
noncomputable def ZCm:Run:=rowRun (entO [.row 3 (.int .i64)] (fun (r:List Int)=>(.rw 3 (.int .i64) r,[.top])) (fun _=>true) (fun a=>Go.Lib.compact a.1))
theorem ZIY:EntOK Go.Proofs.Tryz.prog 71 ZCm:=ZzY (ZuW (Zoi (ZiX (fn:=Go.Proofs.Tryz.f71) (c:=Go.Proofs.Tryz.f71.body.getD .skip) (by kernel_rfl) (by kernel_rfl) (by kernel_rfl))) fun a _=>ZIl compOK a.1)
noncomputable def ZuM:PSig:=[.row 3 (.int .i64)]
def Zg3 (l:List Int):List Int:=putsL [] l
noncomputable def ZqL:List Int→Ans:=fun r=>(.rw 3 (.int .i64) r,[.top])
noncomputable def riB:Code:=Go.Proofs.Tryz.f44.body.getD .skip
noncomputable def ri1:Code:=fstC riB
noncomputable def ri2:Code:=fstC (sndC riB)
noncomputable def ri3:Code:=sndC (sndC riB)
noncomputable def riT:Tbl:=[(71,ZCm)]
theorem ZPd:∀p∈riT,EntOK Go.Proofs.Tryz.prog p.1 p.2:=Zg ZIY Zu
theorem ZOT:riB=.seq ri1 (.seq (.region (ridC ri2) (ropsC ri2) false) ri3):=by kernel_rfl
noncomputable def riS (l:List Int):St:=⟨mkTm 7 [(0,.own 1 0 none)],[(1,0,.row 3 (.int .i64) l false)]⟩
theorem ri_1 (l:List Int) (L:Lt) (k:Kt) (x:Nat→Kt) (r:Kt):evC Go.Proofs.Tryz.prog (clOf riT) [] L ri1 0 (fun t=>k (norm Go.Proofs.Tryz.prog ⟨[0],[]⟩ t)) x r (riS l)=k (riS l):=by kernel_rfl
theorem ri_3 (l:List Int) (L:Lt):evC Go.Proofs.Tryz.prog (clOf riT) [] L ri3 0 (finA Go.Proofs.Tryz.prog [] Go.Proofs.Tryz.f44 [.rw 3 (.int .i64) l]) (fun _ _=>none) (finA Go.Proofs.Tryz.prog [] Go.Proofs.Tryz.f44 [.rw 3 (.int .i64) l]) (riS (sorted l))=some (.rw 3 (.int .i64) (risL l),[.top]):=by kernel_rfl
theorem ZMm (l:List Int):risL l=putsL [] l:=ZnM ZyY (ZmG .nil) fun x=>by rw[ZKs,Zv8];simp
def Zdk (l:List Int):Bool:=decide (l.length < 4611686018427387904)
theorem ZwJ (l:List Int) (hk:Zdk l=true):CallOK Go.Proofs.Tryz.prog 44 (toPs ZuM (l,())) (ZqL (Zg3 l)):=by
 obtain ⟨hcl,hdet⟩:=Zqb ZPd
 refine ZmP (tb:=[]) (fn:=Go.Proofs.Tryz.f44) (c:=riB) (vs:=[.own 1 0 none]) (st:=⟨[],[(1,0,.row 3 (.int .i64) l false)]⟩) (by kernel_rfl) (by kernel_rfl) (by kernel_rfl) ?_
 intro _ Mod F0 w0 a w hr
 have hr:Rel Mod F0 w0 (riS l) a w:=hr
 rw[ZOT]
 refine wp_seq (piece hcl hdet (norm Go.Proofs.Tryz.prog ⟨[0],[]⟩) (fun h=>Z1 h) (ri_1 l) hr fun a w hr=>?_)
 refine wp_seq (wp_region ?_)
 rw[show List.range (ropsC ri2).size=[0,1] from by kernel_rfl]
 refine evOp hcl (o:=opC ri2 0) (st1:=(riS l).put (some 3) (.own 1 0 none)) (by kernel_rfl) (by kernel_rfl) (fun k=>by kernel_rfl) hr fun a w hr=>?_
 refine handOp (o:=opC ri2 1) (by kernel_rfl) (by kernel_rfl) ?_
 refine sortStep (ts:=3) (id:=1) (ver:=0) (E:=3) (l:=l) (c:=(match (opC ri2 1).op with |.call c=>c | _=>default)) (fn:=Go.Proofs.Tryz.f70) (body:=Go.Proofs.Tryz.f70.body.getD .skip) (by kernel_rfl) (by kernel_rfl) (by kernel_rfl) (by kernel_rfl) (by kernel_rfl) (by kernel_rfl) (by kernel_rfl) (by kernel_rfl) sortOK (of_decide_eq_true hk) hr fun a w hr=>?_
 have hr:Rel Mod F0 w0 (riS (sorted l)) a w:=Z1 (P:=Go.Proofs.Tryz.prog) (lab:=⟨[0],[]⟩) hr
 unfold ZqL Zg3
 rw[←ZMm]
 exact endStep hcl hdet (ri_3 l) hr
noncomputable def Zmw:Run:=rowRun (entO ZuM ZqL (fun a=>Zdk a.1) (fun a=>Zg3 a.1))
theorem Zot:EntOK Go.Proofs.Tryz.prog 44 Zmw:=ZzY (ZuW (Zoi (ZiX (fn:=Go.Proofs.Tryz.f44) (c:=riB) (by kernel_rfl) (by kernel_rfl) (by kernel_rfl))) fun a h=>ZwJ a.1 h)
end
end Go.Ev
end

section
open Go Go.Ev
namespace Go.Ev
noncomputable section
def Zfh:Sig:=[(true,(.sl Za)),(false,(.sl Zd))]
noncomputable def Zso:Tbl:=[(57,ZcI),(43,ZjL),(44,Zmw)]
theorem ZEf:∀p∈Zso,EntOK Go.Proofs.Tryz.prog p.1 p.2:=Zg ZfR (Zg ZnE (Zg Zot (Zu)))
noncomputable def ZmQ:Code:=Go.Proofs.Tryz.f34.body.getD .skip
def Zp1:Tb:=[(3,⟨[1,2,5],[(6,72)]⟩),(9,⟨[1,2,5,6,7,16,17],[(10000000000000000000000000000000000000000000000000000000000008,1)]⟩)]
inductive Zja where | l3 (points:List Int) (open_1:List (El Zd)) | l9 (left:List (El Zd)) (h:Int) (best:Int) (points:List Int) (open_1:List (El Zd))
def Zcx (t:List (El Za)) (open_:List (El Zd)):Zja→JT Zja (List Int) |.l3 points open_1=>.br (decide ((Int.ofNat (List.length open_1)) > (0:Int))) (.jmp (.l9 open_1 (0:Int) (0:Int) points open_1)) (.br (Zdk points) (.leaf (Zg3 points)) (.no)) |.l9 left h best points open_1=>.br (decide (h < (Int.ofNat (List.length t)))) (.br (Za4 points) (.br (Nat.ble (((List.length (ZK points))+1)*8) limit) (.br (ZaB t open_1 ((ZK points)++[h])) (.br (decide ((Int.ofNat (List.length (ZbC t open_1 ((ZK points)++[h])))) < (Int.ofNat (List.length left)))) (.jmp (.l9 (ZbC t open_1 ((ZK points)++[h])) (IntKind.i64.wrap (h+(1:Int))) h points open_1)) (.jmp (.l9 left (IntKind.i64.wrap (h+(1:Int))) best points open_1))) (.no)) (.no)) (.no)) (.br (Nat.ble (((List.length points)+1)*8) limit) (.jmp (.l3 (points++[best]) left)) (.no))
def ZuY (t:List (El Za)) (open_:List (El Zd)):JT Zja (List Int):=.jmp (.l3 [] open_)
def ZlS:List Int→AV:=fun (r:List Int)=>.rw 3 (.int .i64) r
def ZeQ (t:List (El Za)) (open_:List (El Zd)):Zja→Nat×St |.l3 points open_1=>(3,⟨mkTm 43 [(1,.d (.sl Zd) open_1),(2,.pt 3 0 0),(5,.own 6 0 none)],[(3,0,.box 33 [.d (.sl Za) t] none),(6,0,.row 3 (.int .i64) points false)]⟩) |.l9 left h best points open_1=>(9,⟨mkTm 43 [(1,.d (.sl Zd) open_1),(2,.pt 3 0 0),(5,.own 6 0 none),(6,.d (.int .i64) best),(7,.d (.sl Zd) left),(16,.d (.int .i64) (Int.ofNat (List.length t))),(17,.d (.int .i64) h)],[(3,0,.box 33 [.d (.sl Za) t] none),(6,0,.row 3 (.int .i64) points false)]⟩)
theorem ZDF (t:List (El Za)) (open_:List (El Zd)) (L:Lt):entryA Go.Proofs.Tryz.prog (clOf Zso) Zp1 Go.Proofs.Tryz.f34 ZmQ L (toForms Zfh (t,open_,()))=(ZuY t open_).run (fun v=>some (ZlS v,tps (toForms Zfh (t,open_,())))) fun j=>L (ZeQ t open_ j).1 (ZeQ t open_ j).2:=by kernel_rfl
theorem ZDt (t:List (El Za)) (open_:List (El Zd)):∀(L:Lt) (j:Zja),procOf (procsF Go.Proofs.Tryz.prog (clOf Zso) Zp1 Go.Proofs.Tryz.f34 ZmQ (toForms Zfh (t,open_,()))) (ZeQ t open_ j).1 L (ZeQ t open_ j).2=(Zcx t open_ j).run (fun v=>some (ZlS v,tps (toForms Zfh (t,open_,())))) fun j=>L (ZeQ t open_ j).1 (ZeQ t open_ j).2 | L,.l3 points open_1=>by kernel_rfl | L,.l9 left h best points open_1=>by kernel_rfl
end
end Go.Ev
end

section
open Go
namespace Go.Ev
def loadIn (n:Nat) (x:PairD):Bool:=decide ((0:Int)≤x.2.2∧(show Int from x.2.2) < (n:Int))
theorem ZMb {t:List (El Za)} {l:List PairD} (h:l.all (loadIn t.length)=true):Cuts (uB t) t.length l:=fun x hx=>by
 obtain ⟨h1,h2⟩:=of_decide_eq_true (List.all_eq_true.1 h x hx)
 refine ⟨Int.toNat x.2.2,ZAa h1 h2,fun pts=>ZOn ?_⟩
 rw[List.mem_append,List.mem_singleton,Int.toNat_of_nonneg h1]
 exact .inr rfl
noncomputable def Zfa (t:List (El Za)) (open_:List (El Zd)):List Int:=greedyV (uB t) t.length open_
def Zhj (t:List (El Za)) (open_:List (El Zd)):Bool:=flowOK t&&(decide (open_.length < 1000000000)&&open_.all (loadIn t.length))
theorem ZIb (t:List (El Za)) (open_:List (El Zd)) (hk:Zhj t open_=true):Goes (Zcx t open_) (ZuY t open_) (Zfa t open_):=by
 unfold Zhj at hk
 rw[Bool.and_eq_true,Bool.and_eq_true,decide_eq_true_eq] at hk
 obtain ⟨hf,hN,hall⟩:=hk
 have hlen:=Zby hf
 have fin:∀(pts:List Int) (l:List PairD),l.length=0→pts.length≤1000000000→Goes (Zcx t open_) (.jmp (.l3 pts l)) (putsL [] pts):=by
  intro pts l h0 hp
  rw[Zi,Zcx,Ze,if_neg (by rw[h0];decide),Ze,if_pos (show Zdk pts=true from decide_eq_true (by omega))]
  exact .leaf
 have outer:∀f:Nat,∀(pts:List Int) (l:List PairD),l.length≤f→f+pts.length≤1000000000→Cuts (uB t) t.length l→Goes (Zcx t open_) (.jmp (.l3 pts l)) (putsL [] (greedyL (uB t) t.length f pts l)):=by
  intro f
  induction f with
  | zero=>
   intro pts l hl hb hc
   exact fin pts l (by omega) (by omega)
  | succ f ih=>
   intro pts l hl hb hc
   by_cases h0:l.length=0
   ·have:=fin pts l h0 (by omega)
    rw[greedyL,if_pos h0]
    exact this
   ·rw[greedyL,if_neg h0]
    obtain ⟨j,hj,e1,e2,e3⟩:=ZKP (pts:=pts) hc (by omega)
    have inner:∀k,k≤t.length→∀acc:Int×List PairD,bestFrom (uB t) t.length pts l k acc=bestG (uB t) t.length pts l→
      Goes (Zcx t open_) (.jmp (.l9 acc.2 (k:Int) acc.1 pts l)) (putsL [] (greedyL (uB t) t.length f (pts++[(bestG (uB t) t.length pts l).1]) (bestG (uB t) t.length pts l).2)):=by
     refine down ?_ fun k hk ihk=>?_
     ·intro acc ha
      rw[ZxE] at ha
      rw[Zi,Zcx,Ze,if_neg (by rw[Zw (Nat.lt_irrefl _)];decide),Ze,if_pos (Nat.ble_eq_true_of_le (by unfold limit;omega)),ha]
      exact ih _ _ (by omega) (by simp;omega) (ZNX hc fun x hx=>by rw[e2] at hx;exact (List.mem_filter.1 hx).1)
     ·intro acc ha
      rw[ZvF hk] at ha
      have hcl:Za4 pts=true:=decide_eq_true (by omega)
      have hvc:ZK pts=pts:=rfl
      have hkm:ZaB t l (pts++[(k:Int)])=true:=by
       unfold ZaB
       rw[hf,decide_eq_true (show (pts++[(k:Int)]).length < 4611686018427387904 by simp;omega),decide_eq_true (show l.length < 1000000000000 by omega)];rfl
      have hvm:ZbC t l (pts++[(k:Int)])=l.filter (uB t (pts++[(k:Int)])):=rfl
      rw[Zi,Zcx,hvc,hvm,Zr (by omega),Ze,if_pos (ZR hk),Ze,if_pos hcl,Ze,if_pos (Nat.ble_eq_true_of_le (by unfold limit;omega)),Ze,if_pos hkm,Ze]
      unfold stepG at ha
      by_cases hc2:(l.filter (uB t (pts++[(k:Int)]))).length < acc.2.length
      ·rw[if_pos hc2] at ha
       rw[if_pos (ZJO hc2)]
       exact ihk _ ha
      ·rw[if_neg hc2] at ha
       rw[if_neg (by rw[ZEO hc2];decide)]
       exact ihk _ ha
    rw[Zi,Zcx,Ze,if_pos (decide_eq_true (by simp only[Int.ofNat_eq_natCast];omega))]
    exact inner 0 (Nat.zero_le _) (0,l) rfl
 exact outer open_.length [] open_ (Nat.le_refl _) (by simp;omega) (ZMb hall)
end Go.Ev
end

section
open Go Go.Ev
namespace Go.Ev
noncomputable section
noncomputable def ZxB:Run:=entG Zfh ZlS (fun a=>Zhj a.1 a.2.1) (fun a=>Zfa a.1 a.2.1)
theorem ZDx:EntOK Go.Proofs.Tryz.prog 34 ZxB:=ZM (tb:=Zp1) (c:=ZmQ) ZEf (by kernel_rfl) (by kernel_rfl) (by kernel_rfl) (fun a=>by kernel_rfl) fun ⟨t,open_,_⟩ hk=>Zm (c:=ZmQ) (K:=fun v=>(ZlS v,tps (toForms Zfh (t,open_,())))) (S:=ZeQ t open_) (by kernel_rfl) (ZDF t open_) (ZDt t open_) (ZIb t open_ hk)
end
end Go.Ev
end

section
open Go Go.Ev
namespace Go.Ev
def renDel:Go.Shelf.Ren:=⟨fun n=>if n=23 then 56 else n,
 fun n=>if n=22 then 36 else n,
 fun n=>n⟩
theorem ZJU:Go.Proofs.Lays2.n23 Go.Proofs.Tryz.prog renDel where
 mixed:=by kernel_rfl
 f23:=by kernel_rfl
 t0:=by kernel_rfl
 a0:=fun w=>by kernel_rfl
 z0:=fun w=>by kernel_rfl
 v0:=fun w=>by kernel_rfl
 t3:=by kernel_rfl
 a3:=fun w=>by kernel_rfl
 z3:=fun w=>by kernel_rfl
 v3:=fun w=>by kernel_rfl
 t4:=by kernel_rfl
 a4:=fun w=>by kernel_rfl
 z4:=fun w=>by kernel_rfl
 v4:=fun w=>by kernel_rfl
 t22:=by kernel_rfl
 a22:=fun w=>by kernel_rfl
 z22:=fun w=>by kernel_rfl
 v22:=fun w=>by kernel_rfl
 i3:=by kernel_rfl
theorem delOK:DeleteOK Go.Proofs.Tryz.prog 56:=fun blk off cap i j zs w h1 h2 h3 h4 h5=>Go.Proofs.Any.slices_Delete_int ZJU blk off cap i j zs w h1 h2 h3 h4 h5
noncomputable section
def ZkT:PSig:=[.row 3 (.int .i64),.dat false (.int .i64),.dat false (.int .i64)]
def Zay (l:List Int) (i j:Int):List Int:=l.take i.toNat++l.drop j.toNat
def Zck (l:List Int) (i j:Int):Bool:=decide (0≤i∧i≤j∧j≤(l.length:Int)∧0 < l.length)
def ZlA:List Int→Ans:=fun r=>(.rw 3 (.int .i64) r,[.top,.top,.top])
def ZfS:Run:=rowRun (entO ZkT ZlA (fun a=>Zck a.1 a.2.1 a.2.2.1) (fun a=>Zay a.1 a.2.1 a.2.2.1))
theorem Zlk:EntOK Go.Proofs.Tryz.prog 56 ZfS:=ZzY (ZuW (Zoi (ZiX (fn:=Go.Proofs.Tryz.f56) (c:=Go.Proofs.Tryz.f56.body.getD .skip) (by kernel_rfl) (by kernel_rfl) (by kernel_rfl))) fun a h=>by
 obtain ⟨h1,h2,h3,h4⟩:=of_decide_eq_true h
 exact ZIO delOK a.1 h1 h2 h3 (List.length_pos_iff.1 h4))
end
end Go.Ev
end

section
open Go Go.Ev
namespace Go.Ev
noncomputable section
def ZgQ:Sig:=[(true,(.sl Za)),(false,(.sl Zd)),(false,(.sl (.int .i64)))]
noncomputable def Zuo:Tbl:=[(44,Zmw),(57,ZcI),(56,ZfS),(43,ZjL)]
theorem ZFy:∀p∈Zuo,EntOK Go.Proofs.Tryz.prog p.1 p.2:=Zg Zot (Zg ZfR (Zg Zlk (Zg ZnE (Zu))))
noncomputable def Zqf:Code:=Go.Proofs.Tryz.f33.body.getD .skip
def ZrT:Tb:=[(4,⟨[1,3,7,12,13,14],[(8,72)]⟩),(13,⟨[1,3,7,10],[]⟩)]
inductive ZkY where | l4 (h:Int) (out:List Int) | l13 (out:List Int) (i:Int)
def ZeV (t:List (El Za)) (all:List (El Zd)) (points:List Int):ZkY→JT ZkY (List Int) |.l4 h out=>.br (decide (h < (Int.ofNat (List.length points)))) (.br ((decide ((0:Int)≤h))&&(decide (h < (Int.ofNat (List.length points))))) (.br (decide ((List.getD points (Int.toNat h) (dflt (.int .i64)))≥(0:Int))) (.br (decide ((List.getD points (Int.toNat h) (dflt (.int .i64))) < (Int.ofNat (List.length t)))) (.br (Nat.ble (((List.length out)+1)*8) limit) (.jmp (.l4 (IntKind.i64.wrap (h+(1:Int))) (out++[(List.getD points (Int.toNat h) (dflt (.int .i64)))]))) (.no)) (.jmp (.l4 (IntKind.i64.wrap (h+(1:Int))) out))) (.jmp (.l4 (IntKind.i64.wrap (h+(1:Int))) out))) (.no)) (.br (Zdk out) (.jmp (.l13 (Zg3 out) (0:Int))) (.no)) |.l13 out i=>.br (decide (i < (Int.ofNat (List.length out)))) (.br (Za4 out) (.br (Zck (ZK out) i (IntKind.i64.wrap (i+(1:Int)))) (.br (ZaB t all (Zay (ZK out) i (IntKind.i64.wrap (i+(1:Int))))) (.br ((Int.ofNat (List.length (ZbC t all (Zay (ZK out) i (IntKind.i64.wrap (i+(1:Int)))))))==(0:Int)) (.jmp (.l13 (Zay (ZK out) i (IntKind.i64.wrap (i+(1:Int)))) i)) (.jmp (.l13 out (IntKind.i64.wrap (i+(1:Int)))))) (.no)) (.no)) (.no)) (.leaf out)
def ZwS (t:List (El Za)) (all:List (El Zd)) (points:List Int):JT ZkY (List Int):=.jmp (.l4 (0:Int) [])
def Zpe:List Int→AV:=fun (r:List Int)=>.rw 3 (.int .i64) r
def Zgp (t:List (El Za)) (all:List (El Zd)) (points:List Int):ZkY→Nat×St |.l4 h out=>(4,⟨mkTm 54 [(1,.d (.sl Zd) all),(3,.pt 4 0 0),(7,.own 8 0 none),(12,.d (.sl (.int .i64)) points),(13,.d (.int .i64) (Int.ofNat (List.length points))),(14,.d (.int .i64) h)],[(4,0,.box 33 [.d (.sl Za) t] none),(8,0,.row 3 (.int .i64) out false)]⟩) |.l13 out i=>(13,⟨mkTm 54 [(1,.d (.sl Zd) all),(3,.pt 4 0 0),(7,.own 8 0 none),(10,.d (.int .i64) i)],[(4,0,.box 33 [.d (.sl Za) t] none),(8,0,.row 3 (.int .i64) out false)]⟩)
theorem ZIC (t:List (El Za)) (all:List (El Zd)) (points:List Int) (L:Lt):entryA Go.Proofs.Tryz.prog (clOf Zuo) ZrT Go.Proofs.Tryz.f33 Zqf L (toForms ZgQ (t,all,points,()))=(ZwS t all points).run (fun v=>some (Zpe v,tps (toForms ZgQ (t,all,points,())))) fun j=>L (Zgp t all points j).1 (Zgp t all points j).2:=by kernel_rfl
theorem ZIa (t:List (El Za)) (all:List (El Zd)) (points:List Int):∀(L:Lt) (j:ZkY),procOf (procsF Go.Proofs.Tryz.prog (clOf Zuo) ZrT Go.Proofs.Tryz.f33 Zqf (toForms ZgQ (t,all,points,()))) (Zgp t all points j).1 L (Zgp t all points j).2=(ZeV t all points j).run (fun v=>some (Zpe v,tps (toForms ZgQ (t,all,points,())))) fun j=>L (Zgp t all points j).1 (Zgp t all points j).2 | L,.l4 h out=>by kernel_rfl | L,.l13 out i=>by kernel_rfl
end
end Go.Ev
end

section
open Go
namespace Go.Ev
noncomputable def Zbn (t:List (El Za)) (all:List (El Zd)) (points:List Int):List Int:=pruneV (uB t) t.length all points
def ZdH (t:List (El Za)) (all:List (El Zd)) (points:List Int):Bool:=flowOK t&&(decide (points.length < 1000000000000)&&decide (all.length < 1000000000000))
theorem ZKf {l:List Int} :(putsL [] l).length≤l.length:=by rw[←ZOq];exact ZNz
theorem ZI4 (t:List (El Za)) (all:List (El Zd)) (points:List Int) (hk:ZdH t all points=true):Goes (ZeV t all points) (ZwS t all points) (Zbn t all points):=by
 unfold ZdH at hk
 rw[Bool.and_eq_true,Bool.and_eq_true,decide_eq_true_eq,decide_eq_true_eq] at hk
 obtain ⟨hf,hp,hN⟩:=hk
 have second:∀rest done:List Int,(done++rest).length < 1000000000000→Goes (ZeV t all points) (.jmp (.l13 (done++rest) (done.length:Int))) (pruneL (uB t) all done rest):=by
  intro rest
  induction rest with
  | nil=>
   intro done hl
   rw[Zi,ZeV,List.append_nil,Ze,if_neg (by rw[Zw (Nat.lt_irrefl _)];decide)]
   exact .leaf
  | cons x r ih=>
   intro done hl
   have hlt:done.length < (done++x :: r).length:=by simp
   rw[Zi,ZeV,Zr (by omega)]
   have hcl:Za4 (done++x :: r)=true:=decide_eq_true (by omega)
   have hvc:ZK (done++x :: r)=done++x :: r:=rfl
   rw[hvc]
   have hkd:Zck (done++x :: r) (done.length:Int) ((done.length+1:Nat):Int)=true:=decide_eq_true ⟨by omega,by omega,by omega,by omega⟩
   have hvd:Zay (done++x :: r) (done.length:Int) ((done.length+1:Nat):Int)=done++r:=by
    unfold Zay
    rw[Int.toNat_natCast,Int.toNat_natCast,List.take_left' rfl,List.drop_append]
    simp
   rw[hvd]
   have hlr:(done++r).length < 1000000000000:=by simp at hl ⊢;omega
   have hkm:ZaB t all (done++r)=true:=by
    unfold ZaB
    rw[hf,decide_eq_true (show (done++r).length < 4611686018427387904 by omega),decide_eq_true hN];rfl
   have hvm:ZbC t all (done++r)=all.filter (uB t (done++r)):=rfl
   rw[Ze,if_pos (ZR hlt),Ze,if_pos hcl,Ze,if_pos hkd,Ze,if_pos hkm,hvm,Ze,pruneL]
   by_cases hz:(all.filter (uB t (done++r))).length=0
   ·rw[if_pos (by rw[hz];rfl),if_pos hz]
    exact ih done hlr
   ·rw[if_neg (by simp only[beq_iff_eq,Int.ofNat_eq_natCast];omega),if_neg hz]
    have:=ih (done++[x]) (by rw[List.append_assoc];exact hl)
    rw[List.append_assoc,List.length_append] at this
    exact this
 have first:∀k,k≤points.length→∀out:List Int,out.length≤k→Goes (ZeV t all points) (.jmp (.l4 (k:Int) out)) (pruneL (uB t) all [] (putsL [] (out++(points.drop k).filter (inR t.length)))):=by
  refine down ?_ fun k hk ih=>?_
  ·intro out ho
   rw[Zi,ZeV,Ze,if_neg (by rw[Zw (Nat.lt_irrefl _)];decide),List.drop_length,Ze,if_pos (show Zdk out=true from decide_eq_true (by omega))]
   simp only[List.filter_nil,List.append_nil]
   have h1:(putsL [] out).length≤out.length:=ZKf
   exact second (putsL [] out) [] (by simp;omega)
  ·intro out ho
   have b1:Nat.ble ((out.length+1)*8) limit=true:=Nat.ble_eq_true_of_le (by unfold limit;omega)
   rw[Zi,ZeV,ZO hk,List.filter_cons]
   simp only[Ze,ZR hk,nng,Bool.and_self,if_true,Int.toNat_natCast,ZH hk,b1,Zr (k:=k) (by omega)]
   have e2:decide (points[k] < Int.ofNat t.length)=decide (points[k] < (t.length:Int)):=rfl
   have e1:inR t.length points[k]=(decide (points[k]≥0)&&decide (points[k] < (t.length:Int))):=rfl
   rw[e1,e2]
   cases c1:decide (points[k]≥0) with
   | true=>
    cases c2:decide (points[k] < (t.length:Int)) with
    | true=>
     have:=ih (out++[points[k]]) (by simp;omega)
     rw[List.append_assoc] at this
     exact this
    | false=>exact ih out (by omega)
   | false=>exact ih out (by omega)
 have:=first 0 (Nat.zero_le _) [] (Nat.zero_le _)
 rw[List.nil_append,List.drop_zero] at this
 exact this
end Go.Ev
end

section
open Go Go.Ev
namespace Go.Ev
noncomputable section
noncomputable def ZAB:Run:=entG ZgQ Zpe (fun a=>ZdH a.1 a.2.1 a.2.2.1) (fun a=>Zbn a.1 a.2.1 a.2.2.1)
theorem ZGB:EntOK Go.Proofs.Tryz.prog 33 ZAB:=ZM (tb:=ZrT) (c:=Zqf) ZFy (by kernel_rfl) (by kernel_rfl) (by kernel_rfl) (fun a=>by kernel_rfl) fun ⟨t,all,points,_⟩ hk=>Zm (c:=Zqf) (K:=fun v=>(Zpe v,tps (toForms ZgQ (t,all,points,())))) (S:=Zgp t all points) (by kernel_rfl) (ZIC t all points) (ZIa t all points) (ZI4 t all points hk)
end
end Go.Ev
end

section
open Go Go.Ev
namespace Go.Ev
noncomputable section
def Zfo:Sig:=[(true,Zc),(false,(.int .i64)),(false,(.sl Zd)),(false,(.sl Zd))]
noncomputable def Zr2:Tbl:=[(32,Zyy),(34,ZxB),(33,ZAB)]
theorem ZEh:∀p∈Zr2,EntOK Go.Proofs.Tryz.prog p.1 p.2:=Zg ZyM (Zg ZDx (Zg ZGB (Zu)))
noncomputable def Zmc:Code:=Go.Proofs.Tryz.f15.body.getD .skip
def Zoc:Tb:=[(5,⟨[1,3,9,10,11,12,29,30,31],[(12,72),(13,72)]⟩),(13,⟨[9,10,15,57,58,59],[]⟩)]
inductive Zi2 where | l5 (x:List (El Za)) (h:Int) (after:List Int) (ahead:List Int) | l13 (x:List (El Za)) (best:List Int) (h:List (List Int)) (h1:Int)
def ZbJ (p:El Zc) (t:Int) (pairs:List (El Zd)) (open_:List (El Zd)):Zi2→JT Zi2 (List Int) |.l5 x h after ahead=>.br (decide (h < (Int.ofNat (List.length (Zas open_ t))))) (.br ((decide ((0:Int)≤h))&&(decide (h < (Int.ofNat (List.length (Zas open_ t)))))) (.br (Nat.ble (((List.length after)+1)*8) limit) (.br (Nat.ble (((List.length ahead)+1)*8) limit) (.jmp (.l5 x (IntKind.i64.wrap (h+(1:Int))) (after++[(IntKind.i64.wrap ((List.getD (Zas open_ t) (Int.toNat h) (dflt Zd)).2.1+(1:Int)))]) (ahead++[(List.getD (Zas open_ t) (Int.toNat h) (dflt Zd)).2.2]))) (.no)) (.no)) (.no)) (.br (Zek open_ t) (.br (Zhj x (Zas open_ t)) (.br (ZdH x (Zas pairs t) (Zfa x (Zas open_ t))) (.jmp (.l13 x (Zbn x (Zas pairs t) (Zfa x (Zas open_ t))) [after,ahead] (0:Int))) (.no)) (.no)) (.no)) |.l13 x best h h1=>.br (decide (h1 < (2:Int))) (.br ((decide ((0:Int)≤h1))&&(decide (h1 < (Int.ofNat (List.length h))))) (.br (ZdH x (Zas pairs t) (List.getD h (Int.toNat h1) (dflt (.sl (.int .i64))))) (.br (decide ((Int.ofNat (List.length (Zbn x (Zas pairs t) (List.getD h (Int.toNat h1) (dflt (.sl (.int .i64))))))) < (Int.ofNat (List.length best)))) (.jmp (.l13 x (Zbn x (Zas pairs t) (List.getD h (Int.toNat h1) (dflt (.sl (.int .i64))))) h (IntKind.i64.wrap (h1+(1:Int))))) (.jmp (.l13 x best h (IntKind.i64.wrap (h1+(1:Int)))))) (.no)) (.no)) (.leaf best)
def Zn4 (p:El Zc) (t:Int) (pairs:List (El Zd)) (open_:List (El Zd)):JT Zi2 (List Int):=.br ((decide ((0:Int)≤t))&&(decide (t < (Int.ofNat (List.length p.2))))) (.br (Zek pairs t) (.br (Zek open_ t) (.jmp (.l5 (List.getD p.2 (Int.toNat t) (dflt (.sl Za))) (0:Int) [] [])) (.no)) (.no)) (.no)
def Zmr:List Int→AV:=fun (r:List Int)=>.rw 3 (.int .i64) r
def Ze5 (p:El Zc) (t:Int) (pairs:List (El Zd)) (open_:List (El Zd)):Zi2→Nat×St |.l5 x h after ahead=>(5,⟨mkTm 75 [(1,.d (.int .i64) t),(3,.d (.sl Zd) open_),(9,.pt 10 0 0),(10,.own 11 0 none),(11,.own 12 0 none),(12,.own 13 0 none),(29,.own 30 0 none),(30,.d (.int .i64) (Int.ofNat (List.length (Zas open_ t)))),(31,.d (.int .i64) h)],[(10,0,.box 33 [.d (.sl Za) x] none),(11,0,.row 35 Zd (Zas pairs t) false),(12,0,.row 3 (.int .i64) after false),(13,0,.row 3 (.int .i64) ahead false),(30,0,.row 35 Zd (Zas open_ t) false)]⟩) |.l13 x best h h1=>(13,⟨mkTm 75 [(9,.pt 10 0 0),(10,.own 11 0 none),(15,.own 16 0 none),(57,.own 58 0 none),(58,.d (.int .i64) (2:Int)),(59,.d (.int .i64) h1)],[(10,0,.box 33 [.d (.sl Za) x] none),(11,0,.row 35 Zd (Zas pairs t) false),(16,0,.row 3 (.int .i64) best false),(58,0,.row 36 (.sl (.int .i64)) h false)]⟩)
theorem ZEo (p:El Zc) (t:Int) (pairs:List (El Zd)) (open_:List (El Zd)) (L:Lt):entryA Go.Proofs.Tryz.prog (clOf Zr2) Zoc Go.Proofs.Tryz.f15 Zmc L (toForms Zfo (p,t,pairs,open_,()))=(Zn4 p t pairs open_).run (fun v=>some (Zmr v,tps (toForms Zfo (p,t,pairs,open_,())))) fun j=>L (Ze5 p t pairs open_ j).1 (Ze5 p t pairs open_ j).2:=by kernel_rfl
theorem ZEy (p:El Zc) (t:Int) (pairs:List (El Zd)) (open_:List (El Zd)):∀(L:Lt) (j:Zi2),procOf (procsF Go.Proofs.Tryz.prog (clOf Zr2) Zoc Go.Proofs.Tryz.f15 Zmc (toForms Zfo (p,t,pairs,open_,()))) (Ze5 p t pairs open_ j).1 L (Ze5 p t pairs open_ j).2=(ZbJ p t pairs open_ j).run (fun v=>some (Zmr v,tps (toForms Zfo (p,t,pairs,open_,())))) fun j=>L (Ze5 p t pairs open_ j).1 (Ze5 p t pairs open_ j).2 | L,.l5 x h after ahead=>by kernel_rfl | L,.l13 x best h h1=>by kernel_rfl
end
end Go.Ev
end

section
open Go
namespace Go.Ev
def storeIn (x:PairD):Bool:=decide ((0:Int)≤x.2.1∧(show Int from x.2.1) < 1099511627776)
noncomputable def ZbI (p:El Zc) (t:Int) (pairs:List (El Zd)) (open_:List (El Zd)):List Int:=pointsV (uB (thrT p t)) (thrT p t).length (pairs.filter (ofB t)) (open_.filter (ofB t))
def Zcy (p:El Zc) (t:Int) (pairs:List (El Zd)) (open_:List (El Zd)):Bool:=
 (decide ((0:Int)≤t)&&decide (t < Int.ofNat p.2.length))&&(flowOK (thrT p t)&&(decide (pairs.length < 1000000000)&&(decide (open_.length < 1000000000)&&(open_.filter (ofB t)).all fun x=>loadIn (thrT p t).length x&&storeIn x)))
theorem ZK4 {x:PairD} (h:storeIn x=true):IntKind.i64.wrap ((show Int from x.2.1)+1)=(show Int from x.2.1)+1:=by
 obtain ⟨h1,h2⟩:=of_decide_eq_true h
 have h1:(0:Int)≤(show Int from x.2.1):=h1
 generalize (show Int from x.2.1)=y at*
 exact wrap_i64 (by omega) (by omega)
theorem ZIu (p:El Zc) (t:Int) (pairs:List (El Zd)) (open_:List (El Zd)) (hk:Zcy p t pairs open_=true):Goes (ZbJ p t pairs open_) (Zn4 p t pairs open_) (ZbI p t pairs open_):=by
 unfold Zcy at hk
 rw[Bool.and_eq_true] at hk
 obtain ⟨hin,hk⟩:=hk
 rw[Bool.and_eq_true,Bool.and_eq_true,Bool.and_eq_true] at hk
 obtain ⟨hf,hP,hO,hall⟩:=hk
 have hP:=of_decide_eq_true hP
 have hO:=of_decide_eq_true hO
 have hall:=List.all_eq_true.1 hall
 have ho1:((open_.filter (ofB t)).all (loadIn (thrT p t).length))=true:=List.all_eq_true.2 fun x hx=>by
  have:=hall x hx
  rw[Bool.and_eq_true] at this
  exact this.1
 have hs:∀x∈open_.filter (ofB t),storeIn x=true:=fun x hx=>by
  have:=hall x hx
  rw[Bool.and_eq_true] at this
  exact this.2
 have hol:(open_.filter (ofB t)).length≤open_.length:=List.length_filter_le _ _
 have hpl:(pairs.filter (ofB t)).length≤pairs.length:=List.length_filter_le _ _
 have kof1:Zek pairs t=true:=decide_eq_true (by omega)
 have kof2:Zek open_ t=true:=decide_eq_true (by omega)
 have vof1:Zas pairs t=pairs.filter (ofB t):=rfl
 have vof2:Zas open_ t=open_.filter (ofB t):=rfl
 have kg:Zhj (thrT p t) (open_.filter (ofB t))=true:=by
  unfold Zhj
  rw[hf,decide_eq_true (show (open_.filter (ofB t)).length < 1000000000 by omega),ho1];rfl
 have kp:∀pts:List Int,pts.length < 1000000000000→ZdH (thrT p t) (pairs.filter (ofB t)) pts=true:=fun pts h=>by
  unfold ZdH
  rw[hf,decide_eq_true h,decide_eq_true (show (pairs.filter (ofB t)).length < 1000000000000 by omega)];rfl
 have hgl:∀(f:Nat) (pts:List Int) (l:List PairD),(greedyL (uB (thrT p t)) (thrT p t).length f pts l).length≤f+pts.length:=by
  intro f
  induction f with
  | zero=>intro pts l;rw[greedyL];omega
  | succ f ih=>
   intro pts l
   rw[greedyL]
   split
   ·omega
   ·have:=ih (pts++[(bestG (uB (thrT p t)) (thrT p t).length pts l).1]) (bestG (uB (thrT p t)) (thrT p t).length pts l).2
    rw[List.length_append,List.length_singleton] at this
    omega
 have hgv:(Zfa (thrT p t) (open_.filter (ofB t))).length < 1000000000000:=by
  have h1:(Zfa (thrT p t) (open_.filter (ofB t))).length≤(greedyL (uB (thrT p t)) (thrT p t).length (open_.filter (ofB t)).length [] (open_.filter (ofB t))).length:=ZKf
  have h2:=hgl (open_.filter (ofB t)).length [] (open_.filter (ofB t))
  simp only[List.length_nil,Nat.add_zero] at h2
  omega
 have hx:List.getD p.2 (Int.toNat t) (dflt (.sl Za))=thrT p t:=rfl
 have second:∀after ahead:List Int,after.length < 1000000000000→ahead.length < 1000000000000→∀b0:List Int,
   Goes (ZbJ p t pairs open_) (.jmp (.l13 (thrT p t) b0 [after,ahead] (0:Int))) (shorter (shorter b0 (Zbn (thrT p t) (pairs.filter (ofB t)) after)) (Zbn (thrT p t) (pairs.filter (ofB t)) ahead)):=by
  intro after ahead h1 h2 b0
  have last:∀b:List Int,Goes (ZbJ p t pairs open_) (.jmp (.l13 (thrT p t) b [after,ahead] (2:Int))) b:=fun b=>by
   rw[Zi,ZbJ,Ze,if_neg (by decide)]
   exact .leaf
  have mid:∀b:List Int,Goes (ZbJ p t pairs open_) (.jmp (.l13 (thrT p t) b [after,ahead] (1:Int))) (shorter b (Zbn (thrT p t) (pairs.filter (ofB t)) ahead)):=fun b=>by
   rw[Zi,ZbJ,vof1,Ze,if_pos (by decide),Ze,if_pos (by rfl),Ze]
   have e:List.getD [after,ahead] (Int.toNat (1:Int)) (dflt (.sl (.int .i64)))=ahead:=rfl
   have w:IntKind.i64.wrap ((1:Int)+1)=2:=by decide
   rw[e,w,if_pos (kp _ h2),Ze]
   unfold shorter
   by_cases c:(Zbn (thrT p t) (pairs.filter (ofB t)) ahead).length < b.length
   ·rw[if_pos (ZJO c),if_pos c];exact last _
   ·rw[if_neg (by rw[ZEO c];decide),if_neg c];exact last _
  rw[Zi,ZbJ,vof1,Ze,if_pos (by decide),Ze,if_pos (by rfl),Ze]
  have e:List.getD [after,ahead] (Int.toNat (0:Int)) (dflt (.sl (.int .i64)))=after:=rfl
  have w:IntKind.i64.wrap ((0:Int)+1)=1:=by decide
  rw[e,w,if_pos (kp _ h1),Ze]
  have s1:shorter b0 (Zbn (thrT p t) (pairs.filter (ofB t)) after)=if (Zbn (thrT p t) (pairs.filter (ofB t)) after).length < b0.length then Zbn (thrT p t) (pairs.filter (ofB t)) after else b0:=rfl
  rw[s1]
  by_cases c:(Zbn (thrT p t) (pairs.filter (ofB t)) after).length < b0.length
  ·rw[if_pos (ZJO c),if_pos c];exact mid _
  ·rw[if_neg (by rw[ZEO c];decide),if_neg c];exact mid _
 obtain ⟨O,hOe⟩:∃O,open_.filter (ofB t)=O:=⟨_,rfl⟩
 have first:∀k,k≤O.length→Goes (ZbJ p t pairs open_) (.jmp (.l5 (thrT p t) (k:Int) ((O.take k).map fun x=>(show Int from x.2.1)+1) ((O.take k).map fun x=>x.2.2))) (ZbI p t pairs open_):=by
  rw[hOe] at hol hs vof2 kg hgv
  refine down ?_ fun k hk ih=>?_
  ·rw[Zi,ZbJ,vof1,vof2,Ze,if_neg (by rw[Zw (Nat.lt_irrefl _)];decide),Ze,if_pos kof2,Ze,if_pos kg,Ze,if_pos (kp _ hgv),List.take_length]
   have:=second (O.map fun x=>(show Int from x.2.1)+1) (O.map fun x=>x.2.2) (by rw[List.length_map];omega) (by rw[List.length_map];omega) (Zbn (thrT p t) (pairs.filter (ofB t)) (Zfa (thrT p t) O))
   unfold ZbI
   rw[hOe]
   exact this
  ·have b1:Nat.ble ((((O.take k).map fun x=>(show Int from x.2.1)+1).length+1)*8) limit=true:=Nat.ble_eq_true_of_le (by rw[List.length_map,List.length_take];unfold limit;omega)
   have b2:Nat.ble ((((O.take k).map fun x=>(show Int from x.2.2)).length+1)*8) limit=true:=Nat.ble_eq_true_of_le (by rw[List.length_map,List.length_take];unfold limit;omega)
   have hw:=ZK4 (hs _ (List.getElem_mem hk))
   rw[List.take_succ_eq_append_getElem hk,List.map_append,List.map_append] at ih
   rw[Zi,ZbJ,vof2,Ze,if_pos (ZR hk),Ze,if_pos (by rw[nng,ZR hk];rfl),Ze,if_pos b1,Ze,if_pos b2,Int.toNat_natCast,ZH hk,Zr (by omega)]
   have hw':IntKind.i64.wrap (O[k].2.1+(1:Int))=(show Int from O[k].2.1)+1:=hw
   rw[hw']
   exact ih
 unfold Zn4
 rw[Ze,if_pos hin,Ze,if_pos kof1,Ze,if_pos kof2,hx]
 exact first 0 (Nat.zero_le _)
end Go.Ev
end

section
open Go Go.Ev
namespace Go.Ev
noncomputable section
noncomputable def Zq5:Run:=entG Zfo Zmr (fun a=>Zcy a.1 a.2.1 a.2.2.1 a.2.2.2.1) (fun a=>ZbI a.1 a.2.1 a.2.2.1 a.2.2.2.1)
theorem Zu4:EntOK Go.Proofs.Tryz.prog 15 Zq5:=ZM (tb:=Zoc) (c:=Zmc) ZEh (by kernel_rfl) (by kernel_rfl) (by kernel_rfl) (fun a=>by kernel_rfl) fun ⟨p,t,pairs,open_,_⟩ hk=>Zm (c:=Zmc) (K:=fun v=>(Zmr v,tps (toForms Zfo (p,t,pairs,open_,())))) (S:=Ze5 p t pairs open_) (by kernel_rfl) (ZEo p t pairs open_) (ZEy p t pairs open_) (ZIu p t pairs open_ hk)
end
end Go.Ev
end

section
open Go Go.Ev
namespace Go.Ev
noncomputable section
def Zfr:Sig:=[(true,Zc),(false,(.int .i64))]
noncomputable def Zrv:Tbl:=[(14,ZoZ),(16,Zhn),(17,ZlT),(15,Zq5)]
theorem ZEG:∀p∈Zrv,EntOK Go.Proofs.Tryz.prog p.1 p.2:=Zg Zrd (Zg ZiF (Zg Zok (Zg Zu4 (Zu))))
noncomputable def ZlH:Code:=Go.Proofs.Tryz.f7.body.getD .skip
def Zpi:Tb:=[(hintK,⟨[],[(1,72)]⟩)]
def ZxF (p:El Zc) (t:Int):Empty→JT Empty (List Int):=fun j=>nomatch j
def Zvh (p:El Zc) (t:Int):JT Empty (List Int):=.br (ZbO p t) (.br (! (ZbQ p t)) (.leaf []) (.br (Z2 p) (.br (Zbp p) (.br (Zcy p t (Zl p) (Zv p)) (.leaf (ZbI p t (Zl p) (Zv p))) (.no)) (.no)) (.no))) (.no)
def Zaw (p:El Zc) (t:Int):List Int:=bif (ZbO p t) then bif (! (ZbQ p t)) then [] else bif (Z2 p) then bif (Zbp p) then bif (Zcy p t (Zl p) (Zv p)) then (ZbI p t (Zl p) (Zv p)) else [] else [] else [] else []
def Zdh (p:El Zc) (t:Int):Bool:=bif (ZbO p t) then bif (! (ZbQ p t)) then true else bif (Z2 p) then bif (Zbp p) then bif (Zcy p t (Zl p) (Zv p)) then true else false else false else false else false
theorem ZHT (p:El Zc) (t:Int) (hk:Zdh p t=true):Goes (ZxF p t) (Zvh p t) (Zaw p t):=Goes.brk hk (fun hk=>Goes.brk hk (fun hk=>Goes.leaf) (fun hk=>Goes.brk hk (fun hk=>Goes.brk hk (fun hk=>Goes.brk hk (fun hk=>Goes.leaf) (fun hk=>Goes.nok hk)) (fun hk=>Goes.nok hk)) (fun hk=>Goes.nok hk))) (fun hk=>Goes.nok hk)
def Zmj:List Int→AV:=fun (r:List Int)=>.rw 3 (.int .i64) r
def Zeu (p:El Zc) (t:Int):Empty→Nat×St:=fun j=>nomatch j
theorem ZFg (p:El Zc) (t:Int) (L:Lt):entryA Go.Proofs.Tryz.prog (clOf Zrv) Zpi Go.Proofs.Tryz.f7 ZlH L (toForms Zfr (p,t,()))=(Zvh p t).run (fun v=>some (Zmj v,tps (toForms Zfr (p,t,())))) fun j=>L (Zeu p t j).1 (Zeu p t j).2:=by kernel_rfl
theorem ZFk (p:El Zc) (t:Int):∀(L:Lt) (j:Empty),procOf (procsF Go.Proofs.Tryz.prog (clOf Zrv) Zpi Go.Proofs.Tryz.f7 ZlH (toForms Zfr (p,t,()))) (Zeu p t j).1 L (Zeu p t j).2=(ZxF p t j).run (fun v=>some (Zmj v,tps (toForms Zfr (p,t,())))) fun j=>L (Zeu p t j).1 (Zeu p t j).2:=fun L j=>nomatch j
noncomputable def ZqR:Run:=entG Zfr Zmj (fun a=>Zdh a.1 a.2.1) (fun a=>Zaw a.1 a.2.1)
theorem Zvk:EntOK Go.Proofs.Tryz.prog 7 ZqR:=ZM (tb:=Zpi) (c:=ZlH) ZEG (by kernel_rfl) (by kernel_rfl) (by kernel_rfl) (fun a=>by kernel_rfl) fun ⟨p,t,_⟩ hk=>Zm (c:=ZlH) (K:=fun v=>(Zmj v,tps (toForms Zfr (p,t,())))) (S:=Zeu p t) (by kernel_rfl) (ZFg p t) (ZFk p t) (ZHT p t hk)
end
end Go.Ev
end

section
open Go Go.Ev
namespace Go.Ev
noncomputable section
def ZgU:Sig:=[(false,(.sl .bool))]
noncomputable def Zun:Tbl:=[]
theorem ZHm:∀p∈Zun,EntOK Go.Proofs.Tryz.prog p.1 p.2:=Zu
noncomputable def ZoV:Code:=Go.Proofs.Tryz.f8.body.getD .skip
def ZqF:Tb:=[(4,⟨[0,3,4],[(4,72)]⟩)]
inductive Zlo where | l4 (i:Int) (out:List Int)
def Zld (is:List Bool):Zlo→JT Zlo (List Int) |.l4 i out=>.br (decide (i < (Int.ofNat (List.length is)))) (.br ((decide ((0:Int)≤i))&&(decide (i < (Int.ofNat (List.length is))))) (.br (List.getD is (Int.toNat i) (dflt .bool)) (.br (Nat.ble (((List.length out)+1)*8) limit) (.jmp (.l4 (IntKind.i64.wrap (i+(1:Int))) (out++[i]))) (.no)) (.jmp (.l4 (IntKind.i64.wrap (i+(1:Int))) out))) (.no)) (.leaf out)
def Zrh (is:List Bool):JT Zlo (List Int):=.jmp (.l4 (0:Int) [])
def Zp4:List Int→AV:=fun (r:List Int)=>.rw 3 (.int .i64) r
def ZgG (is:List Bool):Zlo→Nat×St |.l4 i out=>(4,⟨mkTm 20 [(0,.d (.sl .bool) is),(3,.own 4 0 none),(4,.d (.int .i64) i)],[(4,0,.row 3 (.int .i64) out false)]⟩)
theorem ZG7 (is:List Bool) (L:Lt):entryA Go.Proofs.Tryz.prog (clOf Zun) ZqF Go.Proofs.Tryz.f8 ZoV L (toForms ZgU (is,()))=(Zrh is).run (fun v=>some (Zp4 v,tps (toForms ZgU (is,())))) fun j=>L (ZgG is j).1 (ZgG is j).2:=by kernel_rfl
theorem ZIk (is:List Bool):∀(L:Lt) (j:Zlo),procOf (procsF Go.Proofs.Tryz.prog (clOf Zun) ZqF Go.Proofs.Tryz.f8 ZoV (toForms ZgU (is,()))) (ZgG is j).1 L (ZgG is j).2=(Zld is j).run (fun v=>some (Zp4 v,tps (toForms ZgU (is,())))) fun j=>L (ZgG is j).1 (ZgG is j).2 | L,.l4 i out=>by kernel_rfl
end
end Go.Ev
end

section
open Go
namespace Go.Ev
def ZdL (is:List Bool):List Int:=listFrom 0 is
def Ziw (is:List Bool):Bool:=decide (is.length < 1099511627776)
theorem ZJI (is:List Bool) (hk:Ziw is=true):Goes (Zld is) (Zrh is) (ZdL is):=by
 have hn:is.length < 1099511627776:=of_decide_eq_true hk
 have loop:∀k,k≤is.length→∀out:List Int,out.length≤k→Goes (Zld is) (.jmp (.l4 (k:Int) out)) (out++listFrom k (is.drop k)):=by
  refine down ?_ fun k hk ih=>?_
  ·intro out ho
   rw[Zi]
   simp only[Zld,Ze,Zw (Nat.lt_irrefl _),List.drop_length]
   rw[show listFrom is.length []=[] from rfl,List.append_nil]
   exact .leaf
  ·intro out ho
   rw[Zi,ZO hk]
   have b1:Nat.ble ((out.length+1)*8) limit=true:=Nat.ble_eq_true_of_le (by unfold limit;omega)
   simp only[Zld,Ze,ZR hk,nng,Bool.and_self,if_true,Int.toNat_natCast,ZH hk,Zr (k:=k) (by omega),b1]
   unfold listFrom
   split
   ·have:=ih (out++[(k:Int)]) (by rw[List.length_append,List.length_singleton];omega)
    rw[List.append_assoc] at this
    exact this
   ·exact ih out (by omega)
 have:=loop 0 (Nat.zero_le _) [] (by simp)
 unfold Zrh ZdL
 simpa using this
end Go.Ev
end

section
open Go Go.Ev
namespace Go.Ev
noncomputable section
noncomputable def ZyN:Run:=entG ZgU Zp4 (fun a=>Ziw a.1) (fun a=>ZdL a.1)
theorem ZGT:EntOK Go.Proofs.Tryz.prog 8 ZyN:=ZM (tb:=ZqF) (c:=ZoV) ZHm (by kernel_rfl) (by kernel_rfl) (by kernel_rfl) (fun a=>by kernel_rfl) fun ⟨is,_⟩ hk=>Zm (c:=ZoV) (K:=fun v=>(Zp4 v,tps (toForms ZgU (is,())))) (S:=ZgG is) (by kernel_rfl) (ZG7 is) (ZIk is) (ZJI is hk)
end
end Go.Ev
end

section
open Go Go.Ev
namespace Go.Ev
noncomputable section
def ZfN:Sig:=[]
noncomputable def Zqw:Tbl:=[]
theorem ZEx:∀p∈Zqw,EntOK Go.Proofs.Tryz.prog p.1 p.2:=Zu
noncomputable def ZmN:Code:=Go.Proofs.Tryz.f18.body.getD .skip
def Zqi:Tb:=[]
def Zxi:Empty→JT Empty (El Zc):=fun j=>nomatch j
def ZvY:JT Empty (El Zc):=.leaf ([((bs [120]),((1:Int),[])),((bs [121]),((1:Int),[]))],[[((1:Int),(false,((0:Int),(((3:Int),((0:Int),((0:Int),(0:Int)))),(((2:Int),((0:Int),((0:Int),(1:Int)))),((bs []),[])))))),((1:Int),(false,((0:Int),(((1:Int),((0:Int),((0:Int),(0:Int)))),(((3:Int),((0:Int),((1:Int),(0:Int)))),((bs []),[])))))),((14:Int),(false,((0:Int),(((0:Int),((0:Int),((0:Int),(0:Int)))),(((0:Int),((0:Int),((0:Int),(0:Int)))),((bs []),[]))))))],[((1:Int),(false,((0:Int),(((3:Int),((0:Int),((1:Int),(0:Int)))),(((2:Int),((0:Int),((0:Int),(1:Int)))),((bs []),[])))))),((1:Int),(false,((0:Int),(((1:Int),((0:Int),((0:Int),(0:Int)))),(((3:Int),((0:Int),((0:Int),(0:Int)))),((bs []),[])))))),((14:Int),(false,((0:Int),(((0:Int),((0:Int),((0:Int),(0:Int)))),(((0:Int),((0:Int),((0:Int),(0:Int)))),((bs []),[]))))))]])
def Zk:El Zc:=([((bs [120]),((1:Int),[])),((bs [121]),((1:Int),[]))],[[((1:Int),(false,((0:Int),(((3:Int),((0:Int),((0:Int),(0:Int)))),(((2:Int),((0:Int),((0:Int),(1:Int)))),((bs []),[])))))),((1:Int),(false,((0:Int),(((1:Int),((0:Int),((0:Int),(0:Int)))),(((3:Int),((0:Int),((1:Int),(0:Int)))),((bs []),[])))))),((14:Int),(false,((0:Int),(((0:Int),((0:Int),((0:Int),(0:Int)))),(((0:Int),((0:Int),((0:Int),(0:Int)))),((bs []),[]))))))],[((1:Int),(false,((0:Int),(((3:Int),((0:Int),((1:Int),(0:Int)))),(((2:Int),((0:Int),((0:Int),(1:Int)))),((bs []),[])))))),((1:Int),(false,((0:Int),(((1:Int),((0:Int),((0:Int),(0:Int)))),(((3:Int),((0:Int),((0:Int),(0:Int)))),((bs []),[])))))),((14:Int),(false,((0:Int),(((0:Int),((0:Int),((0:Int),(0:Int)))),(((0:Int),((0:Int),((0:Int),(0:Int)))),((bs []),[]))))))]])
theorem ZHw:Goes (Zxi) (ZvY) (Zk):=Goes.leaf
def ZlP:El Zc→AV:=fun (r:El Zc)=>.ag [.rw 44 Zx r.1,.rw 33 (.sl Za) r.2]
def Ze2:Empty→Nat×St:=fun j=>nomatch j
theorem ZE6 (L:Lt):entryA Go.Proofs.Tryz.prog (clOf Zqw) Zqi Go.Proofs.Tryz.f18 ZmN L (toForms ZfN (()))=(ZvY).run (fun v=>some (ZlP v,tps (toForms ZfN (())))) fun j=>L (Ze2 j).1 (Ze2 j).2:=by kernel_rfl
theorem ZFf:∀(L:Lt) (j:Empty),procOf (procsF Go.Proofs.Tryz.prog (clOf Zqw) Zqi Go.Proofs.Tryz.f18 ZmN (toForms ZfN (()))) (Ze2 j).1 L (Ze2 j).2=(Zxi j).run (fun v=>some (ZlP v,tps (toForms ZfN (())))) fun j=>L (Ze2 j).1 (Ze2 j).2:=fun L j=>nomatch j
noncomputable def ZwR:Run:=entT ZfN ZlP (fun a=>Zk)
theorem ZED:EntOK Go.Proofs.Tryz.prog 18 ZwR:=Zat (tb:=Zqi) (c:=ZmN) ZEx (by kernel_rfl) (by kernel_rfl) (by kernel_rfl) (fun a=>by kernel_rfl) fun _=>Zm (c:=ZmN) (K:=fun v=>(ZlP v,tps (toForms ZfN (())))) (S:=Ze2) (by kernel_rfl) (ZE6) (ZFf) (ZHw)
end
end Go.Ev
end

section
open Go Go.Ev
namespace Go.Ev
noncomputable section
noncomputable def ZqP:Run:=entG Zcl Zhq (fun a=>ZaP a.1 a.2.1) (fun a=>ZaC a.1 a.2.1)
theorem Zyg:EntOK Go.Proofs.Tryz.prog 19 ZqP:=ZM (tb:=Zjz) (c:=Zhz) Zx5 (by kernel_rfl) (by kernel_rfl) (by kernel_rfl) (fun a=>by kernel_rfl) fun ⟨a,b,_⟩ hk=>Zm (c:=Zhz) (K:=fun v=>(Zhq v,tps (toForms Zcl (a,b,())))) (S:=Zb8 a b) (by kernel_rfl) (Zx6 a b) (ZxY a b) (Zzq a b hk)
end
end Go.Ev
end

section
open Go Go.Ev
namespace Go.Ev
noncomputable section
def Zfu:Sig:=[(true,Zc),(false,(.int .i64)),(false,(.sl (.int .i64)))]
noncomputable def Zro:Tbl:=[(14,ZoZ),(16,Zhn),(32,Zyy),(43,ZjL)]
theorem ZD4:∀p∈Zro,EntOK Go.Proofs.Tryz.prog p.1 p.2:=Zg Zrd (Zg ZiF (Zg ZyM (Zg ZnE (Zu))))
noncomputable def Zmg:Code:=Go.Proofs.Tryz.f20.body.getD .skip
def ZoQ:Tb:=[]
def Zw9 (p:El Zc) (t:Int) (points:List Int):Empty→JT Empty (Bool):=fun j=>nomatch j
def Zwd (p:El Zc) (t:Int) (points:List Int):JT Empty (Bool):=.br (ZbO p t) (.br (ZbQ p t) (.br ((decide ((0:Int)≤t))&&(decide (t < (Int.ofNat (List.length p.2))))) (.br (Z2 p) (.br (Zek (Zl p) t) (.br (ZaB (List.getD p.2 (Int.toNat t) (dflt (.sl Za))) (Zas (Zl p) t) points) (.leaf ((Int.ofNat (List.length (ZbC (List.getD p.2 (Int.toNat t) (dflt (.sl Za))) (Zas (Zl p) t) points)))==(0:Int))) (.no)) (.no)) (.no)) (.no)) (.leaf false)) (.no)
def ZaX (p:El Zc) (t:Int) (points:List Int):Bool:=bif (ZbO p t) then bif (ZbQ p t) then bif ((decide ((0:Int)≤t))&&(decide (t < (Int.ofNat (List.length p.2))))) then bif (Z2 p) then bif (Zek (Zl p) t) then bif (ZaB (List.getD p.2 (Int.toNat t) (dflt (.sl Za))) (Zas (Zl p) t) points) then ((Int.ofNat (List.length (ZbC (List.getD p.2 (Int.toNat t) (dflt (.sl Za))) (Zas (Zl p) t) points)))==(0:Int)) else false else false else false else false else false else false
def Za9 (p:El Zc) (t:Int) (points:List Int):Bool:=bif (ZbO p t) then bif (ZbQ p t) then bif ((decide ((0:Int)≤t))&&(decide (t < (Int.ofNat (List.length p.2))))) then bif (Z2 p) then bif (Zek (Zl p) t) then bif (ZaB (List.getD p.2 (Int.toNat t) (dflt (.sl Za))) (Zas (Zl p) t) points) then true else false else false else false else false else true else false
theorem ZGo (p:El Zc) (t:Int) (points:List Int) (hk:Za9 p t points=true):Goes (Zw9 p t points) (Zwd p t points) (ZaX p t points):=Goes.brk hk (fun hk=>Goes.brk hk (fun hk=>Goes.brk hk (fun hk=>Goes.brk hk (fun hk=>Goes.brk hk (fun hk=>Goes.brk hk (fun hk=>Goes.leaf) (fun hk=>Goes.nok hk)) (fun hk=>Goes.nok hk)) (fun hk=>Goes.nok hk)) (fun hk=>Goes.nok hk)) (fun hk=>Goes.leaf)) (fun hk=>Goes.nok hk)
def Zmk:Bool→AV:=fun (r:Bool)=>.d .bool r
def ZeR (p:El Zc) (t:Int) (points:List Int):Empty→Nat×St:=fun j=>nomatch j
theorem ZFj (p:El Zc) (t:Int) (points:List Int) (L:Lt):entryA Go.Proofs.Tryz.prog (clOf Zro) ZoQ Go.Proofs.Tryz.f20 Zmg L (toForms Zfu (p,t,points,()))=(Zwd p t points).run (fun v=>some (Zmk v,tps (toForms Zfu (p,t,points,())))) fun j=>L (ZeR p t points j).1 (ZeR p t points j).2:=by kernel_rfl
theorem ZCU (p:El Zc) (t:Int) (points:List Int):∀(L:Lt) (j:Empty),procOf (procsF Go.Proofs.Tryz.prog (clOf Zro) ZoQ Go.Proofs.Tryz.f20 Zmg (toForms Zfu (p,t,points,()))) (ZeR p t points j).1 L (ZeR p t points j).2=(Zw9 p t points j).run (fun v=>some (Zmk v,tps (toForms Zfu (p,t,points,())))) fun j=>L (ZeR p t points j).1 (ZeR p t points j).2:=fun L j=>nomatch j
noncomputable def Zxt:Run:=entG Zfu Zmk (fun a=>Za9 a.1 a.2.1 a.2.2.1) (fun a=>ZaX a.1 a.2.1 a.2.2.1)
theorem ZD2:EntOK Go.Proofs.Tryz.prog 20 Zxt:=ZM (tb:=ZoQ) (c:=Zmg) ZD4 (by kernel_rfl) (by kernel_rfl) (by kernel_rfl) (fun a=>by kernel_rfl) fun ⟨p,t,points,_⟩ hk=>Zm (c:=Zmg) (K:=fun v=>(Zmk v,tps (toForms Zfu (p,t,points,())))) (S:=ZeR p t points) (by kernel_rfl) (ZFj p t points) (ZCU p t points) (ZGo p t points hk)
end
end Go.Ev
end

section
open Go Go.Ev
namespace Go.Ev
noncomputable section
def Zg8:Sig:=[(true,Zc),(false,(.int .i64))]
noncomputable def Zux:Tbl:=[(14,ZoZ),(17,ZlT),(32,Zyy),(44,Zmw)]
theorem ZHF:∀p∈Zux,EntOK Go.Proofs.Tryz.prog p.1 p.2:=Zg Zrd (Zg Zok (Zg ZyM (Zg Zot (Zu))))
noncomputable def Zof:Code:=Go.Proofs.Tryz.f21.body.getD .skip
def Zsd:Tb:=[(7,⟨[5,15,16,17],[(6,72)]⟩),(hintK,⟨[],[(1,72)]⟩)]
inductive ZkE where | l7 (h:Int) (out:List Int)
def Zlt (p:El Zc) (t:Int):ZkE→JT ZkE (List Int) |.l7 h out=>.br (decide (h < (Int.ofNat (List.length (Zas (Zv p) t))))) (.br ((decide ((0:Int)≤h))&&(decide (h < (Int.ofNat (List.length (Zas (Zv p) t)))))) (.br (Nat.ble (((List.length out)+1)*8) limit) (.jmp (.l7 (IntKind.i64.wrap (h+(1:Int))) (out++[(IntKind.i64.wrap ((List.getD (Zas (Zv p) t) (Int.toNat h) (dflt Zd)).2.1+(1:Int)))]))) (.no)) (.no)) (.br (Zdk out) (.leaf (Zg3 out)) (.no))
def ZqI (p:El Zc) (t:Int):JT ZkE (List Int):=.br (ZbO p t) (.br (! (ZbQ p t)) (.leaf []) (.br (Zbp p) (.br (Zek (Zv p) t) (.jmp (.l7 (0:Int) [])) (.no)) (.no))) (.no)
def Zoe:List Int→AV:=fun (r:List Int)=>.rw 3 (.int .i64) r
def Zgi (p:El Zc) (t:Int):ZkE→Nat×St |.l7 h out=>(7,⟨mkTm 30 [(5,.own 6 0 none),(15,.own 16 0 none),(16,.d (.int .i64) (Int.ofNat (List.length (Zas (Zv p) t)))),(17,.d (.int .i64) h)],[(6,0,.row 3 (.int .i64) out false),(16,0,.row 35 Zd (Zas (Zv p) t) false)]⟩)
theorem ZGR (p:El Zc) (t:Int) (L:Lt):entryA Go.Proofs.Tryz.prog (clOf Zux) Zsd Go.Proofs.Tryz.f21 Zof L (toForms Zg8 (p,t,()))=(ZqI p t).run (fun v=>some (Zoe v,tps (toForms Zg8 (p,t,())))) fun j=>L (Zgi p t j).1 (Zgi p t j).2:=by kernel_rfl
theorem ZHo (p:El Zc) (t:Int):∀(L:Lt) (j:ZkE),procOf (procsF Go.Proofs.Tryz.prog (clOf Zux) Zsd Go.Proofs.Tryz.f21 Zof (toForms Zg8 (p,t,()))) (Zgi p t j).1 L (Zgi p t j).2=(Zlt p t j).run (fun v=>some (Zoe v,tps (toForms Zg8 (p,t,())))) fun j=>L (Zgi p t j).1 (Zgi p t j).2 | L,.l7 h out=>by kernel_rfl
end
end Go.Ev
end

section
open Go
namespace Go.Ev
noncomputable def allT (p:El Zc) (t:Int):List PairD:=(Zl p).filter (ofB t)
noncomputable def opT (p:El Zc) (t:Int):List PairD:=(Zv p).filter (ofB t)
structure PairIn (p:El Zc) (x:PairD):Prop where
 th0:0≤(show Int from x.1)
 th1:(show Int from x.1) < (p.2.length:Int)
 flow:flowOK (thrT p x.1)=true
 st0:0≤(show Int from x.2.1)
 st1:(show Int from x.2.1) < ((thrT p x.1).length:Int)
 ld0:0≤(show Int from x.2.2)
 ld1:(show Int from x.2.2) < ((thrT p x.1).length:Int)
structure CutF (p:El Zc):Prop where
 small:smallAll p=true
 kp:Z2 p=true
 ko:Zbp p=true
 eq:ZA p=Zl p
 opq:Zan p=Zv p
 kd:ZbZ p=true
 kro:Ze9 p=true
 lp:(Zl p).length≤400000000
 lo:(Zv p).length≤400000000
 pin:∀x∈Zl p,PairIn p x
 osub:∀x∈Zv p,x∈Zl p∧openB p x=true
 oin:∀x∈Zl p,openB p x=true→x∈Zv p
 right:∀t,ZbO p t=true∧ZbQ p t=rightT p t
 flow:∀t,rightT p t=true→flowOK (thrT p t)=true∧(decide ((0:Int)≤t)&&decide (t < Int.ofNat p.2.length))=true∧checkC p=0
 thr:p.2.length≤100
theorem ZM5 {p:El Zc} (h:smallProg p=true) (t:Int):ZbO p t=true∧ZbQ p t=rightT p t:=by
 have hk:Za6 p=true:=h
 have hv:Zbz p=checkC p:=rfl
 unfold ZbO ZbQ rightT
 rw[hk,hv]
 by_cases h0:(0:Int)≤t
 ·rw[decide_eq_true (show t≥0 from h0)]
  by_cases h1:t < (p.2.length:Int)
  ·rw[decide_eq_true (show t < Int.ofNat p.2.length from h1),decide_eq_true h1]
   refine ⟨rfl,?_⟩
   show (checkC p==0)=(true&&(true&&decide (checkC p=0)))
   rw[Bool.true_and,Bool.true_and,Bool.eq_iff_iff,beq_iff_eq,decide_eq_true_eq]
  ·rw[decide_eq_false (show ¬t < Int.ofNat p.2.length from h1),decide_eq_false h1]
   exact ⟨rfl,rfl⟩
 ·rw[decide_eq_false (show ¬t≥0 from h0)]
  exact ⟨rfl,rfl⟩
theorem Zv4 {p:El Zc} (h:cutOK p=true):CutF p:=by
 unfold cutOK at h
 rw[Bool.and_eq_true,Bool.and_eq_true,decide_eq_true_eq,decide_eq_true_eq] at h
 obtain ⟨hs,hN,hT⟩:=h
 obtain ⟨a1,a2,a3,_,a5,a6,a7,_⟩:=ZLA hs hN hT
 have hA:=smallA hs
 have hl:=ZKe p
 have hNN:(ofC p).length*(ofC p).length≤20000*20000:=Nat.mul_le_mul hN hN
 have hlp:(Zl p).length≤400000000:=by rw[←a3];omega
 have hlo:(Zv p).length≤(Zl p).length:=by unfold Zv;exact List.length_filter_le _ _
 refine ⟨hs,a1,a5,a3,a7,a2,a6,hlp,by omega,fun x hx=>?_,fun x hx=>?_,fun x hx ho=>?_,fun t=>ZM5 hA.prog t,fun t ht=>?_,hT⟩
 ·rw[←a3] at hx
  obtain ⟨s,r,s1,r1,_,hd,rfl⟩:=ZES hx
  obtain ⟨t0,t1,f1,i0,i1⟩:=Zf3 hs s1
  obtain ⟨_,_,f2,j0,j1⟩:=Zf3 hs r1
  unfold delB at hd
  simp only[Bool.and_eq_true,beq_iff_eq] at hd
  have hth:=hd.1.1
  have e:thrOf p (ofC p) r=thrOf p (ofC p) s:=by unfold thrOf;rw[hth]
  rw[e] at j1
  exact ⟨t0,t1,f1,i0,i1,j0,j1⟩
 ·unfold Zv at hx
  exact List.mem_filter.1 hx
 ·unfold Zv
  exact List.mem_filter.2 ⟨hx,ho⟩
 ·unfold rightT at ht
  rw[Bool.and_eq_true,Bool.and_eq_true,decide_eq_true_eq,decide_eq_true_eq,decide_eq_true_eq] at ht
  obtain ⟨h0,h1,h2⟩:=ht
  refine ⟨?_,?_,h2⟩
  ·obtain ⟨n,rfl⟩:=Int.eq_ofNat_of_zero_le h0
   have hn:n < p.2.length:=by omega
   unfold thrT
   rw[Int.toNat_natCast,ZH hn]
   exact Zsz (hA.thr _ (List.getElem_mem hn))
  ·rw[decide_eq_true h0,decide_eq_true (show t < Int.ofNat p.2.length from h1)];rfl
theorem ZN6 {p:El Zc} (hF:CutF p) {t:Int} {x:PairD} (hx:x∈opT p t):PairIn p x∧(show Int from x.1)=t:=by
 obtain ⟨h1,h2⟩:=List.mem_filter.1 hx
 exact ⟨hF.pin x (hF.osub x h1).1,by unfold ofB at h2;simpa using h2⟩
theorem Zzt {p:El Zc} {x:PairD} (h:PairIn p x):0≤(show Int from x.2.1)∧(show Int from x.2.1) < 1099511627776:=by
 have h1:=h.st1
 have h2:=Zby h.flow
 refine ⟨h.st0,?_⟩
 generalize (show Int from x.2.1)=y at*
 omega
theorem ZOs {p:El Zc} (hF:CutF p) (t:Int):(opT p t).length≤400000000:=Nat.le_trans (List.length_filter_le _ _) hF.lo
theorem ZNd {p:El Zc} (hF:CutF p) (t:Int):(allT p t).length≤400000000:=Nat.le_trans (List.length_filter_le _ _) hF.lp
end Go.Ev
end

section
open Go
namespace Go.Ev
noncomputable def Zcd (p:El Zc) (t:Int):List Int:=if rightT p t=true then putsL [] ((opT p t).map fun x=>(show Int from x.2.1)+1) else []
def Zik (p:El Zc) (t:Int):Bool:=cutOK p
theorem ZJo (p:El Zc) (t:Int) (hk:Zik p t=true):Goes (Zlt p t) (ZqI p t) (Zcd p t):=by
 have hF:=Zv4 hk
 obtain ⟨r1,r2⟩:=hF.right t
 unfold ZqI Zcd
 rw[Ze,if_pos r1,r2,Ze]
 by_cases hr:¬rightT p t=true
 ·rw[if_pos (by simpa using hr),if_neg hr]
  exact .leaf
 have hr:=Decidable.not_not.1 hr
 rw[if_neg (by rw[hr];decide),if_pos hr,Ze,if_pos hF.ko,Ze,if_pos (show Zek (Zv p) t=true from decide_eq_true (by have:=hF.lo;omega))]
 have hv:Zas (Zv p) t=opT p t:=rfl
 have hN:=ZOs hF t
 have hs:∀x∈opT p t,0≤(show Int from x.2.1)∧(show Int from x.2.1) < 1099511627776:=fun x hx=>Zzt (ZN6 hF hx).1
 obtain ⟨O,hO⟩:∃O,opT p t=O:=⟨_,rfl⟩
 rw[hO] at hN hs hv ⊢
 have loop:∀k,k≤O.length→Goes (Zlt p t) (.jmp (.l7 (k:Int) ((O.take k).map fun x=>(show Int from x.2.1)+1))) (putsL [] (O.map fun x=>(show Int from x.2.1)+1)):=by
  refine down ?_ fun k hk ih=>?_
  ·rw[Zi,Zlt,hv,Ze,if_neg (by rw[Zw (Nat.lt_irrefl _)];decide),List.take_length,Ze,if_pos (show Zdk _=true from decide_eq_true (by rw[List.length_map];omega))]
   exact .leaf
  ·have b1:Nat.ble ((((O.take k).map fun x=>(show Int from x.2.1)+1).length+1)*8) limit=true:=Nat.ble_eq_true_of_le (by rw[List.length_map,List.length_take];unfold limit;omega)
   obtain ⟨s0,s1⟩:=hs _ (List.getElem_mem hk)
   have hw:IntKind.i64.wrap (O[k].2.1+(1:Int))=(show Int from O[k].2.1)+1:=by
    show IntKind.i64.wrap ((show Int from O[k].2.1)+(1:Int))=_
    generalize (show Int from O[k].2.1)=y at*
    exact wrap_i64 (by omega) (by omega)
   rw[List.take_succ_eq_append_getElem hk,List.map_append] at ih
   rw[Zi,Zlt,hv,Ze,if_pos (ZR hk),Ze,if_pos (by rw[nng,ZR hk];rfl),Ze,if_pos b1,Int.toNat_natCast,ZH hk,Zr (by omega),hw]
   exact ih
 exact loop 0 (Nat.zero_le _)
end Go.Ev
end

section
open Go Go.Ev
namespace Go.Ev
noncomputable section
noncomputable def ZAc:Run:=entG Zg8 Zoe (fun a=>Zik a.1 a.2.1) (fun a=>Zcd a.1 a.2.1)
theorem ZHj:EntOK Go.Proofs.Tryz.prog 21 ZAc:=ZM (tb:=Zsd) (c:=Zof) ZHF (by kernel_rfl) (by kernel_rfl) (by kernel_rfl) (fun a=>by kernel_rfl) fun ⟨p,t,_⟩ hk=>Zm (c:=Zof) (K:=fun v=>(Zoe v,tps (toForms Zg8 (p,t,())))) (S:=Zgi p t) (by kernel_rfl) (ZGR p t) (ZHo p t) (ZJo p t hk)
end
end Go.Ev
end

section
open Go Go.Ev
namespace Go.Ev
noncomputable section
def Zku:Sig:=[(true,Zc)]
noncomputable def Zzy:Tbl:=[(31,ZjW),(16,Zhn),(17,ZlT),(15,Zq5)]
theorem ZLy:∀p∈Zzy,EntOK Go.Proofs.Tryz.prog p.1 p.2:=Zg Znc (Zg ZiF (Zg Zok (Zg Zu4 (Zu))))
noncomputable def Zwb:Code:=Go.Proofs.Tryz.f22.body.getD .skip
def Zwr:Tb:=[(8,⟨[1,3,4,5,20,21],[]⟩),(hintK,⟨[],[(1,120)]⟩)]
inductive Zr8 where | l8 (h:Int) (out:List (List Int))
def ZqQ (p:El Zc):Zr8→JT Zr8 (List (List Int)) |.l8 h out=>.br (decide (h < (Int.ofNat (List.length p.2)))) (.br (Zcy p h (Zl p) (Zv p)) (.br ((decide ((0:Int)≤h))&&(decide (h < (Int.ofNat (List.length out))))) (.jmp (.l8 (IntKind.i64.wrap (h+(1:Int))) (List.set out (Int.toNat h) (ZbI p h (Zl p) (Zv p))))) (.no)) (.no)) (.leaf out)
def ZwE (p:El Zc):JT Zr8 (List (List Int)):=.br (Za6 p) (.br ((Zbz p) !=(0:Int)) (.leaf []) (.br (Z2 p) (.br (Zbp p) (.br ((((Int.ofNat (List.length p.2))==(Int.ofNat (List.length p.2)))&&(decide ((0:Int)≤(Int.ofNat (List.length p.2)))))&&(decide (((Int.ofNat (List.length p.2))*(24:Int))≤(limit:Int)))) (.jmp (.l8 (0:Int) (List.replicate (List.length p.2) []))) (.no)) (.no)) (.no))) (.no)
def Zv7:List (List Int)→AV:=fun (r:List (List Int))=>.rw 36 (.sl (.int .i64)) r
def ZkP (p:El Zc):Zr8→Nat×St |.l8 h out=>(8,⟨mkTm 34 [(1,.pt 2 0 0),(3,.own 4 0 none),(4,.own 5 0 none),(5,.own 6 0 none),(20,.d (.int .i64) (Int.ofNat (List.length p.2))),(21,.d (.int .i64) h)],[(2,0,.box 26 [.d (.sl Zx) p.1,.d (.sl (.sl Za)) p.2] none),(4,0,.row 35 Zd (Zl p) false),(5,0,.row 35 Zd (Zv p) false),(6,0,.row 36 (.sl (.int .i64)) out false)]⟩)
theorem ZLi (p:El Zc) (L:Lt):entryA Go.Proofs.Tryz.prog (clOf Zzy) Zwr Go.Proofs.Tryz.f22 Zwb L (toForms Zku (p,()))=(ZwE p).run (fun v=>some (Zv7 v,tps (toForms Zku (p,())))) fun j=>L (ZkP p j).1 (ZkP p j).2:=by kernel_rfl
theorem ZLd (p:El Zc):∀(L:Lt) (j:Zr8),procOf (procsF Go.Proofs.Tryz.prog (clOf Zzy) Zwr Go.Proofs.Tryz.f22 Zwb (toForms Zku (p,()))) (ZkP p j).1 L (ZkP p j).2=(ZqQ p j).run (fun v=>some (Zv7 v,tps (toForms Zku (p,())))) fun j=>L (ZkP p j).1 (ZkP p j).2 | L,.l8 h out=>by kernel_rfl
end
end Go.Ev
end

section
open Go
namespace Go.Ev
noncomputable def Zjl (p:El Zc):List (List Int):=if checkC p=0 then (List.range p.2.length).map fun t:Nat=>ZbI p (t:Int) (Zl p) (Zv p) else []
def ZnX (p:El Zc):Bool:=cutOK p
theorem Zxd {p:El Zc} (hF:CutF p) {t:Int} (hr:rightT p t=true):Zcy p t (Zl p) (Zv p)=true:=by
 obtain ⟨f1,f2,_⟩:=hF.flow t hr
 have h1:=hF.lp
 have h2:=hF.lo
 unfold Zcy
 rw[f2,f1,decide_eq_true (show (Zl p).length < 1000000000 by omega),decide_eq_true (show (Zv p).length < 1000000000 by omega),Bool.true_and,Bool.true_and,Bool.true_and,Bool.true_and]
 refine List.all_eq_true.2 fun x hx=>?_
 obtain ⟨hp,ht⟩:=ZN6 hF hx
 have s:=Zzt hp
 have l0:=hp.ld0
 have l1:=hp.ld1
 have e:thrT p (show Int from x.1)=thrT p t:=by rw[ht]
 rw[show thrT p x.1=thrT p t from e] at l1
 unfold loadIn storeIn
 rw[Bool.and_eq_true,decide_eq_true_eq,decide_eq_true_eq]
 exact ⟨⟨l0,l1⟩,s⟩
theorem ZM4 (p:El Zc) (hk:ZnX p=true):Goes (ZqQ p) (ZwE p) (Zjl p):=by
 have hF:=Zv4 hk
 have hA:=smallA hF.small
 have hT:=hF.thr
 have hkc:Za6 p=true:=hA.prog
 have hvc:Zbz p=checkC p:=rfl
 have hmk:((((Int.ofNat (List.length p.2))==(Int.ofNat (List.length p.2)))&&(decide ((0:Int)≤(Int.ofNat (List.length p.2)))))&&(decide (((Int.ofNat (List.length p.2))*(24:Int))≤(limit:Int))))=true:=by
  rw[beq_self_eq_true,decide_eq_true (show (0:Int)≤Int.ofNat (List.length p.2) from Int.natCast_nonneg _),Bool.true_and,Bool.true_and]
  refine decide_eq_true ?_
  show ((List.length p.2:Nat):Int)*24≤((35184372088832:Nat):Int)
  omega
 unfold ZwE Zjl
 rw[Ze,if_pos hkc,hvc,Ze]
 by_cases hc:checkC p=0
 ·rw[if_neg (by rw[hc];decide),if_pos hc,Ze,if_pos hF.kp,Ze,if_pos hF.ko,Ze,if_pos hmk]
  have hr:∀k,k < p.2.length→rightT p (k:Int)=true:=fun k hk=>by
   unfold rightT
   rw[decide_eq_true (Int.natCast_nonneg k),decide_eq_true (show (k:Int) < (p.2.length:Int) by omega),decide_eq_true hc];rfl
  obtain ⟨V,hV⟩:∃V:Nat→List Int,V=fun t:Nat=>ZbI p (t:Int) (Zl p) (Zv p):=⟨_,rfl⟩
  have loop:∀k,k≤p.2.length→Goes (ZqQ p) (.jmp (.l8 (k:Int) ((List.range p.2.length).map fun t=>if t < k then V t else []))) ((List.range p.2.length).map V):=by
   refine down ?_ fun k hk ih=>?_
   ·rw[Zi,ZqQ,Ze,if_neg (by rw[Zw (Nat.lt_irrefl _)];decide)]
    have:((List.range p.2.length).map fun t=>if t < p.2.length then V t else [])=(List.range p.2.length).map V:=List.map_congr_left fun t ht=>by rw[if_pos (List.mem_range.1 ht)]
    rw[this]
    exact .leaf
   ·have hlen:((List.range p.2.length).map fun t=>if t < k then V t else []).length=p.2.length:=by simp
    rw[Zi,ZqQ,Ze,if_pos (ZR hk),Ze,if_pos (Zxd hF (hr k hk)),Ze,if_pos (by rw[nng,hlen,ZR hk];rfl),Int.toNat_natCast,Zr (by omega)]
    have e:((List.range p.2.length).map fun t=>if t < k then V t else []).set k (ZbI p (k:Int) (Zl p) (Zv p))=(List.range p.2.length).map fun t=>if t < k+1 then V t else []:=by
     apply List.ext_getElem
     ·simp
     ·intro i h1 h2
      rw[List.getElem_set]
      simp only[List.getElem_map,List.getElem_range]
      by_cases e:k=i
      ·subst e
       rw[if_pos rfl,if_pos (by omega),hV]
      ·rw[if_neg e]
       by_cases e2:i < k
       ·rw[if_pos e2,if_pos (by omega)]
       ·rw[if_neg e2,if_neg (by omega)]
    rw[e]
    exact ih
  have:=loop 0 (Nat.zero_le _)
  have e0:((List.range p.2.length).map fun t=>if t < 0 then V t else ([]:List Int))=List.replicate p.2.length []:=by
   rw[show (fun t=>if t < 0 then V t else ([]:List Int))=fun _=>[] from funext fun t=>if_neg (Nat.not_lt_zero t),List.map_const',List.length_range]
  rw[e0] at this
  rw[hV] at this
  exact this
 ·rw[if_pos (by simpa using hc),if_neg hc]
  exact .leaf
end Go.Ev
end

section
open Go Go.Ev
namespace Go.Ev
noncomputable section
noncomputable def ZF3:Run:=entG Zku Zv7 (fun a=>ZnX a.1) (fun a=>Zjl a.1)
theorem ZLr:EntOK Go.Proofs.Tryz.prog 22 ZF3:=ZM (tb:=Zwr) (c:=Zwb) ZLy (by kernel_rfl) (by kernel_rfl) (by kernel_rfl) (fun a=>by kernel_rfl) fun ⟨p,_⟩ hk=>Zm (c:=Zwb) (K:=fun v=>(Zv7 v,tps (toForms Zku (p,())))) (S:=ZkP p) (by kernel_rfl) (ZLi p) (ZLd p) (ZM4 p hk)
end
end Go.Ev
end

section
open Go Go.Ev
namespace Go.Ev
noncomputable section
def Zeb:Sig:=[]
noncomputable def ZpU:Tbl:=[(18,ZwR),(7,ZqR),(19,ZqP),(20,Zxt),(21,ZAc),(22,ZF3)]
theorem ZBb:∀p∈ZpU,EntOK Go.Proofs.Tryz.prog p.1 p.2:=Zg ZED (Zg Zvk (Zg Zyg (Zg ZD2 (Zg ZHj (Zg ZLr (Zu))))))
noncomputable def Zkg:Code:=Go.Proofs.Tryz.f9.body.getD .skip
def Znd:Tb:=[]
def ZvP:Empty→JT Empty (Bool):=fun j=>nomatch j
def Zts:JT Empty (Bool):=.br (Zdh Zk (0:Int)) (.br (ZaP (Zaw Zk (0:Int)) [(1:Int)]) (.br (ZaC (Zaw Zk (0:Int)) [(1:Int)]) (.br (Za9 Zk (0:Int) [(1:Int)]) (.br (ZaX Zk (0:Int) [(1:Int)]) (.br (Za9 Zk (0:Int) []) (.br (! (ZaX Zk (0:Int) [])) (.br (Zik Zk (1:Int)) (.br (ZaP (Zcd Zk (1:Int)) [(1:Int)]) (.br (ZaC (Zcd Zk (1:Int)) [(1:Int)]) (.br (ZnX Zk) (.br ((Int.ofNat (List.length (Zjl Zk)))==(2:Int)) (.br (Za9 Zk (2:Int) []) (.leaf (! (ZaX Zk (2:Int) []))) (.no)) (.leaf false)) (.no)) (.leaf false)) (.no)) (.no)) (.leaf false)) (.no)) (.leaf false)) (.no)) (.leaf false)) (.no)) (.no)
def ZhP:Bool:=bif (Zdh Zk (0:Int)) then bif (ZaP (Zaw Zk (0:Int)) [(1:Int)]) then bif (ZaC (Zaw Zk (0:Int)) [(1:Int)]) then bif (Za9 Zk (0:Int) [(1:Int)]) then bif (ZaX Zk (0:Int) [(1:Int)]) then bif (Za9 Zk (0:Int) []) then bif (! (ZaX Zk (0:Int) [])) then bif (Zik Zk (1:Int)) then bif (ZaP (Zcd Zk (1:Int)) [(1:Int)]) then bif (ZaC (Zcd Zk (1:Int)) [(1:Int)]) then bif (ZnX Zk) then bif ((Int.ofNat (List.length (Zjl Zk)))==(2:Int)) then bif (Za9 Zk (2:Int) []) then (! (ZaX Zk (2:Int) [])) else false else false else false else false else false else false else false else false else false else false else false else false else false
def Zhp:Bool:=bif (Zdh Zk (0:Int)) then bif (ZaP (Zaw Zk (0:Int)) [(1:Int)]) then bif (ZaC (Zaw Zk (0:Int)) [(1:Int)]) then bif (Za9 Zk (0:Int) [(1:Int)]) then bif (ZaX Zk (0:Int) [(1:Int)]) then bif (Za9 Zk (0:Int) []) then bif (! (ZaX Zk (0:Int) [])) then bif (Zik Zk (1:Int)) then bif (ZaP (Zcd Zk (1:Int)) [(1:Int)]) then bif (ZaC (Zcd Zk (1:Int)) [(1:Int)]) then bif (ZnX Zk) then bif ((Int.ofNat (List.length (Zjl Zk)))==(2:Int)) then bif (Za9 Zk (2:Int) []) then true else false else true else false else true else false else false else true else false else true else false else true else false else false
theorem ZD7 (hk:Zhp=true):Goes (ZvP) (Zts) (ZhP):=Goes.brk hk (fun hk=>Goes.brk hk (fun hk=>Goes.brk hk (fun hk=>Goes.brk hk (fun hk=>Goes.brk hk (fun hk=>Goes.brk hk (fun hk=>Goes.brk hk (fun hk=>Goes.brk hk (fun hk=>Goes.brk hk (fun hk=>Goes.brk hk (fun hk=>Goes.brk hk (fun hk=>Goes.brk hk (fun hk=>Goes.brk hk (fun hk=>Goes.leaf) (fun hk=>Goes.nok hk)) (fun hk=>Goes.leaf)) (fun hk=>Goes.nok hk)) (fun hk=>Goes.leaf)) (fun hk=>Goes.nok hk)) (fun hk=>Goes.nok hk)) (fun hk=>Goes.leaf)) (fun hk=>Goes.nok hk)) (fun hk=>Goes.leaf)) (fun hk=>Goes.nok hk)) (fun hk=>Goes.leaf)) (fun hk=>Goes.nok hk)) (fun hk=>Goes.nok hk)
def ZjM:Bool→AV:=fun (r:Bool)=>.d .bool r
def Zdm:Empty→Nat×St:=fun j=>nomatch j
theorem ZAZ (L:Lt):entryA Go.Proofs.Tryz.prog (clOf ZpU) Znd Go.Proofs.Tryz.f9 Zkg L (toForms Zeb (()))=(Zts).run (fun v=>some (ZjM v,tps (toForms Zeb (())))) fun j=>L (Zdm j).1 (Zdm j).2:=by kernel_rfl
theorem ZAK:∀(L:Lt) (j:Empty),procOf (procsF Go.Proofs.Tryz.prog (clOf ZpU) Znd Go.Proofs.Tryz.f9 Zkg (toForms Zeb (()))) (Zdm j).1 L (Zdm j).2=(ZvP j).run (fun v=>some (ZjM v,tps (toForms Zeb (())))) fun j=>L (Zdm j).1 (Zdm j).2:=fun L j=>nomatch j
noncomputable def ZuF:Run:=entG Zeb ZjM (fun a=>Zhp) (fun a=>ZhP)
theorem ZBB:EntOK Go.Proofs.Tryz.prog 9 ZuF:=ZM (tb:=Znd) (c:=Zkg) ZBb (by kernel_rfl) (by kernel_rfl) (by kernel_rfl) (fun a=>by kernel_rfl) fun _ hk=>Zm (c:=Zkg) (K:=fun v=>(ZjM v,tps (toForms Zeb (())))) (S:=Zdm) (by kernel_rfl) (ZAZ) (ZAK) (ZD7 hk)
end
end Go.Ev
end

section
open Go Go.Ev
namespace Go.Ev
noncomputable section
def Zaa:Sig:=[(false,(.sl (.sl Zq)))]
noncomputable def Zip:Tbl:=[(5,ZyR),(6,ZzH),(7,ZqR),(8,ZyN),(9,ZuF)]
theorem Zu7:∀p∈Zip,EntOK Go.Proofs.Tryz.prog p.1 p.2:=Zg ZH3 (Zg ZG1 (Zg Zvk (Zg ZGT (Zg ZBB (Zu)))))
noncomputable def ZfE:Code:=Go.Proofs.Tryz.f3.body.getD .skip
def ZmF:Tb:=[(5,⟨[3,4,5],[]⟩),(12,⟨[3,4,5,6,7,8],[]⟩)]
inductive Zc4 where | l5 (t:Int) | l12 (stores:List Bool) (loads:List Bool) (k:Int) (t:Int)
def Zba (l:List (List (El Zq))):Zc4→JT Zc4 (Bool) |.l5 t=>.br (decide (t < (Int.ofNat (List.length (Zt l (3:Int) (7:Int)).2)))) (.br ((decide ((0:Int)≤t))&&(decide (t < (Int.ofNat (List.length (Zt l (3:Int) (7:Int)).2))))) (.br ((((Int.ofNat (List.length (List.getD (Zt l (3:Int) (7:Int)).2 (Int.toNat t) (dflt (.sl Za)))))==(Int.ofNat (List.length (List.getD (Zt l (3:Int) (7:Int)).2 (Int.toNat t) (dflt (.sl Za))))))&&(decide ((0:Int)≤(Int.ofNat (List.length (List.getD (Zt l (3:Int) (7:Int)).2 (Int.toNat t) (dflt (.sl Za))))))))&&(decide (((Int.ofNat (List.length (List.getD (Zt l (3:Int) (7:Int)).2 (Int.toNat t) (dflt (.sl Za)))))*(1:Int))≤(limit:Int)))) (.br ((decide ((0:Int)≤t))&&(decide (t < (Int.ofNat (List.length (Zt l (3:Int) (7:Int)).2))))) (.br ((((Int.ofNat (List.length (List.getD (Zt l (3:Int) (7:Int)).2 (Int.toNat t) (dflt (.sl Za)))))==(Int.ofNat (List.length (List.getD (Zt l (3:Int) (7:Int)).2 (Int.toNat t) (dflt (.sl Za))))))&&(decide ((0:Int)≤(Int.ofNat (List.length (List.getD (Zt l (3:Int) (7:Int)).2 (Int.toNat t) (dflt (.sl Za))))))))&&(decide (((Int.ofNat (List.length (List.getD (Zt l (3:Int) (7:Int)).2 (Int.toNat t) (dflt (.sl Za)))))*(1:Int))≤(limit:Int)))) (.jmp (.l12 (List.replicate (List.length (List.getD (Zt l (3:Int) (7:Int)).2 (Int.toNat t) (dflt (.sl Za)))) false) (List.replicate (List.length (List.getD (Zt l (3:Int) (7:Int)).2 (Int.toNat t) (dflt (.sl Za)))) false) (0:Int) t)) (.no)) (.no)) (.no)) (.no)) (.br Zhp (.leaf ZhP) (.no)) |.l12 stores loads k t=>.br (decide (k < (Int.ofNat (List.length (Zan (Zt l (3:Int) (7:Int))))))) (.br ((decide ((0:Int)≤k))&&(decide (k < (Int.ofNat (List.length (Zan (Zt l (3:Int) (7:Int)))))))) (.br ((List.getD (Zan (Zt l (3:Int) (7:Int))) (Int.toNat k) (dflt Zd)).1==t) (.br ((decide ((0:Int)≤k))&&(decide (k < (Int.ofNat (List.length (Zan (Zt l (3:Int) (7:Int)))))))) (.br ((decide ((0:Int)≤k))&&(decide (k < (Int.ofNat (List.length (Zan (Zt l (3:Int) (7:Int)))))))) (.br ((decide ((0:Int)≤(List.getD (Zan (Zt l (3:Int) (7:Int))) (Int.toNat k) (dflt Zd)).2.1))&&(decide ((List.getD (Zan (Zt l (3:Int) (7:Int))) (Int.toNat k) (dflt Zd)).2.1 < (Int.ofNat (List.length stores))))) (.br ((decide ((0:Int)≤(List.getD (Zan (Zt l (3:Int) (7:Int))) (Int.toNat k) (dflt Zd)).2.2))&&(decide ((List.getD (Zan (Zt l (3:Int) (7:Int))) (Int.toNat k) (dflt Zd)).2.2 < (Int.ofNat (List.length loads))))) (.jmp (.l12 (List.set stores (Int.toNat (List.getD (Zan (Zt l (3:Int) (7:Int))) (Int.toNat k) (dflt Zd)).2.1) true) (List.set loads (Int.toNat (List.getD (Zan (Zt l (3:Int) (7:Int))) (Int.toNat k) (dflt Zd)).2.2) true) (IntKind.i64.wrap (k+(1:Int))) t)) (.no)) (.no)) (.no)) (.no)) (.jmp (.l12 stores loads (IntKind.i64.wrap (k+(1:Int))) t))) (.no)) (.br (Zdh (Zt l (3:Int) (7:Int)) t) (.br (Ziw stores) (.br (decide ((Int.ofNat (List.length (Zaw (Zt l (3:Int) (7:Int)) t))) > (Int.ofNat (List.length (ZdL stores))))) (.leaf false) (.br (Ziw loads) (.br (decide ((Int.ofNat (List.length (Zaw (Zt l (3:Int) (7:Int)) t))) > (Int.ofNat (List.length (ZdL loads))))) (.leaf false) (.jmp (.l5 (IntKind.i64.wrap (t+(1:Int)))))) (.no))) (.no)) (.no))
def ZhZ (l:List (List (El Zq))):JT Zc4 (Bool):=.br (Zey l (3:Int) (7:Int)) (.br (Ze9 (Zt l (3:Int) (7:Int))) (.jmp (.l5 (0:Int))) (.no)) (.no)
def ZfJ:Bool→AV:=fun (r:Bool)=>.d .bool r
def Zbt (l:List (List (El Zq))):Zc4→Nat×St |.l5 t=>(5,⟨mkTm 81 [(3,.pt 4 0 0),(4,.own 5 0 none),(5,.d (.int .i64) t)],[(4,0,.box 26 [.own 4097 0 none,.own 4098 0 none] none),(5,0,.row 35 Zd (Zan (Zt l (3:Int) (7:Int))) false),(4097,0,.row 44 Zx (Zt l (3:Int) (7:Int)).1 false),(4098,0,.row 33 (.sl Za) (Zt l (3:Int) (7:Int)).2 false)]⟩) |.l12 stores loads k t=>(12,⟨mkTm 81 [(3,.pt 4 0 0),(4,.own 5 0 none),(5,.d (.int .i64) t),(6,.own 7 0 none),(7,.own 8 0 none),(8,.d (.int .i64) k)],[(4,0,.box 26 [.own 4097 0 none,.own 4098 0 none] none),(5,0,.row 35 Zd (Zan (Zt l (3:Int) (7:Int))) false),(7,0,.row 4 .bool stores false),(8,0,.row 4 .bool loads false),(4097,0,.row 44 Zx (Zt l (3:Int) (7:Int)).1 false),(4098,0,.row 33 (.sl Za) (Zt l (3:Int) (7:Int)).2 false)]⟩)
theorem ZvW (l:List (List (El Zq))) (L:Lt):entryA Go.Proofs.Tryz.prog (clOf Zip) ZmF Go.Proofs.Tryz.f3 ZfE L (toForms Zaa (l,()))=(ZhZ l).run (fun v=>some (ZfJ v,tps (toForms Zaa (l,())))) fun j=>L (Zbt l j).1 (Zbt l j).2:=by kernel_rfl
theorem Zu5 (l:List (List (El Zq))):∀(L:Lt) (j:Zc4),procOf (procsF Go.Proofs.Tryz.prog (clOf Zip) ZmF Go.Proofs.Tryz.f3 ZfE (toForms Zaa (l,()))) (Zbt l j).1 L (Zbt l j).2=(Zba l j).run (fun v=>some (ZfJ v,tps (toForms Zaa (l,())))) fun j=>L (Zbt l j).1 (Zbt l j).2 | L,.l5 t=>by kernel_rfl | L,.l12 stores loads k t=>by kernel_rfl
end
end Go.Ev
end

section
open Go Go.Ev
namespace Go.Ev
noncomputable section
end
end Go.Ev
end

section
open Go Go.Ev
namespace Go.Ev
noncomputable section
end
end Go.Ev
end

section
open Go
namespace Go.Ev
theorem len0 {α:Type} (l:List α):((Int.ofNat l.length)==(0:Int))=decide (l.length=0):=by
 rw[Bool.eq_iff_iff,beq_iff_eq,decide_eq_true_eq]
 simp
section
variable {p:El Zc} (hF:CutF p) (t:Int)
include hF
theorem ZNu:Zek (Zl p) t=true∧Zek (Zv p) t=true:=⟨decide_eq_true (by have:=hF.lp;omega),decide_eq_true (by have:=hF.lo;omega)⟩
theorem ZO4 {pts:List Int} (hp:pts.length < 1000000000) (hr:rightT p t=true):ZaB (thrT p t) (allT p t) pts=true∧ZdH (thrT p t) (allT p t) pts=true:=by
 obtain ⟨f1,f2,_⟩:=hF.flow t hr
 have hl:=ZNd hF t
 unfold ZaB ZdH
 rw[f1,decide_eq_true (show pts.length < 4611686018427387904 by omega),decide_eq_true (show pts.length < 1000000000000 by omega),decide_eq_true (show (allT p t).length < 1000000000000 by omega)]
 exact ⟨rfl,rfl⟩
theorem ZwQ {pts:List Int} (hp:pts.length < 1000000000):Za9 p t pts=true∧ZaX p t pts=(rightT p t&&decide (((allT p t).filter (uB (thrT p t) pts)).length=0)):=by
 obtain ⟨r1,r2⟩:=hF.right t
 unfold Za9 ZaX
 rw[r1,r2]
 cases hr:rightT p t with
 | false=>exact ⟨rfl,rfl⟩
 | true=>
  obtain ⟨f1,f2,_⟩:=hF.flow t hr
  have h1:=(ZO4 hF t hp hr).1
  have h2:ZaB (List.getD p.2 (Int.toNat t) (dflt (.sl Za))) (Zas (Zl p) t) pts=true:=h1
  have hv:ZbC (List.getD p.2 (Int.toNat t) (dflt (.sl Za))) (Zas (Zl p) t) pts=(allT p t).filter (uB (thrT p t) pts):=rfl
  rw[f2,hF.kp,(ZNu hF t).1,h2,hv,len0]
  exact ⟨rfl,rfl⟩
theorem ZCi:Zdh p t=true∧Zaw p t=if rightT p t=true then pointsV (uB (thrT p t)) (thrT p t).length (allT p t) (opT p t) else []:=by
 obtain ⟨r1,r2⟩:=hF.right t
 unfold Zdh Zaw
 rw[r1,r2]
 cases hr:rightT p t with
 | false=>exact ⟨rfl,rfl⟩
 | true=>
  have hv:ZbI p t (Zl p) (Zv p)=pointsV (uB (thrT p t)) (thrT p t).length (allT p t) (opT p t):=rfl
  rw[hF.kp,hF.ko,Zxd hF hr,hv]
  generalize pointsV (uB (thrT p t)) (thrT p t).length (allT p t) (opT p t)=X
  exact ⟨rfl,rfl⟩
end
end Go.Ev
end

section
open Go
namespace Go.Ev
section
variable {α:Type} {U:List Int→α→Bool}
theorem Zo5 {all:List α} :∀(done rest:List Int),(pruneL U all done rest).Sublist (done++rest)
 | done,[]=>by unfold pruneL;rw[List.append_nil];exact List.Sublist.refl _
 | done,x :: r=>by
  unfold pruneL
  split
  ·exact (Zo5 done r).trans ((List.Sublist.refl done).append (List.sublist_cons_self x r))
  ·have:=Zo5 (all:=all) (done++[x]) r
   rw[List.append_assoc] at this
   exact this
theorem ZMI:∀ {q p:List Int},p.Pairwise (· < ·)→q.Pairwise (· < ·)→(∀x∈p,x∈q)→p.length≤q.length
 | q,[],_,_,_=>Nat.zero_le _
 | [],a :: p,_,_,h=>by have:=h a (by simp);cases this
 | b :: q,a :: p,hp,hq,h=>by
  obtain ⟨p1,p2⟩:=List.pairwise_cons.1 hp
  obtain ⟨q1,q2⟩:=List.pairwise_cons.1 hq
  have ha:=h a (by simp)
  have hrest:∀x∈p,x∈q:=fun x hx=>by
   rcases List.mem_cons.1 (h x (by simp[hx])) with e | e
   ·have h1:=p1 x hx
    rcases List.mem_cons.1 ha with e2 | e2
    ·omega
    ·have:=q1 a e2;omega
   ·exact e
  have:=ZMI p2 q2 hrest
  simp only[List.length_cons]
  omega
end
end Go.Ev
end

section
namespace Go.Ev
open Go
section
variable {p:El Zc} (hF:CutF p) {t:Int}
include hF
end
end Go.Ev
end

section
namespace Go.Ev
open Go
theorem ZPl:∀ {l:List Bool} {k:Nat} {x:Int},x∈listFrom k l→(k:Int)≤x∧x < k+l.length:=by
 intro l k x h
 obtain ⟨i,h1,rfl⟩:=ZrV.1 h
 have:=(List.getElem?_eq_some_iff.1 h1).1
 omega
theorem ZAz:∀(l:List Bool) (k:Nat),(listFrom k l).Pairwise (· < ·)
 | [],k=>.nil
 | b :: r,k=>by
  unfold listFrom
  have ih:=ZAz r (k+1)
  split
  ·exact List.pairwise_cons.2 ⟨fun x hx=>by have:=(ZPl hx).1;omega,ih⟩
  ·exact ih
section
variable {t:List (El Za)} {all:List PairD}
theorem Zva {pts:List Int} :(pruneV (uB t) t.length all pts).Pairwise (· < ·):=
 (ZmG .nil).sublist (Zo5 [] _)
theorem ZFY {pts:List Int} {k:Int} (h:k∈pruneV (uB t) t.length all pts):k∈pts∧inR t.length k=true:=by
 have:=(Zo5 (U:=uB t) (all:=all) [] (putsL [] (pts.filter (inR t.length)))).subset h
 rw[List.nil_append,Zv8] at this
 rcases this with h | h
 ·cases h
 ·exact List.mem_filter.1 h
end
theorem Zuy (a b:List Int):(shorter a b).length≤a.length∧(shorter a b).length≤b.length:=by
 unfold shorter
 split <;> omega
section
variable {p:El Zc} (hF:CutF p) {t:Int}
include hF
end
section
variable {p:El Zc} {t:Int}
theorem ZJB {L:List Int} (hL:L.Pairwise (· < ·)) (h:∀x∈opT p t,(show Int from x.2.1)∈L):(pointsV (uB (thrT p t)) (thrT p t).length (allT p t) (opT p t)).length≤L.length:=by
 unfold pointsV
 refine Nat.le_trans (Zuy _ _).1 (Nat.le_trans (Zuy _ _).2 ?_)
 have hs:(pruneV (uB (thrT p t)) (thrT p t).length (allT p t) ((opT p t).map fun x=>(show Int from x.2.1)+1)).Pairwise (· < ·):=Zva
 have hL':(L.map (· +1)).Pairwise (· < ·):=List.pairwise_map.2 (hL.imp fun h=>by omega)
 have:=ZMI hs hL' fun k hk=>by
  obtain ⟨x,hx,rfl⟩:=List.mem_map.1 (ZFY hk).1
  exact List.mem_map.2 ⟨_,h x hx,rfl⟩
 rw[List.length_map] at this
 exact this
theorem ZJm {L:List Int} (hL:L.Pairwise (· < ·)) (h:∀x∈opT p t,(show Int from x.2.2)∈L):(pointsV (uB (thrT p t)) (thrT p t).length (allT p t) (opT p t)).length≤L.length:=by
 unfold pointsV
 refine Nat.le_trans (Zuy _ _).2 ?_
 refine ZMI Zva hL fun k hk=>?_
 obtain ⟨x,hx,rfl⟩:=List.mem_map.1 (ZFY hk).1
 exact h x hx
end
end Go.Ev
end

section
namespace Go.Ev
open Go
end Go.Ev
end

section
namespace Go.Ev
open Go
theorem ZL3 {l:List (List (El Za))} {n:Nat} (h:∀t∈l,List.length t≤n):total l≤n*l.length:=by
 unfold total
 induction l with
 | nil=>simp
 | cons t l ih=>
  rw[List.map_cons,List.sum_cons,List.length_cons,Nat.mul_add,Nat.mul_one]
  have h1:=h t (List.mem_cons_self ..)
  have h2:=ih fun x hx=>h x (List.mem_cons_of_mem _ hx)
  omega
theorem ZPe {p:El Zc} :(ofC p).length≤2*total p.2:=by
 have:=ZFo 0 p.2
 unfold ofC
 split
 ·exact this
 ·simp
theorem ZNE (l:List (List (El Zq))) {threads many:Int} (h0:0≤threads) (h1:threads≤64) (m0:0≤many) (m1:many≤90):
  smallAll (Zt l threads many)=true∧(Zt l threads many).2.length≤threads.toNat∧(ofC (Zt l threads many)).length≤11648∧checkC (Zt l threads many)=0∧Zey l threads many=true:=by
 obtain ⟨hc,hs,hk⟩:=ZK8 l h0 h1 m0 m1
 have hl:(Zt l threads many).2.length≤threads.toNat:=by
  show ((l.take threads.toNat).map fun a=>threadB a (min a.length many.toNat)).length≤_
  rw[List.length_map,List.length_take];omega
 have ht:=ZL3 (l:=(Zt l threads many).2) (n:=91) fun t hm=>by
  obtain ⟨a,_,rfl⟩:=List.mem_map.1 (show t∈(l.take threads.toNat).map fun a=>threadB a (min a.length many.toNat) from hm)
  show (threadB a _).length≤91
  unfold threadB
  rw[Zci,Zqz a _ (by omega)]
  omega
 have ho:= @ZPe (Zt l threads many)
 refine ⟨?_,hl,by omega,hc,hk⟩
 unfold smallAll
 simp only[Bool.and_eq_true,decide_eq_true_eq]
 exact ⟨hs,by omega,by omega⟩
end Go.Ev
end

section
namespace Go.Ev
open Go
theorem ZNN (l:List (List (El Zq))) {threads many:Int} (h0:0≤threads) (h1:threads≤64) (m0:0≤many) (m1:many≤90):cutOK (Zt l threads many)=true∧checkC (Zt l threads many)=0∧Zey l threads many=true:=by
 obtain ⟨a1,a2,a3,a4,a5⟩:=ZNE l h0 h1 m0 m1
 refine ⟨?_,a4,a5⟩
 unfold cutOK
 rw[a1,decide_eq_true (show (ofC (Zt l threads many)).length≤20000 by omega),decide_eq_true (show (Zt l threads many).2.length≤100 by omega)]
 rfl
end Go.Ev
end

section
open Go
namespace Go.Ev
def bothPairs:List PairD:=[((0:Int),((0:Int),(1:Int))),((1:Int),((0:Int),(1:Int)))]
theorem alive25:Zhp=true∧ZhP=true:=by
 obtain ⟨p,hp⟩:∃p,Zk=p:=⟨_,rfl⟩
 have hs:cutOK Zk=true:=by decide+kernel
 have hF:=Zv4 hs
 have vp:Zl Zk=bothPairs:=by
  rw[←hF.eq,ZN5]
  decide+kernel
 have op:∀x:El Zd,x∈ZA Zk→openB Zk x=(decide (0≤x.2.2∧x.2.2 < ((List.getD Zk.2 (Int.toNat x.1) (dflt (.sl Za))).length:Int))&&endsX (List.getD Zk.2 (Int.toNat x.1) (dflt (.sl Za))) [] x.2.1 x.2.2.toNat):=fun x hx=>by
  obtain ⟨s,r,h1,h2,_,_,rfl⟩:=ZES hx
  obtain ⟨_,_,hf,_⟩:=Zf3 hF.small h1
  have hf':flowOK (List.getD Zk.2 (Int.toNat (delPair (ofC Zk) s r).1) (dflt (.sl Za)))=true:=hf
  obtain ⟨_,_,_,f4⟩:=ZKm hf' (points:=[]) (by decide) (delPair (ofC Zk) s r).2.1 (delPair (ofC Zk) s r).2.2
  unfold openB
  rw[f4,ZKz]
 have vo:Zv Zk=bothPairs:=by
  unfold Zv
  rw[hF.eq,vp] at op
  rw[vp,List.filter_congr op]
  decide+kernel
 have r0:rightT Zk 0=true:=by decide+kernel
 have r1:rightT Zk 1=true:=by decide+kernel
 have r2:rightT Zk 2=false:=by decide+kernel
 have c0:checkC Zk=0:=by decide+kernel
 have a0:allT Zk 0=[((0:Int),((0:Int),(1:Int)))]:=by unfold allT;rw[vp];decide+kernel
 have o0:opT Zk 0=[((0:Int),((0:Int),(1:Int)))]:=by unfold opT;rw[vo];decide+kernel
 have o1:opT Zk 1=[((1:Int),((0:Int),(1:Int)))]:=by unfold opT;rw[vo];decide+kernel
 obtain ⟨kP,vP⟩:=ZCi hF 0
 rw[if_pos r0,a0,o0,ZOg] at vP
 have vP:Zaw Zk 0=[1]:=by rw[vP];decide+kernel
 obtain ⟨kC,vC⟩:=ZwQ hF 0 (pts:=[1]) (by decide)
 rw[r0,a0,ZOg] at vC
 have vC:ZaX Zk 0 [1]=true:=by rw[vC];decide+kernel
 obtain ⟨kN,vN⟩:=ZwQ hF 0 (pts:=[]) (by decide)
 rw[r0,a0,ZOg] at vN
 have vN:ZaX Zk 0 []=false:=by rw[vN];decide+kernel
 obtain ⟨kM,vM⟩:=ZwQ hF 2 (pts:=[]) (by decide)
 rw[r2,Bool.false_and] at vM
 have kA:Zik Zk 1=true:=hs
 have vA:Zcd Zk 1=[1]:=by
  unfold Zcd
  rw[if_pos r1,o1]
  decide+kernel
 have kL:ZnX Zk=true:=hs
 have vL:(Zjl Zk).length=2:=by
  unfold Zjl
  rw[if_pos c0,List.length_map,List.length_range]
  decide+kernel
 have e1:ZaP [1] [(1:Int)]=true:=by decide
 have e2:ZaC [1] [(1:Int)]=true:=by decide
 unfold Zhp ZhP
 simp only[kP,vP,kC,vC,kN,vN,kM,vM,kA,vA,kL,vL,e1,e2]
 exact ⟨by decide,by decide⟩
end Go.Ev
end

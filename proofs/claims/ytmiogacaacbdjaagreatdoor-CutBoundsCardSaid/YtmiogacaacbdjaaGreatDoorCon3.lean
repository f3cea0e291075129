/- Part of the proof of: No more points are chosen than there are stores, nor than there are loads, in open delays: for every input the law answers true. -/
import Derived.Test.YtmiogacaacbdjaaGreatDoorCon2
set_option maxRecDepth 100000
set_option linter.unusedSectionVars false
set_option linter.unusedVariables false
set_option linter.unusedSimpArgs false
section
open Go
namespace Go.Ev
def Zij (l:List (List (El Zq))):Bool:=true
def Zn3 (l:List (List (El Zq))):Bool:=true
theorem ZuE {s:List Bool} {i j:Nat} (hi:i < s.length) (h:j=i∨s[j]? =some true):(s.set i true)[j]? =some true:=by
 rw[List.getElem?_set]
 by_cases e:i=j
 ·rw[if_pos e,if_pos hi]
 ·rw[if_neg e]
  rcases h with h | h
  ·exact absurd h.symm e
  ·exact h
theorem listed {S:List Bool} {y:Int} (h0:0≤y) (h:S[y.toNat]? =some true):y∈listFrom 0 S:=ZrV.2 ⟨y.toNat,h,by omega⟩
theorem ZwO (l:List (List (El Zq))) (hk:Zn3 l=true):Goes (Zba l) (ZhZ l) (Zij l):=by
 obtain ⟨ka,va⟩:=alive25
 obtain ⟨hc,hch,hkb⟩:=ZNN l (threads:=3) (many:=7) (by decide) (by decide) (by decide) (by decide)
 have hF:=Zv4 hc
 unfold ZhZ Zij
 rw[Ze,if_pos hkb,Ze,if_pos hF.kro]
 obtain ⟨p,hp⟩:∃p,Zt l 3 7=p:=⟨_,rfl⟩
 rw[hp] at hc hch hF
 have hT:=hF.thr
 obtain ⟨O,hO⟩:∃O,Zan p=O:=⟨_,rfl⟩
 have hOd:Zv p=O:=by rw[←hO,hF.opq]
 have hlo:O.length≤400000000:=by rw[←hOd];exact hF.lo
 have hpin:∀x∈O,PairIn p x:=fun x hx=>hF.pin x (hF.osub x (by rw[hOd];exact hx)).1
 have hmk:∀N:Nat,N < 1099511627776→((((Int.ofNat N)==(Int.ofNat N))&&(decide ((0:Int)≤(Int.ofNat N))))&&(decide (((Int.ofNat N)*(1:Int))≤(limit:Int))))=true:=fun N hN=>by
  rw[beq_self_eq_true,decide_eq_true (show (0:Int)≤Int.ofNat N from Int.natCast_nonneg _),Bool.true_and,Bool.true_and]
  refine decide_eq_true ?_
  show ((N:Nat):Int)*1≤((35184372088832:Nat):Int)
  omega
 have outer:∀t,t≤p.2.length→Goes (Zba l) (.jmp (.l5 (t:Int))) true:=by
  refine down ?_ fun t ht ih=>?_
  ·rw[Zi,Zba,hp,Ze,if_neg (by rw[Zw (Nat.lt_irrefl _)];decide),Ze,if_pos ka,va]
   exact .leaf
  ·have hr:rightT p (t:Int)=true:=by
    unfold rightT
    rw[decide_eq_true (show (0:Int)≤(t:Int) by omega),decide_eq_true (show (t:Int) < (p.2.length:Int) by omega),decide_eq_true hch];rfl
   obtain ⟨f1,f2,_⟩:=hF.flow (t:Int) hr
   have hfl:=Zby f1
   have htt:List.getD p.2 t (dflt (.sl Za))=thrT p (t:Int):=by unfold thrT;rw[Int.toNat_natCast]
   have hin:(decide ((0:Int)≤(t:Int))&&decide ((t:Int) < Int.ofNat p.2.length))=true:=by rw[nng,ZR ht];rfl
   obtain ⟨k1,v1⟩:=ZCi hF (t:Int)
   rw[if_pos hr] at v1
   have inner:∀k,k≤O.length→∀S L:List Bool,S.length=(thrT p (t:Int)).length→L.length=(thrT p (t:Int)).length→(∀x∈O.take k,(show Int from x.1)=(t:Int)→S[(show Int from x.2.1).toNat]? =some true∧L[(show Int from x.2.2).toNat]? =some true)→Goes (Zba l) (.jmp (.l12 S L (k:Int) (t:Int))) true:=by
    refine down ?_ fun k hk ihk=>?_
    ·intro S L hS hL hm
     rw[List.take_length] at hm
     have hmem:∀x∈opT p (t:Int),x∈O∧(show Int from x.1)=(t:Int):=fun x hx=>by
      obtain ⟨h1,h2⟩:=List.mem_filter.1 hx
      rw[hOd] at h1
      exact ⟨h1,by unfold ofB at h2;simpa using h2⟩
     have b1:(Zaw p (t:Int)).length≤(ZdL S).length:=by
      rw[v1]
      refine ZJB (ZAz S 0) fun x hx=>?_
      obtain ⟨h1,h2⟩:=hmem x hx
      exact listed (hpin x h1).st0 (hm x h1 h2).1
     have b2:(Zaw p (t:Int)).length≤(ZdL L).length:=by
      rw[v1]
      refine ZJm (ZAz L 0) fun x hx=>?_
      obtain ⟨h1,h2⟩:=hmem x hx
      exact listed (hpin x h1).ld0 (hm x h1 h2).2
     have c1:decide ((Int.ofNat (List.length (Zaw p (t:Int)))) > (Int.ofNat (List.length (ZdL S))))=false:=decide_eq_false fun h=>by
      have:=Int.ofNat_lt.1 h
      omega
     have c2:decide ((Int.ofNat (List.length (Zaw p (t:Int)))) > (Int.ofNat (List.length (ZdL L))))=false:=decide_eq_false fun h=>by
      have:=Int.ofNat_lt.1 h
      omega
     rw[Zi,Zba,hp,hO,Ze,if_neg (by rw[Zw (Nat.lt_irrefl _)];decide),Ze,if_pos k1,Ze,if_pos (show Ziw S=true from decide_eq_true (by omega)),Ze,if_neg (by rw[c1];decide),Ze,if_pos (show Ziw L=true from decide_eq_true (by omega)),Ze,if_neg (by rw[c2];decide),Zr (by omega)]
     exact ih
    ·intro S L hS hL hm
     have hx:O[k]∈O:=List.getElem_mem hk
     have hP:=hpin _ hx
     rw[List.take_succ_eq_append_getElem hk] at ihk
     have hin2:(decide ((0:Int)≤(k:Int))&&decide ((k:Int) < Int.ofNat O.length))=true:=by rw[nng,ZR hk];rfl
     rw[Zi,Zba,hp,hO,Ze,if_pos (ZR hk),Ze,if_pos hin2,Int.toNat_natCast,ZH hk,Zr (by omega),Ze]
     by_cases e:(show Int from (O[k]).1)=(t:Int)
     ·have s0:=hP.st0
      have s1:=hP.st1
      have l0:=hP.ld0
      have l1:=hP.ld1
      rw[show thrT p (O[k]).1=thrT p (t:Int) from congrArg (thrT p) e] at s1 l1
      have is:(decide ((0:Int)≤(O[k]).2.1)&&decide ((show Int from (O[k]).2.1) < (Int.ofNat S.length)))=true:=by
       rw[decide_eq_true s0,Bool.true_and]
       exact decide_eq_true (by rw[hS];exact s1)
      have il:(decide ((0:Int)≤(O[k]).2.2)&&decide ((show Int from (O[k]).2.2) < (Int.ofNat L.length)))=true:=by
       rw[decide_eq_true l0,Bool.true_and]
       exact decide_eq_true (by rw[hL];exact l1)
      have n1:(show Int from (O[k]).2.1).toNat < S.length:=by rw[hS];exact ZAa s0 s1
      have n2:(show Int from (O[k]).2.2).toNat < L.length:=by rw[hL];exact ZAa l0 l1
      rw[if_pos (show ((O[k]).1==(t:Int))=true from beq_iff_eq.2 e),Ze,if_pos hin2,Ze,if_pos hin2,Ze,if_pos is,Ze,if_pos il]
      refine ihk _ _ (by rw[List.length_set];exact hS) (by rw[List.length_set];exact hL) fun x hx hxt=>?_
      rcases List.mem_append.1 hx with hx | hx
      ·obtain ⟨m1,m2⟩:=hm x hx hxt
       exact ⟨ZuE n1 (.inr m1),ZuE n2 (.inr m2)⟩
      ·rw[List.mem_singleton.1 hx]
       exact ⟨ZuE n1 (.inl rfl),ZuE n2 (.inl rfl)⟩
     ·rw[if_neg (show ¬((O[k]).1==(t:Int))=true from fun h=>e (beq_iff_eq.1 h))]
      refine ihk _ _ hS hL fun x hx hxt=>?_
      rcases List.mem_append.1 hx with hx | hx
      ·exact hm x hx hxt
      ·rw[List.mem_singleton.1 hx] at hxt
       exact absurd hxt e
   rw[Zi,Zba,hp,Ze,if_pos (ZR ht),Ze,if_pos hin,Int.toNat_natCast,htt,Ze,if_pos (hmk _ hfl),Ze,if_pos hin,Ze,if_pos (hmk _ hfl)]
   exact inner 0 (Nat.zero_le _) _ _ (by rw[List.length_replicate]) (by rw[List.length_replicate]) fun x hx=>by cases hx
 exact outer 0 (Nat.zero_le _)
end Go.Ev
end

section
open Go Go.Ev
namespace Go.Ev
noncomputable section
theorem Zu3 (l:List (List (El Zq))) (hk:Zn3 l=true):CallOK Go.Proofs.Tryz.prog 3 (toForms Zaa (l,())) (ZfJ (Zij l),tps (toForms Zaa (l,()))):=by
 obtain ⟨h1,h2⟩:=Zqb Zu7
 obtain ⟨n,hn⟩:=Zm (c:=ZfE) (K:=fun v=>(ZfJ v,tps (toForms Zaa (l,())))) (S:=Zbt l) (by kernel_rfl) (ZvW l) (Zu5 l) (ZwO l hk)
 exact ZuZ (f:=3) (c:=ZfE) h1 h2 (by kernel_rfl) (by kernel_rfl) (by kernel_rfl) hn
end
end Go.Ev
end

section
namespace Go.Ev
open Go
theorem ZsZ (a:Args Zaa) (ha:smallArgs Zaa a):CallOK Go.Proofs.Tryz.prog ZtJ (toForms Zaa a) (.d .bool true,tps (toForms Zaa a)):=by
 obtain ⟨l,_⟩:=a
 exact Zu3 l rfl
end Go.Ev
end

/- Part of the proof of: Without any one of the points that are chosen an open delay is not cut: for every input the law answers true. -/
import Derived.Test.YtmiogacaacbdjaaGreatDoorCon2
set_option maxRecDepth 100000
set_option linter.unusedSectionVars false
set_option linter.unusedVariables false
set_option linter.unusedSimpArgs false
section
open Go
namespace Go.Ev
def bothPairs:List PairD:=[((0:Int),((0:Int),(1:Int))),((1:Int),((0:Int),(1:Int)))]
theorem alive25:Zh1=true∧ZhB=true:=by
 obtain ⟨p,hp⟩:∃p,Zk=p:=⟨_,rfl⟩
 have hs:cutOK Zk=true:=by decide+kernel
 have hF:=ZvP hs
 have vp:Zl Zk=bothPairs:=by
  rw[←hF.eq,ZNL]
  decide+kernel
 have op:∀x:El Zd,x∈ZA Zk→openB Zk x=(decide (0≤x.2.2∧x.2.2 < ((List.getD Zk.2 (Int.toNat x.1) (dflt (.sl Za))).length:Int))&&endsX (List.getD Zk.2 (Int.toNat x.1) (dflt (.sl Za))) [] x.2.1 x.2.2.toNat):=fun x hx=>by
  obtain ⟨s,r,h1,h2,_,_,rfl⟩:=Zyj hx
  obtain ⟨_,_,hf,_⟩:=Zf7 hF.small h1
  have hf':flowOK (List.getD Zk.2 (Int.toNat (delPair (ofC Zk) s r).1) (dflt (.sl Za)))=true:=hf
  obtain ⟨_,_,_,f4⟩:=ZCA hf' (points:=[]) (by decide) (delPair (ofC Zk) s r).2.1 (delPair (ofC Zk) s r).2.2
  unfold openB
  rw[f4,ZKh]
 have vo:Zv Zk=bothPairs:=by
  unfold Zv
  rw[hF.eq,vp] at op
  rw[vp,List.filter_congr op]
  decide+kernel
 have r0:rightT Zk 0=true:=by decide+kernel
 have r1:rightT Zk 1=true:=by decide+kernel
 have r2:rightT Zk 2=false:=by decide+kernel
 have c0:checkC Zk=0:=by decide+kernel
 have a0:allT Zk 0=[((0:Int),((0:Int),(1:Int)))]:=by unfold allT;rw[vp];decide+kernel
 have o0:opT Zk 0=[((0:Int),((0:Int),(1:Int)))]:=by unfold opT;rw[vo];decide+kernel
 have o1:opT Zk 1=[((1:Int),((0:Int),(1:Int)))]:=by unfold opT;rw[vo];decide+kernel
 obtain ⟨kP,vP⟩:=ZB4 hF 0
 rw[if_pos r0,a0,o0,ZOx] at vP
 have vP:Zba Zk 0=[1]:=by rw[vP];decide+kernel
 obtain ⟨kC,vC⟩:=Zv2 hF 0 (pts:=[1]) (by decide)
 rw[r0,a0,ZOx] at vC
 have vC:ZaV Zk 0 [1]=true:=by rw[vC];decide+kernel
 obtain ⟨kN,vN⟩:=Zv2 hF 0 (pts:=[]) (by decide)
 rw[r0,a0,ZOx] at vN
 have vN:ZaV Zk 0 []=false:=by rw[vN];decide+kernel
 obtain ⟨kM,vM⟩:=Zv2 hF 2 (pts:=[]) (by decide)
 rw[r2,Bool.false_and] at vM
 have kA:Zh6 Zk 1=true:=hs
 have vA:Zcc Zk 1=[1]:=by
  unfold Zcc
  rw[if_pos r1,o1]
  decide+kernel
 have kL:ZnE Zk=true:=hs
 have vL:(ZiV Zk).length=2:=by
  unfold ZiV
  rw[if_pos c0,List.length_map,List.length_range]
  decide+kernel
 have e1:ZaQ [1] [(1:Int)]=true:=by decide
 have e2:ZaE [1] [(1:Int)]=true:=by decide
 unfold Zh1 ZhB
 simp only[kP,vP,kC,vC,kN,vN,kM,vM,kA,vA,kL,vL,e1,e2]
 exact ⟨by decide,by decide⟩
end Go.Ev
end

section
open Go
namespace Go.Ev
def Zjz (l:List (List (El Zq))):Bool:=true
def Zqj (l:List (List (El Zq))):Bool:=true
theorem Zyb (l:List (List (El Zq))) (hk:Zqj l=true):Goes (ZaD l) (Zip l) (Zjz l):=by
 obtain ⟨ka,va⟩:=alive25
 obtain ⟨hc,hch,hkb⟩:=ZNI l (threads:=3) (many:=7) (by decide) (by decide) (by decide) (by decide)
 have hF:=ZvP hc
 unfold Zip Zjz
 rw[Ze,if_pos hkb,Ze,if_pos hF.kro]
 obtain ⟨p,hp⟩:∃p,Zu l 3 7=p:=⟨_,rfl⟩
 rw[hp] at hc hch hF
 have hT:=hF.thr
 obtain ⟨O,hO⟩:∃O,Zat p=O:=⟨_,rfl⟩
 have hOd:Zv p=O:=by rw[←hO,hF.opq]
 have hlo:O.length≤400000000:=by rw[←hOd];exact hF.lo
 have hpin:∀x∈O,PairIn p x:=fun x hx=>hF.pin x (hF.osub x (by rw[hOd];exact hx)).1
 have outer:∀t,t≤p.2.length→Goes (ZaD l) (.jmp (.l5 (t:Int))) true:=by
  refine down ?_ fun t ht ih=>?_
  ·rw[Zi,ZaD,hp,Ze,if_neg (by rw[Zy (Nat.lt_irrefl _)];decide),Ze,if_pos ka,va]
   exact .leaf
  ·have hr:rightT p (t:Int)=true:=by
    unfold rightT
    rw[decide_eq_true (show (0:Int)≤(t:Int) by omega),decide_eq_true (show (t:Int) < (p.2.length:Int) by omega),decide_eq_true hch];rfl
   obtain ⟨f1,f2,_⟩:=hF.flow (t:Int) hr
   have htt:List.getD p.2 t (dflt (.sl Za))=thrT p (t:Int):=by unfold thrT;rw[Int.toNat_natCast]
   have hin:(decide ((0:Int)≤(t:Int))&&decide ((t:Int) < Int.ofNat p.2.length))=true:=by rw[nng,ZS ht];rfl
   obtain ⟨k1,v1⟩:=ZB4 hF (t:Int)
   rw[if_pos hr] at v1
   obtain ⟨P,hP⟩:∃P,Zba p (t:Int)=P:=⟨_,rfl⟩
   rw[hP] at v1
   have hPl:P.length≤400000000:=by
    rw[v1]
    exact Nat.le_trans (ZFN _ _ _ _) (ZML hF (t:Int))
   have mid:∀i,i≤P.length→Goes (ZaD l) (.jmp (.l11 (t:Int) P (i:Int))) true:=by
    refine down ?_ fun i hi ihi=>?_
    ·rw[Zi,ZaD,Ze,if_neg (by rw[Zy (Nat.lt_irrefl _)];decide),Zr (by omega)]
     exact ih
    ·obtain ⟨x0,hx0,hu0⟩:=ZI8 hF hr v1.symm hi
     obtain ⟨less,hless⟩:∃less,P.take i++P.drop (i+1)=less:=⟨_,rfl⟩
     have hll:less.length < 1000000000:=by rw[←hless,List.length_append,List.length_take,List.length_drop];omega
     rw[hless] at hu0
     have free_val:∀x∈O,(show Int from x.1)=(t:Int)→Zdq (thrT p (t:Int)) less (show Int from x.2.1) (show Int from x.2.2)=true∧ZdB (thrT p (t:Int)) less (show Int from x.2.1) (show Int from x.2.2)=uB (thrT p (t:Int)) less x:=fun x hx hxt=>by
      obtain ⟨_,a2,a3,a4⟩:=ZCA f1 (show less.length < 4611686018427387904 by omega) (show Int from x.2.1) (show Int from x.2.2)
      exact ⟨a2,by rw[a3,a4];rfl⟩
     have b1:((((decide ((0:Int)≤(i:Int)))&&(decide ((i:Int)≤(Int.ofNat (List.length P)))))&&true)&&(decide ((0:Int)≤(i:Int))))=true:=by
      rw[decide_eq_true (show (0:Int)≤(i:Int) by omega),decide_eq_true (show (i:Int)≤Int.ofNat P.length from Int.ofNat_le.2 (by omega))];rfl
     have b2:Nat.ble ((List.length (List.take i P))*8) limit=true:=Nat.ble_eq_true_of_le (by rw[List.length_take];unfold limit;omega)
     have hw:IntKind.i64.wrap ((i:Int)+1)=((i+1:Nat):Int):=Zr (by omega)
     have b3:((((decide ((0:Int)≤(Int.ofNat (List.length P))))&&(decide ((Int.ofNat (List.length P))≤(Int.ofNat (List.length P)))))&&(decide ((0:Int)≤((i+1:Nat):Int))))&&(decide (((i+1:Nat):Int)≤(Int.ofNat (List.length P)))))=true:=by
      rw[decide_eq_true (show (0:Int)≤Int.ofNat P.length from Int.natCast_nonneg _),decide_eq_true (Int.le_refl _),decide_eq_true (show (0:Int)≤((i+1:Nat):Int) from Int.natCast_nonneg _),decide_eq_true (show ((i+1:Nat):Int)≤Int.ofNat P.length from Int.ofNat_le.2 (by omega))];rfl
     have b4:Nat.ble (((List.length (List.take i P))+(List.length (List.drop (i+1) P)))*8) limit=true:=Nat.ble_eq_true_of_le (by rw[List.length_take,List.length_drop];unfold limit;omega)
     have inner:∀k,k≤O.length→∀free:Bool,(free=true∨x0∈O.drop k)→Goes (ZaD l) (.jmp (.l19 free (k:Int) (t:Int) P less (i:Int))) true:=by
      refine down ?_ fun k hk ihk=>?_
      ·intro free hfr
       have hfr:free=true:=by
        rcases hfr with h | h
        ·exact h
        ·rw[List.drop_length] at h;cases h
       rw[hfr,Zi,ZaD,hp,hO,Ze,if_neg (by rw[Zy (Nat.lt_irrefl _)];decide),Ze,if_neg (by decide),Zr (by omega)]
       exact ihi
      ·intro free hfr
       rw[Zi,ZaD,hp,hO,Ze,if_pos (ZS hk),Zr (by omega),Ze]
       cases free with
       | true=>
        rw[if_pos rfl]
        exact ihk true (.inl rfl)
       | false=>
        have hd:x0∈O.drop k:=by
         rcases hfr with h | h
         ·cases h
         ·exact h
        rw[ZP hk] at hd
        have hin2:(decide ((0:Int)≤(k:Int))&&decide ((k:Int) < Int.ofNat O.length))=true:=by rw[nng,ZS hk];rfl
        rw[if_neg (by decide),Ze,if_pos hin2,Int.toNat_natCast,ZH hk,Ze]
        have hx0t:(show Int from x0.1)=(t:Int):=(ZKk hF hx0).2
        by_cases e:(show Int from (O[k]).1)=(t:Int)
        ·obtain ⟨q1,q2⟩:=free_val O[k] (List.getElem_mem hk) e
         have q1:Zdq (thrT p (t:Int)) less (O[k]).2.1 (O[k]).2.2=true:=q1
         have q2:ZdB (thrT p (t:Int)) less (O[k]).2.1 (O[k]).2.2=uB (thrT p (t:Int)) less O[k]:=q2
         rw[if_pos (show ((O[k]).1==(t:Int))=true from beq_iff_eq.2 e),Ze,if_pos hin,Ze,if_pos hin2,Ze,if_pos hin2,Int.toNat_natCast,htt,Ze,if_pos q1,q2]
         refine ihk _ ?_
         rcases List.mem_cons.1 hd with h | h
         ·rw[←h];exact .inl hu0
         ·exact .inr h
        ·rw[if_neg (show ¬((O[k]).1==(t:Int))=true from fun h=>e (beq_iff_eq.1 h))]
         refine ihk _ (.inr ?_)
         rcases List.mem_cons.1 hd with h | h
         ·rw[h] at hx0t;exact absurd hx0t e
         ·exact h
     rw[Zi,ZaD,Ze,if_pos (ZS hi),Ze,if_pos b1,Int.toNat_natCast,Ze,if_pos b2,hw,Ze,if_pos b3,List.take_length,Int.toNat_natCast,Ze,if_pos b4,hless]
     refine inner 0 (Nat.zero_le _) _ (.inr ?_)
     rw[List.drop_zero,←hOd]
     exact (List.mem_filter.1 hx0).1
   rw[Zi,ZaD,hp,Ze,if_pos (ZS ht),Ze,if_pos k1,hP]
   exact mid 0 (Nat.zero_le _)
 exact outer 0 (Nat.zero_le _)
end Go.Ev
end

section
open Go Go.Ev
namespace Go.Ev
noncomputable section
theorem Zwh (l:List (List (El Zq))) (hk:Zqj l=true):CallOK Go.Proofs.Tryz.prog 4 (toForms Zag (l,())) (Zga (Zjz l),tps (toForms Zag (l,()))):=by
 obtain ⟨h1,h2⟩:=Zo0 Zwa
 obtain ⟨n,hn⟩:=Zm (c:=Zgb) (K:=fun v=>(Zga v,tps (toForms Zag (l,())))) (S:=ZbP l) (by kernel_rfl) (ZvZ l) (Zwx l) (Zyb l hk)
 exact ZvJ (f:=4) (c:=Zgb) h1 h2 (by kernel_rfl) (by kernel_rfl) (by kernel_rfl) hn
end
end Go.Ev
end

section
namespace Go.Ev
open Go
theorem Zt4 (a:Args Zag) (ha:smallArgs Zag a):CallOK Go.Proofs.Tryz.prog Zvq (toForms Zag a) (.d .bool true,tps (toForms Zag a)):=by
 obtain ⟨l,_⟩:=a
 exact Zwh l rfl
end Go.Ev
end

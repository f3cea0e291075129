/- Part of the proof of: A copy of a program is the same program, and what is changed in it changes nothing in the first; of two programs the two comparisons answer alike, and a program is the same as itself: for every input the law answers true. -/
import Derived.Test.YtfjbbffkibcijaaDoorCon0
set_option maxRecDepth 100000
set_option linter.unusedSectionVars false
set_option linter.unusedVariables false
set_option linter.unusedSimpArgs false
section
open Go
namespace Go.Ev
def Zdf (p:El Zc) (q:El Zc) (l:List (List (El Zg))):Bool:=true
def ZfB (p:El Zc) (q:El Zc) (l:List (List (El Zg))):Bool:=true
def sym99:List (El Zd):=[((bs [120]),((99:Int),[])),((bs [121]),((99:Int),[(99:Int)])),((bs [122]),((99:Int),[(99:Int)]))]
theorem ZtD (th:List (List (El Za))) (l:List (List (El Zg))):same Zc (sym99,th) (Zh l 2 5)=false:=by
 rw[Bool.eq_false_iff,ne_eq,Zby]
 intro h
 have h1:sym99=symsB:=congrArg Prod.fst h
 have h2:(sym99.map fun s=>(show Int from s.2.1))=symsB.map fun s=>(show Int from s.2.1):=by rw[h1]
 revert h2
 show ¬([99,99,99]:List Int)=[1,2,1]
 decide
theorem ZjY (p:El Zc) (q:El Zc) (l:List (List (El Zg))) (hk:ZfB p q l=true):Goes (Zo p q l) (ZcG p q l) (Zdf p q l):=by
 unfold ZcG Zdf
 rw[Ze]
 by_cases hp:ZaG p=true
 ·rw[if_pos hp,Ze,if_pos Zot,Zom]
  exact .leaf
 rw[if_neg hp,Ze]
 by_cases hq:ZaG q=true
 ·rw[if_pos hq,Ze,if_pos Zot,Zom]
  exact .leaf
 rw[if_neg hq]
 have cp:=Znx (Bool.not_eq_true _▸hp)
 have cq:=Znx (Bool.not_eq_true _▸hq)
 have cm:=ZsU l
 have s1:∀ {x:El Zc},same Zc x x=true:=Zpr
 have v1:Zz (Zh l 2 5)=Zh l 2 5:=rfl
 have v2:∀x,ZQ x=x:=fun _=>rfl
 have v3:∀x y,Z7 x y=same Zc x y:=fun _ _=>rfl
 have v4:∀x y,Za1 x y=same Zc x y:=fun _ _=>rfl
 have k1:Zdd (Zh l 2 5)=true:=cm
 have k2:∀ {x},copyB x=true→ZdV x=true:=fun h=>h
 have k3:∀ {x y},copyB x=true→Zao x y=true:=fun h=>h
 have k4:∀ {x y},copyB x=true→ZbS x y=true:=fun h=>h
 have last:∀c1:List (List (El Za)),copyB (sym99,c1)=true→Goes (Zo p q l) (.jmp (.l29 3 sym99 c1)) true:=fun c1 h=>by
  rw[Zi,Zo,Ze,if_neg (by decide),Ze,if_pos (k3 cm),Ze,v1,v3,if_pos s1,Ze,if_pos (k4 h),Ze,v4,ZtD,if_pos (by decide),Ze,if_pos (k4 cp),Ze,if_pos (k3 cp),Ze,v4,v3,if_pos (by rw[beq_self_eq_true]),Ze,if_pos (k2 cp),Ze,v2,if_pos (k3 cp),Ze,v3,if_pos s1,Ze,if_pos (k4 cp),Ze,v4,if_pos s1,Ze,if_pos Zot,Zom]
  exact .leaf
 have syms:∀c1:List (List (El Za)),copyB (sym99,c1)=true→Goes (Zo p q l) (.jmp (.l29 0 symsB c1)) true:=fun c1 h=>by
  have e:walkT (Zo p q l) 28 (.jmp (.l29 0 symsB c1))=.jmp (.l29 3 sym99 c1):=by kernel_rfl
  exact ZjZ 28 (e▸last c1 h)
 obtain ⟨n,hn⟩:∃n,(Zh l 2 5).2.length=n:=⟨_,rfl⟩
 have hC:=copyOK cm
 have hn1:n < 1073741824:=by rw[←hn];exact hC.thr
 have l12:∀k,k≤n→∀c:List (List (El Za)),c.length=n→(∀t∈c,copyThread t=true)→Goes (Zo p q l) (.jmp (.l12 (k:Int) c)) true:=by
  refine down ?_ fun k hk ih=>?_
  ·intro c hl hc
   rw[Zi,Zo,Ze,hl,if_neg (by simp)]
   exact syms c (Zoa (show sym99.length < _ by decide) (show ∀s∈sym99,List.length s.2.2 < _ by decide+kernel) (by show c.length < _;omega) hc)
  ·intro c hl hc
   have l17:∀m,m < 1073741824→∀i,i≤m→∀c:List (List (El Za)),c.length=n→(∀t∈c,copyThread t=true)→(c.getD k []).length=m→Goes (Zo p q l) (.jmp (.l17 (i:Int) c (k:Int))) true:=by
    intro m hm
    refine down ?_ fun i hi ihi=>?_
    ·intro c hl hc hw
     have hk':k < c.length:=hl▸hk
     rw[Zi,Zo,Ze,if_pos (ZC hk'),Ze,Int.toNat_natCast,show dflt (.sl Za)=([]:List (El Za)) from rfl,hw,if_neg (by simp),Zn (by omega)]
     exact ih c hl hc
    ·have l23:∀b,b < 1073741824→∀j,j≤b→∀c:List (List (El Za)),c.length=n→(∀t∈c,copyThread t=true)→(c.getD k []).length=m→List.length ((c.getD k []).getD i (dflt Za)).2.2.2.2.2.2=b→Goes (Zo p q l) (.jmp (.l23 (j:Int) c (i:Int) (k:Int))) true:=by
      intro b hb
      refine down ?_ fun j hj ihj=>?_
      ·intro c hl hc hw hL
       have hk':k < c.length:=hl▸hk
       have hi':i < (c.getD k []).length:=hw▸hi
       rw[Zi,Zo,Ze,if_pos (ZC hk'),Ze,Int.toNat_natCast,Int.toNat_natCast,show dflt (.sl Za)=([]:List (El Za)) from rfl,if_pos (ZC hi'),Ze,hL,if_neg (by simp),Ze,if_pos (ZC hk'),Ze,if_pos (ZC hi'),Zn (by omega)]
       have hx:copyThread (c.getD k [])=true:=by rw[Zs hk'];exact hc _ (List.getElem_mem hk')
       have hy:copyIns ((c.getD k []).getD i (dflt Za))=true:=by rw[Zs hi'];exact ZiR hx (List.getElem_mem hi')
       refine ihi _ (by rw[List.length_set];exact hl) (Ziy hc (Zml hx hy)) ?_
       rw[List.getD_eq_getElem?_getD,List.getElem?_set_self hk',Option.getD_some,List.length_set]
       exact hw
      ·intro c hl hc hw hL
       have hk':k < c.length:=hl▸hk
       have hi':i < (c.getD k []).length:=hw▸hi
       rw[Zi,Zo,Ze,if_pos (ZC hk'),Ze,Int.toNat_natCast,Int.toNat_natCast,Int.toNat_natCast,show dflt (.sl Za)=([]:List (El Za)) from rfl,if_pos (ZC hi'),Ze,hL,if_pos (by simp;omega),Ze,if_pos (ZC hk'),Ze,if_pos (ZC hi'),Ze,if_pos (by simp;omega),Zn (by omega)]
       have hx:copyThread (c.getD k [])=true:=by rw[Zs hk'];exact hc _ (List.getElem_mem hk')
       refine ihj _ (by rw[List.length_set];exact hl) (Ziy hc (Zml hx ?_)) ?_ ?_
       ·refine decide_eq_true ?_
        show List.length (List.set _ _ _) < _
        rw[List.length_set,hL];exact hb
       ·rw[List.getD_eq_getElem?_getD,List.getElem?_set_self hk',Option.getD_some,List.length_set]
        exact hw
       ·rw[List.getD_eq_getElem?_getD (l:=List.set c _ _),List.getElem?_set_self hk',Option.getD_some,List.getD_eq_getElem?_getD (l:=List.set _ i _),List.getElem?_set_self hi',Option.getD_some]
        show List.length (List.set _ _ _)=_
        rw[List.length_set];exact hL
     intro c hl hc hw
     have hk':k < c.length:=hl▸hk
     have hi':i < (c.getD k []).length:=hw▸hi
     have hx:copyThread (c.getD k [])=true:=by rw[Zs hk'];exact hc _ (List.getElem_mem hk')
     have hy:copyIns ((c.getD k []).getD i (dflt Za))=true:=by rw[Zs hi'];exact ZiR hx (List.getElem_mem hi')
     rw[Zi,Zo,Ze,if_pos (ZC hk'),Ze,Int.toNat_natCast,show dflt (.sl Za)=([]:List (El Za)) from rfl,hw,if_pos (by simp;omega)]
     exact l23 _ (of_decide_eq_true hy) 0 (Nat.zero_le _) c hl hc hw rfl
   have hk':k < c.length:=hl▸hk
   have hx:copyThread (c.getD k [])=true:=by rw[Zs hk'];exact hc _ (List.getElem_mem hk')
   rw[Zi,Zo,Ze,hl,if_pos (by simp;omega)]
   exact l17 _ (ZmY hx) 0 (Nat.zero_le _) c hl hc rfl
 rw[Ze,if_pos (Ztf l),Ze,if_pos k1,Ze,if_pos (k2 cm),Ze,v2,if_pos (k3 cm),Ze,v3,s1,if_neg (by decide),Ze,if_pos (k4 cm),Ze,v4,s1,if_neg (by decide)]
 refine l12 0 (Nat.zero_le _) _ hn fun t ht=>?_
 unfold copyB at cm
 simp only[Bool.and_eq_true,List.all_eq_true] at cm
 exact cm.2.2.2 t ht
end Go.Ev
end

section
open Go Go.Ev
namespace Go.Ev
noncomputable section
theorem Zi4 (p:El Zc) (q:El Zc) (l:List (List (El Zg))) (hk:ZfB p q l=true):CallOK Go.Proofs.Tryd.prog 4 (toForms Zy (p,q,l,())) (Zbw (Zdf p q l),tps (toForms Zy (p,q,l,()))):=by
 obtain ⟨h1,h2⟩:=ZoM Zjb
 obtain ⟨n,hn⟩:=Zp (c:=ZbA) (K:=fun v=>(Zbw v,tps (toForms Zy (p,q,l,())))) (S:=ZZ p q l) (by kernel_rfl) (Zi7 p q l) (Zi8 p q l) (ZjY p q l hk)
 exact ZmE (f:=4) (c:=ZbA) h1 h2 (by kernel_rfl) (by kernel_rfl) (by kernel_rfl) hn
end
end Go.Ev
end

section
namespace Go.Ev
open Go
theorem Zhp (a:Args Zy) (ha:smallArgs Zy a):CallOK Go.Proofs.Tryd.prog 4 (toForms Zy a) (.d .bool true,tps (toForms Zy a)):=by
 obtain ⟨x,y,z,_⟩:=a
 exact Zi4 x y z rfl
end Go.Ev
end

/- Part of the proof of: A program that the book makes, with one thing of it changed and then another one, may be by the code exactly when it may be by the document: for every input the law answers true. -/
import Derived.Carry
import Derived.ChangeArms
import Derived.ChangeSame
import Derived.Deep.DeepHandedRow
import Derived.Lib.RowBridge
import Derived.Maps.RangeRun
import Derived.OpenShut
import Derived.Shelf.Slices.Clone
import Derived.Shelf.Slices.CompactI
import Derived.Shelf.Slices.Delete
import Derived.Sort.OwnSortedInts
import Derived.WideKeyArgs
import Derived.Test.YtfjbbffkibcijaaDoorEng1
set_option maxRecDepth 100000
set_option linter.unusedSectionVars false
set_option linter.unusedVariables false
set_option linter.unusedSimpArgs false
section
namespace Go.Ev
variable [Tabs] [Orgs]
open Go
section
variable {P:Program} {Mod:Nat→Prop} {o:Oper} {st:St} {F F1 F':Nat→Prop} {ρ:Rho} {w w':World} {tm:Array Value}
theorem packE (hR:R Mod F ρ w st tm) {st':St} (hk:Keeps F w F1 w) (hr:Ref st ρ st' ρ) {d:DTy} {az:List AV} {x:El d.ty} {is ms:List Id} {rest:List AV} {ns:List Value} (h:packD st d az=some (x,rest,is,ms)) (hl:az.length=d.ty.cells) (hc:CsRep F ρ w st az ns)
  (hF:∀id∈is,∀v o,find id st.ob=some (v,o)→isRow o=true→∀b,b∈hb (ρ id)→F1 b):
  ∃gs:List Value,gs.length=ns.length∧(∀g k0,(∀m u,gs[m]? =some u→gk g (k0+m)=u)→ERep F1 w d g k0 x ns (blocks ρ ms))∧∀id∈ms,∃ver o,find id st.ob=some (ver,o)∧o.free=true:=by
 obtain ⟨v1,v2,gs,rfl,c,l,e,m⟩:=Zle hR hk hr h hc hF
 have h1:=(e (mkT undef gs) 0 fun m u hu=>by rw[Nat.zero_add,Zqw,List.getD_eq_getElem?_getD,hu];rfl).length
 have h2:=hc.1
 have h3:v2=[]:=List.eq_nil_of_length_eq_zero (by simp only[List.length_append] at h2;omega)
 subst h3
 rw[List.append_nil]
 exact ⟨gs,by omega,e,m⟩
theorem Zxw (hR:R Mod F ρ w st tm) {st':St} (hk:Keeps F w F1 w) (hr:Ref st ρ st' ρ):∀ {d:DTy} {g:Value} {k0:Nat} {x x':El d.ty} {vs ns:List Value} {B:List Nat} {j:Nat} {az:List AV} {is ms:List Id},ERep F w d g k0 x vs B→B.Nodup→(blocks ρ ms).Nodup→(∀b∈B,b∉blocks ρ ms)→
  putE st d x j az=some (x',is,ms)→CsRep F ρ w st az ns→(∀id∈is,∀v o,find id st.ob=some (v,o)→isRow o=true→∀b,b∈hb (ρ id)→F1 b)→
  j+ns.length≤d.ty.cells∧(∀id∈ms,∃ver o,find id st.ob=some (ver,o)∧o.free=true)∧∃(gs:List Value) (B':List Nat),gs.length=ns.length∧B'.Nodup∧(∀b∈B',b∈B∨b∈blocks ρ ms)∧
   ∀g',(∀m,m < d.ty.cells→gk g' (k0+m)=if j≤m∧m < j+ns.length then gs.getD (m - j) undef else gk g (k0+m))→ERep F1 w d g' k0 x' (vs.take j++(ns++vs.drop (j+ns.length))) B':=by
 intro d
 have whole:∀ {d:DTy} {g:Value} {k0:Nat} {x x':El d.ty} {vs ns:List Value} {B:List Nat} {j:Nat} {az:List AV} {is ms:List Id},ERep F w d g k0 x vs B→(blocks ρ ms).Nodup→(Nat.beq j 0&&Nat.beq az.length d.ty.cells)=true→
   ((packD st d az).map fun (y,_,is,ms)=>(y,is,ms))=some (x',is,ms)→CsRep F ρ w st az ns→(∀id∈is,∀v o,find id st.ob=some (v,o)→isRow o=true→∀b,b∈hb (ρ id)→F1 b)→
   j+ns.length≤d.ty.cells∧(∀id∈ms,∃ver o,find id st.ob=some (ver,o)∧o.free=true)∧∃(gs:List Value) (B':List Nat),gs.length=ns.length∧B'.Nodup∧(∀b∈B',b∈B∨b∈blocks ρ ms)∧
    ∀g',(∀m,m < d.ty.cells→gk g' (k0+m)=if j≤m∧m < j+ns.length then gs.getD (m - j) undef else gk g (k0+m))→ERep F1 w d g' k0 x' (vs.take j++(ns++vs.drop (j+ns.length))) B':=by
  intro d g k0 x x' vs ns B j az is ms h hnm hb he hc hF
  rw[Bool.and_eq_true] at hb
  obtain rfl:=Nat.eq_of_beq_eq_true hb.1
  have hl:=Nat.eq_of_beq_eq_true hb.2
  obtain ⟨⟨y,rest,is',ms'⟩,hp,he⟩:=Option.map_eq_some_iff.1 he
  simp only[Prod.mk.injEq] at he
  obtain ⟨rfl,rfl,rfl⟩:=he
  obtain ⟨gs,g1,g2,g3⟩:=packE hR hk hr hp hl hc hF
  have hns:=hc.1
  have hvs:=h.length
  refine ⟨by omega,g3,gs,blocks ρ ms',g1,hnm,fun b hb=>.inr hb,fun g' hg'=>?_⟩
  rw[List.take_zero,List.nil_append,List.drop_of_length_le (by omega),List.append_nil]
  refine g2 g' k0 fun m u hu=>?_
  have hm:=(List.getElem?_eq_some_iff.1 hu).1
  rw[hg' m (by omega),if_pos ⟨Nat.zero_le _,by omega⟩,Nat.sub_zero,List.getD_eq_getElem?_getD,hu]
  rfl
 induction d with
 | leaf t=>
  intro g k0 x x' vs ns B j az is ms h hn hnm hd he hc hF
  simp only[putE] at he
  cases hb:(Nat.beq j 0&&Nat.beq az.length t.cells) with
  | false=>rw[hb] at he;cases he
  | true=>rw[hb] at he;exact whole h hnm hb he hc hF
 | ro d ih=>
  intro g k0 x x' vs ns B j az is ms h hn hnm hd he hc hF
  simp only[putE] at he
  cases hb:(Nat.beq j 0&&Nat.beq az.length 1) with
  | false=>rw[hb] at he;cases he
  | true=>rw[hb] at he;exact whole h hnm hb he hc hF
 | pr a b iha ihb=>
  intro g k0 x x' vs ns B j az is ms h hn hnm hd he hc hF
  simp only[putE] at he
  cases hb:(Nat.beq j 0&&Nat.beq az.length (a.ty.cells+b.ty.cells)) with
  | true=>rw[hb] at he;exact whole h hnm hb he hc hF
  | false=>
   rw[hb] at he
   simp only[cond_false] at he
   obtain ⟨v1,v2,B1,B2,rfl,rfl,h1,h2⟩:=h
   obtain ⟨n1,n2,n3⟩:=List.nodup_append.1 hn
   have e1:=h1.length
   have e2:=h2.length
   have hl:=hc.1
   simp only[Ty.cells]
   cases hb:Nat.ble (j+az.length) a.ty.cells with
   | true=>
    rw[hb] at he
    have hle:=Nat.le_of_ble_eq_true hb
    obtain ⟨⟨y,is',ms'⟩,hp,he⟩:=Option.map_eq_some_iff.1 he
    simp only[Prod.mk.injEq] at he
    obtain ⟨rfl,rfl,rfl⟩:=he
    obtain ⟨q1,q2,gs,B',q3,q4,q5,q6⟩:=iha h1 n1 hnm (fun b hb=>hd b (by simp[hb])) hp hc hF
    refine ⟨by omega,q2,gs,B'++B2,q3,List.nodup_append.2 ⟨q4,n2,fun p hp q hq e=>?_⟩,fun c hc=>?_,fun g' hg'=>⟨_,v2,B',B2,?_,rfl,q6 g' fun m hm=>hg' m (by omega),?_⟩⟩
    ·subst e
     rcases q5 p hp with h | h
     ·exact n3 p h p hq rfl
     ·exact hd p (by simp[hq]) h
    ·rcases List.mem_append.1 hc with hc | hc
     ·exact (q5 c hc).imp (fun h=>by simp[h]) id
     ·exact .inl (by simp[hc])
    ·rw[List.take_append_of_le_length (by omega),List.drop_append_of_le_length (by omega)]
     simp
    ·refine (h2.keep hk fun _ _=>rfl).gcongr fun m hm=>?_
     rw[Nat.add_assoc,hg' (a.ty.cells+m) (by omega),if_neg (by omega)]
   | false=>
    rw[hb] at he
    simp only[cond_false] at he
    cases hb2:Nat.ble a.ty.cells j with
    | false=>rw[hb2] at he;cases he
    | true=>
     rw[hb2] at he
     have hle:=Nat.le_of_ble_eq_true hb2
     obtain ⟨⟨y,is',ms'⟩,hp,he⟩:=Option.map_eq_some_iff.1 he
     simp only[Prod.mk.injEq] at he
     obtain ⟨rfl,rfl,rfl⟩:=he
     obtain ⟨q1,q2,gs,B',q3,q4,q5,q6⟩:=ihb h2 n2 hnm (fun b hb=>hd b (by simp[hb])) hp hc hF
     refine ⟨by omega,q2,gs,B1++B',q3,List.nodup_append.2 ⟨n1,q4,fun p hp q hq e=>?_⟩,fun c hc=>?_,fun g' hg'=>⟨v1,_,B1,B',?_,rfl,?_,q6 g' fun m hm=>?_⟩⟩
     ·subst e
      rcases q5 p hq with h | h
      ·exact n3 p hp p h rfl
      ·exact hd p (by simp[hp]) h
     ·rcases List.mem_append.1 hc with hc | hc
      ·exact .inl (by simp[hc])
      ·exact (q5 c hc).imp (fun h=>by simp[h]) id
     ·rw[List.take_append,List.drop_append,List.take_of_length_le (by omega),List.drop_of_length_le (by omega),e1]
      rw[show j+ns.length - a.ty.cells=j - a.ty.cells+ns.length by omega]
      simp
     ·refine (h1.keep hk fun _ _=>rfl).gcongr fun m hm=>?_
      rw[hg' m (by omega),if_neg (by omega)]
     ·rw[Nat.add_assoc,hg' (a.ty.cells+m) (by omega)]
      by_cases h:j - a.ty.cells≤m∧m < j - a.ty.cells+ns.length
      ·rw[if_pos (by omega),if_pos h,show a.ty.cells+m - j=m - (j - a.ty.cells) by omega]
      ·rw[if_neg (by omega),if_neg h]
theorem ZrP:∀ {d:DTy} {cs rest:List AV} {x:El d.ty} {is ms:List Id},packD st d cs=some (x,rest,is,ms)→∀id∈ms,∃ver o,find id st.ob=some (ver,o)∧o.free=true
 |.leaf t,cs,rest,x,is,ms,h=>by
  simp only[packD] at h
  obtain ⟨⟨az,i1⟩,h1,h⟩:=Option.bind_eq_some_iff.1 h
  obtain ⟨y,h2,h⟩:=Option.map_eq_some_iff.1 h
  simp only[Prod.mk.injEq] at h
  obtain ⟨rfl,rfl,rfl,rfl⟩:=h
  intro id hid;cases hid
 |.ro d,[],_,_,_,_,h=>by simp only[packD] at h;cases h
 |.ro d,c :: cs,rest,x,is,ms,h=>by
  simp only[packD] at h
  split at h
  ·cases h;intro id hid;cases hid
  ·rename_i id ver
   split at h
   ·rename_i E t l ho
    split at h
    ·rename_i hd
     subst hd
     cases h
     intro i hi
     rcases List.mem_cons.1 hi with rfl | hi
     ·exact ⟨_,_,Zw.1 ho,rfl⟩
     ·cases hi
    ·cases h
   ·cases h
  ·rename_i id ver
   split at h
   ·rename_i E d' l ho
    split at h
    ·rename_i hd
     subst hd
     cases h
     intro i hi
     rcases List.mem_cons.1 hi with rfl | hi
     ·exact ⟨_,_,Zw.1 ho,rfl⟩
     ·cases hi
    ·cases h
   ·cases h
  ·cases h
 |.pr a b,cs,rest,x,is,ms,h=>by
  simp only[packD] at h
  obtain ⟨⟨y1,r1,i1,m1⟩,h1,h⟩:=Option.bind_eq_some_iff.1 h
  obtain ⟨⟨y2,r2,i2,m2⟩,h2,h⟩:=Option.map_eq_some_iff.1 h
  simp only[Prod.mk.injEq] at h
  obtain ⟨rfl,rfl,rfl,rfl⟩:=h
  intro id hid
  rcases List.mem_append.1 hid with hid | hid
  ·exact ZrP h1 id hid
  ·exact ZrP h2 id hid
theorem Zyg:∀ {d:DTy} {x x':El d.ty} {j:Nat} {az:List AV} {is ms:List Id},putE st d x j az=some (x',is,ms)→∀id∈ms,∃ver o,find id st.ob=some (ver,o)∧o.free=true:=by
 intro d
 have whole:∀ {d:DTy} {x':El d.ty} {az:List AV} {is ms:List Id},((packD st d az).map fun (y,_,is,ms)=>(y,is,ms))=some (x',is,ms)→∀id∈ms,∃ver o,find id st.ob=some (ver,o)∧o.free=true:=by
  intro d x' az is ms h
  obtain ⟨⟨y,rest,is',ms'⟩,hp,he⟩:=Option.map_eq_some_iff.1 h
  simp only[Prod.mk.injEq] at he
  obtain ⟨rfl,rfl,rfl⟩:=he
  exact ZrP hp
 induction d with
 | leaf t=>
  intro x x' j az is ms h
  simp only[putE] at h
  cases hb:(Nat.beq j 0&&Nat.beq az.length t.cells) with
  | false=>rw[hb] at h;cases h
  | true=>rw[hb] at h;exact whole h
 | ro d ih=>
  intro x x' j az is ms h
  simp only[putE] at h
  cases hb:(Nat.beq j 0&&Nat.beq az.length 1) with
  | false=>rw[hb] at h;cases h
  | true=>rw[hb] at h;exact whole h
 | pr a b iha ihb=>
  intro x x' j az is ms h
  simp only[putE] at h
  cases hb:(Nat.beq j 0&&Nat.beq az.length (a.ty.cells+b.ty.cells)) with
  | true=>rw[hb] at h;exact whole h
  | false=>
   rw[hb] at h
   simp only[cond_false] at h
   cases hb:Nat.ble (j+az.length) a.ty.cells with
   | true=>
    rw[hb] at h
    obtain ⟨⟨y,is',ms'⟩,hp,he⟩:=Option.map_eq_some_iff.1 h
    simp only[Prod.mk.injEq] at he
    obtain ⟨rfl,rfl,rfl⟩:=he
    exact iha hp
   | false=>
    rw[hb] at h
    simp only[cond_false] at h
    cases hb2:Nat.ble a.ty.cells j with
    | false=>rw[hb2] at h;cases h
    | true=>
     rw[hb2] at h
     obtain ⟨⟨y,is',ms'⟩,hp,he⟩:=Option.map_eq_some_iff.1 h
     simp only[Prod.mk.injEq] at he
     obtain ⟨rfl,rfl,rfl⟩:=he
     exact ihb hp
theorem ZxT:∀ {d:DTy} {x x':El d.ty} {j:Nat} {az:List AV} {is ms:List Id} {ns:List Value},putE st d x j az=some (x',is,ms)→az.length=ns.length→j+ns.length≤d.ty.cells:=by
 intro d
 induction d with
 | leaf t=>
  intro x x' j az is ms ns h hl
  simp only[putE] at h
  cases hb:(Nat.beq j 0&&Nat.beq az.length t.cells) with
  | false=>rw[hb] at h;cases h
  | true=>
   rw[Bool.and_eq_true] at hb
   have h1:=Nat.eq_of_beq_eq_true hb.1
   have h2:=Nat.eq_of_beq_eq_true hb.2
   show j+ns.length≤t.cells
   omega
 | ro d ih=>
  intro x x' j az is ms ns h hl
  simp only[putE] at h
  cases hb:(Nat.beq j 0&&Nat.beq az.length 1) with
  | false=>rw[hb] at h;cases h
  | true=>
   rw[Bool.and_eq_true] at hb
   have h1:=Nat.eq_of_beq_eq_true hb.1
   have h2:=Nat.eq_of_beq_eq_true hb.2
   show j+ns.length≤1
   omega
 | pr a b iha ihb=>
  intro x x' j az is ms ns h hl
  simp only[putE] at h
  simp only[Ty.cells]
  cases hb:(Nat.beq j 0&&Nat.beq az.length (a.ty.cells+b.ty.cells)) with
  | true=>
   rw[Bool.and_eq_true] at hb
   have h1:=Nat.eq_of_beq_eq_true hb.1
   have h2:=Nat.eq_of_beq_eq_true hb.2
   omega
  | false=>
   rw[hb] at h
   simp only[cond_false] at h
   cases hb:Nat.ble (j+az.length) a.ty.cells with
   | true=>have:=Nat.le_of_ble_eq_true hb;omega
   | false=>
    rw[hb] at h
    simp only[cond_false] at h
    cases hb2:Nat.ble a.ty.cells j with
    | false=>rw[hb2] at h;cases h
    | true=>
     rw[hb2] at h
     have h3:=Nat.le_of_ble_eq_true hb2
     obtain ⟨⟨y,is',ms'⟩,hp,he⟩:=Option.map_eq_some_iff.1 h
     have:=ihb hp hl
     omega
theorem elemPut (hk:Keeps F w F' w') {E:TypeId} {d:DTy} {g:Value} {l:List (El d.ty)} {cells:List Value} {Bs:List (List Nat)} (hown:ownsAt w E d.ty.cells (gv g) l.length cells) (hbl:Bs.length=l.length)
  (hel:∀i x,l[i]? =some x→∃cs Bi,Bs[i]? =some Bi∧ERep F w d (gk g i) 0 x cs Bi∧∀j u,cs[j]? =some u→cells[i*d.ty.cells+j]? =some u)
  {i:Nat} (hi:i < l.length) {e':El d.ty} {ge:Value} {vs':List Value} {Be:List Nat} (he:ERep F' w' d ge 0 e' vs' Be)
  {g0 off c:Nat} {cur:Array Value} (hg:gv g=.slice (some ⟨g0,off,none⟩) l.length c) (hh:w.heap[g0]? =some (.cells cur E (0,0))) (hnc:l.length≤c) (hcm:c≤maxLen) (hsz:off+c*d.ty.cells≤cur.size) (htk:(cur.toList.drop off).take (l.length*d.ty.cells)=cells)
  (hw:w'.heap[g0]? =some (.cells (cur.toList.take (off+i*d.ty.cells)++vs'++cur.toList.drop (off+i*d.ty.cells+vs'.length)).toArray E (0,0)))
  (hs:∀j Bj,j≠i→Bs[j]? =some Bj→∀b∈Bj,w'.heap[b]? =w.heap[b]?):
  DRow F' w' E d (turnE g i ge l.length) (l.set i e') (hb1 (gv g)++(Bs.set i Be).flatten):=by
 have hvl:=he.length
 have hcap:i*d.ty.cells+d.ty.cells≤c*d.ty.cells:=by rw[←Nat.succ_mul];exact Nat.mul_le_mul_right _ (by omega)
 have hsl:off+i*d.ty.cells+vs'.length≤cur.toList.length:=by simp;omega
 refine ⟨((cur.toList.take (off+i*d.ty.cells)++vs'++cur.toList.drop (off+i*d.ty.cells+vs'.length)).drop off).take (l.length*d.ty.cells),Bs.set i Be,⟨?_,.inr ⟨g0,off,c,_,by rw[ZgN,hg,List.length_set],hw,by simpa using hnc,hcm,?_,by simp⟩⟩,by simpa using hbl,by rw[ZgN],fun i' x' hx'=>?_⟩
 ·have hcl:l.length*d.ty.cells≤c*d.ty.cells:=Nat.mul_le_mul_right _ hnc
  simp only[List.length_take,List.length_append,List.length_drop,List.length_set]
  simp at hsl ⊢
  omega
 ·simp only[List.size_toArray,List.length_append,List.length_take,List.length_drop]
  simp at hsl ⊢
  omega
 ·have hlt':i' < l.length:=by have:=(List.getElem?_eq_some_iff.1 hx').1;simpa using this
  have hb1:i'*d.ty.cells+d.ty.cells≤l.length*d.ty.cells:=by rw[←Nat.succ_mul];exact Nat.mul_le_mul_right _ hlt'
  rw[ZhN hlt']
  by_cases hii:i'=i
  ·subst hii
   rw[List.getElem?_set_self hi] at hx'
   cases hx'
   refine ⟨vs',Be,List.getElem?_set_self (by omega),by rw[if_pos rfl];exact he,fun m u hm=>?_⟩
   have hmlt:=(List.getElem?_eq_some_iff.1 hm).1
   rw[List.getElem?_take,if_pos (by omega),List.getElem?_drop,Zay hsl,if_neg (by omega),if_pos (by omega),show off+(i'*d.ty.cells+m) - (off+i'*d.ty.cells)=m by omega]
   exact hm
  ·rw[List.getElem?_set_ne (Ne.symm hii)] at hx'
   obtain ⟨cs',Bi',j1,h6,h7⟩:=hel i' x' hx'
   refine ⟨cs',Bi',by rw[List.getElem?_set_ne (Ne.symm hii)];exact j1,by rw[if_neg hii];exact h6.keep hk (hs i' Bi' hii j1),fun m u hm=>?_⟩
   have hmlt:m < d.ty.cells:=by have:=(List.getElem?_eq_some_iff.1 hm).1;have h5:=h6.length;rw[h5] at this;exact this
   have h8:=h7 m u hm
   rw[←htk,List.getElem?_take,if_pos (by omega),List.getElem?_drop] at h8
   rw[List.getElem?_take,if_pos (by omega),List.getElem?_drop,Zay hsl]
   by_cases hlt2:i' < i
   ·have:i'*d.ty.cells+d.ty.cells≤i*d.ty.cells:=by rw[←Nat.succ_mul];exact Nat.mul_le_mul_right _ hlt2
    rw[if_pos (by omega)]
    exact h8
   ·have:i*d.ty.cells+d.ty.cells≤i'*d.ty.cells:=by rw[←Nat.succ_mul];exact Nat.mul_le_mul_right _ (by omega)
    rw[if_neg (by omega),if_neg (by omega)]
    exact h8
theorem ZsK {cur vs ns:List Value} {a j:Nat} (hj:j+ns.length≤vs.length) (hc:a+vs.length≤cur.length) (h:∀m u,vs[m]? =some u→cur[a+m]? =some u):
  cur.take (a+j)++ns++cur.drop (a+j+ns.length)=cur.take a++(vs.take j++(ns++vs.drop (j+ns.length)))++cur.drop (a+(vs.take j++(ns++vs.drop (j+ns.length))).length):=by
 have hl:(vs.take j++(ns++vs.drop (j+ns.length))).length=vs.length:=by simp;omega
 apply List.ext_getElem?
 intro m
 rw[Zay (by omega),Zay (by rw[hl];omega),hl]
 have hv:∀k,k < vs.length→cur[a+k]? =vs[k]?:=fun k hk=>by rw[h k vs[k] (by simp[hk])];simp[hk]
 by_cases h1:m < a
 ·rw[if_pos (show m < a+j by omega),if_pos h1]
 ·rw[if_neg h1]
  by_cases h2:m < a+vs.length
  ·rw[if_pos h2,←List.append_assoc,Zay hj]
   by_cases h3:m < a+j
   ·rw[if_pos h3,if_pos (show m - a < j by omega),←hv _ (by omega),show a+(m - a)=m by omega]
   ·rw[if_neg h3,if_neg (show ¬m - a < j by omega)]
    by_cases h4:m < a+j+ns.length
    ·rw[if_pos h4,if_pos (show m - a < j+ns.length by omega),show m - (a+j)=m - a - j by omega]
    ·rw[if_neg h4,if_neg (show ¬m - a < j+ns.length by omega),←hv _ (by omega),show a+(m - a)=m by omega]
  ·rw[if_neg h2,if_neg (show ¬m < a+j by omega),if_neg (show ¬m < a+j+ns.length by omega)]
end
end Go.Ev
end

section
namespace Go.Ev
variable [Tabs] [Orgs]
open Go
theorem ZnX {f:AV→AV} {id:Id} :∀l:List (Id×Nat×Obj),find id (l.map fun p=>(p.1,p.2.1,mapO f p.2.2))=(find id l).map fun p=>(p.1,mapO f p.2)
 | []=>rfl
 | (x,p) :: r=>by
  rw[List.map_cons]
  simp only[find]
  cases Nat.beq x id with
  | true=>rfl
  | false=>exact ZnX r
theorem Zha {f:AV→AV} {st:St} {id:Id} {v:Nat} {o:Obj} (h:find id (mapSt f st).ob=some (v,o)):∃o',find id st.ob=some (v,o')∧o=mapO f o':=by
 unfold mapSt at h
 rw[ZnX] at h
 obtain ⟨⟨v',o'⟩,h1,h2⟩:=Option.map_eq_some_iff.1 h
 simp only[Prod.mk.injEq] at h2
 obtain ⟨rfl,rfl⟩:=h2
 exact ⟨o',h1,rfl⟩
theorem Zt0 {f:AV→AV} (o:Obj):(mapO f o).free=o.free:=by cases o <;> rfl
theorem Zxd {f:AV→AV} (o:Obj):Obj.sim o (mapO f o):=by
 cases o with
 | box T cs tg=>trivial
 | row E t l lk=>exact ⟨rfl,rfl⟩
 | map kt vt l=>trivial
 | sit s p=>trivial
 | gone tg=>trivial
 | deep E d l=>exact ⟨rfl,rfl,Zqd _ _⟩
section
variable {P:Program} {Mod:Nat→Prop} {o:Oper} {st st1:St} {F F':Nat→Prop} {ρ ρ':Rho} {w w':World} {tm:Array Value}
theorem Ref.mapSt {f:AV→AV} :Ref st ρ (mapSt f st) ρ where
 b:=fun id ver ⟨v,o,hf,hv⟩=>⟨v,mapO f o,by unfold Go.Ev.mapSt;rw[ZnX,hf];rfl,hv⟩
 o:=fun id ver o' _ ho=>by
  obtain ⟨o,h1,rfl⟩:=Zha (Zw.1 ho)
  exact ⟨o,Zw.2 h1,rfl,Zxd o⟩
theorem R.mapv (h0:R Mod F ρ w st tm) (h1:R Mod F' ρ' w' st1 tm) {f:AV→AV} (hf:∀x v,ARep F ρ w st x v→ARep F' ρ' w' st1 (f x) v) (htm:st1.tm=st.tm)
  (hbox:∀i ver T cs tg,find i st1.ob=some (ver,.box T cs tg)→find i st.ob=some (ver,.box T cs tg)∧ρ' i=ρ i∧∀b∈hb (ρ i),w'.heap[b]? =w.heap[b]?):R Mod F' ρ' w' (mapSt f st1) tm:=by
 have hr:Ref st1 ρ' (Go.Ev.mapSt f st1) ρ':=Ref.mapSt
 have hk:=Keeps.refl F' w'
 refine ⟨?_,?_,?_,?_,?_,h1.low,h1.hi,h1.tabs⟩
 ·rw[h1.size];simp[Go.Ev.mapSt]
 ·intro i y hy
  unfold Go.Ev.mapSt at hy
  rw[List.getElem?_map] at hy
  obtain ⟨x,hx,rfl⟩:=Option.map_eq_some_iff.1 hy
  obtain ⟨v,hv,ha⟩:=h0.tms i x (by rw[←htm];exact hx)
  exact ⟨v,hv,(hf x v ha).mono hk hr⟩
 ·intro i ver o' ho'
  obtain ⟨o,ho,rfl⟩:=Zha ho'
  cases o with
  | box T cs tg=>
   obtain ⟨e1,e2,e3⟩:=hbox i ver T cs tg ho
   obtain ⟨htg,b,arr,hv,hh,hl,hc⟩:=h0.obs i ver _ e1
   rw[e2]
   refine ⟨htg,b,arr,hv,by rw[e3 b (by rw[hv];simp[hb])];exact hh,by simpa using hl,fun j c u hj hu=>?_⟩
   rw[List.getElem?_map] at hj
   obtain ⟨x,hx,rfl⟩:=Option.map_eq_some_iff.1 hj
   exact (hf x u (hc j x u hx hu)).mono hk hr
  | _=>exact ORep.mono hk hr (fun _ _=>rfl) (h1.obs i ver _ ho)
 ·intro i ver o' b ho' hfr hb'
  obtain ⟨o,ho,rfl⟩:=Zha ho'
  rw[Zt0] at hfr
  obtain ⟨s1,s2,s3,s4⟩:=h1.sep i ver o b ho hfr hb'
  refine ⟨s1,s2,s3,fun i' v' o2 h2 hfr2 hb2=>?_⟩
  obtain ⟨o3,ho3,rfl⟩:=Zha h2
  rw[Zt0] at hfr2
  exact s4 i' v' o3 ho3 hfr2 hb2
 ·intro i ver E t l ho' b hb'
  obtain ⟨o,ho,e⟩:=Zha ho'
  cases o <;> simp only[mapO] at e <;> first | (cases e;done) | skip
  cases e
  exact h1.data i ver _ _ _ ho b hb'
theorem Zoy:∀(os:List Id) {st:St} {id:Id},id∉os→find id (dropIds os st).ob=find id st.ob
 | [],_,_,_=>rfl
 | x :: r,st,id,h=>by
  have hx:id≠x:=fun e=>h (by simp[e])
  have hr:id∉r:=fun e=>h (by simp[e])
  unfold dropIds
  split
  ·rw[Zoy r hr,Zp,if_neg hx]
  ·exact Zoy r hr
theorem Zrj {id v:Nat} {T:TypeId} {cs:List AV} {tg:Option Nat} :∀(os:List Id) {st:St},find id (dropIds os st).ob=some (v,.box T cs tg)→find id st.ob=some (v,.box T cs tg)
 | [],_,h=>h
 | x :: r,st,h=>by
  unfold dropIds at h
  split at h
  ·have:=Zrj r h
   rw[Zp] at this
   by_cases hx:id=x
   ·rw[if_pos hx] at this;cases this
   ·rw[if_neg hx] at this;exact this
  ·exact Zrj r h
theorem ZlQ {id v:Nat} {T:TypeId} {cs:List AV} {tg:Option Nat} :∀(is:List Id) {st:St},find id (st.lock is).ob=some (v,.box T cs tg)→find id st.ob=some (v,.box T cs tg)
 | [],_,h=>h
 | x :: r,st,h=>by
  unfold St.lock at h
  split at h
  ·have:=ZlQ r h
   rw[Zp] at this
   by_cases hx:id=x
   ·rw[if_pos hx] at this;cases this
   ·rw[if_neg hx] at this;exact this
  ·have:=ZlQ r h
   rw[Zp] at this
   by_cases hx:id=x
   ·rw[if_pos hx] at this;cases this
   ·rw[if_neg hx] at this;exact this
  ·have:=ZlQ r h
   rw[Zp] at this
   by_cases hx:id=x
   ·rw[if_pos hx] at this;cases this
   ·rw[if_neg hx] at this;exact this
  ·exact ZlQ r h
theorem Zx3 (hk:Keeps F w F' w') {id ver n:Nat} {E:TypeId} {d:DTy} {l l2:List (El d.ty)} (hr:Ref st ρ st1 ρ') (ho:st.obj id ver=some (.deep E d l)) (ho1:st1.obj id (ver+1)=some (.deep E d l2)) (hD:Deep d n (gv (ρ id)) l (gv (ρ' id)) l2) (x:AV) (v:Value) (h:ARep F ρ w st x v):
  ARep F' ρ' w' st1 (reA id ver n x) v:=by
 have hb1:bnd st1 id (ver+1):=⟨_,_,Zw.1 ho1,Nat.le_refl _⟩
 cases x with
 | dn i u p=>
  show ARep F' ρ' w' st1 (bif Nat.beq i id&&(Nat.beq u ver&&Nat.ble p.length n) then .dn i (ver+1) p else .dn i u p) v
  cases hc:(Nat.beq i id&&(Nat.beq u ver&&Nat.ble p.length n)) with
  | false=>exact h.mono hk hr
  | true=>
   simp only[cond_true]
   simp only[Bool.and_eq_true] at hc
   obtain rfl:=Nat.eq_of_beq_eq_true hc.1
   obtain rfl:=Nat.eq_of_beq_eq_true hc.2.1
   have hn:=Nat.le_of_ble_eq_true hc.2.2
   cases h with
   | dn _ _ _ _ hbn h1 hp=>
    obtain ⟨hpa,rfl⟩:=hp _ _ _ ho
    obtain ⟨t1,t2,_⟩:=hD p hn hpa
    refine .dn _ _ _ _ hb1 h1 fun E2 d2 l3 h3=>?_
    rw[ho1] at h3
    cases h3
    exact ⟨t1,t2.symm⟩
 | da i u p a b=>
  show ARep F' ρ' w' st1 (bif Nat.beq i id&&(Nat.beq u ver&&Nat.ble p.length n) then .da i (ver+1) p a b else .da i u p a b) v
  cases hc:(Nat.beq i id&&(Nat.beq u ver&&Nat.ble p.length n)) with
  | false=>exact h.mono hk hr
  | true=>
   simp only[cond_true]
   simp only[Bool.and_eq_true] at hc
   obtain rfl:=Nat.eq_of_beq_eq_true hc.1
   obtain rfl:=Nat.eq_of_beq_eq_true hc.2.1
   have hn:=Nat.le_of_ble_eq_true hc.2.2
   cases h with
   | da _ _ _ _ _ _ hbn h1 hp=>
    obtain ⟨hpa,q,hq,hi,ad,m,c,hg,rfl⟩:=hp _ _ _ ho
    obtain ⟨t1,t2,t3⟩:=hD p hn hpa
    obtain ⟨l4,t4,t5⟩:=t3 q hq
    refine .da _ _ _ _ _ _ hb1 h1 fun E2 d2 l3 h3=>?_
    rw[ho1] at h3
    cases h3
    exact ⟨t1,⟨q.1,l4⟩,t4,by show a < l4.length;omega,ad,m,c,by rw[t2];exact hg,rfl⟩
 | _=>exact h.mono hk hr
theorem R.turn (h0:R Mod F ρ w st tm) {F1:Nat→Prop} {stD:St} (h1:R Mod F1 ρ w stD tm) (hE1:Evo Mod F w F1 w) (hr1:Ref st ρ stD ρ) (htm:stD.tm=st.tm) {id ver n:Nat} {E:TypeId} {d:DTy} {l l2:List (El d.ty)} (ho:st.obj id ver=some (.deep E d l)) (hoD:find id stD.ob=some (ver,.deep E d l))
  (hbox:∀i v T cs tg,find i stD.ob=some (v,.box T cs tg)→find i st.ob=some (v,.box T cs tg))
  {g':Value} {B':List Nat} (hos:w'.os=w.os) (htape:w'.tape=w.tape) (hout:w'.output=w.output) (hsz:w.heap.size≤w'.heap.size)
  (hsame:∀k,k < w.heap.size→k∉hb (ρ id)→w'.heap[k]? =w.heap[k]?) (hnd:B'.Nodup) (hrow:DRow F1 w' E d g' l2 B')
  (hblk:∀b∈B',¬F1 b∧Mod b∧b < w'.heap.size∧(∀i v o,i≠id→find i stD.ob=some (v,o)→o.free=true→b∉hb (ρ i))) (hD:Deep d n (gv (ρ id)) l g' l2):
  R Mod F1 (updR ρ id (mkG g' B')) w' (mapSt (reA id ver n) (stD.setOb id (ver+1) (.deep E d l2))) tm∧Evo Mod F w F1 w':=by
 have hver:ver+1=stD.nextVer id:=by unfold St.nextVer;rw[hoD]
 have hset:=R.set' h1 (w':=w') (id:=id) (ver':=ver+1) (o':=.deep E d l2) (h':=mkG g' B') hos htape hout hsz (.inr hver)
  (fun k hk hne=>hsame k hk (hne _ _ hoD rfl)) (fun _ b hbb=>by rw[Zp3] at hbb;exact hblk b hbb) (fun _ _ _ e=>by cases e) ⟨by rw[Zp3];exact hnd,by rw[Zp3,Zv7];exact hrow⟩
 obtain ⟨hR',hE⟩:=hset
 have hE2:=hE1.trans hE
 have hkk:=hE2.keeps h0.low
 have hrr:Ref st ρ (stD.setOb id (ver+1) (.deep E d l2)) (updR ρ id (mkG g' B')):=hr1.trans (Ref.set (.inr hver))
 refine ⟨R.mapv h0 hR' (Zx3 hkk hrr ho (Zw.2 (by rw[Zp,if_pos rfl])) (by simp only[updR,if_true,Zv7];exact hD)) htm fun i v T cs tg hf=>?_,hE2⟩
 rw[Zp] at hf
 by_cases hi:i=id
 ·rw[if_pos hi] at hf;cases hf
 ·rw[if_neg hi] at hf
  refine ⟨hbox i v T cs tg hf,by simp only[updR,if_neg hi],fun b hbb=>?_⟩
  obtain ⟨_,_,s3,s4⟩:=h1.sep i v _ b hf rfl hbb
  exact hsame b s3 fun hm=>hi (s4 _ _ _ hoD rfl hm).symm
end
end Go.Ev
end

section
namespace Go.Ev
variable [Tabs] [Orgs]
open Go
section
variable {P:Program} {Mod:Nat→Prop} {o:Oper} {st:St} {F F':Nat→Prop} {ρ:Rho} {w w':World}
theorem Zwg {T:TypeId} {x v:Operand} (h:o.op=.store T x v) {vs:List AV} (hvs:(st.ev v).cells=some vs) {z:Nat} (hz:szOf P T=some z) (hlen:vs.length=z) (hone:vs.all AV.one=true)
  {id ver i j:Nat} {p:Path} (hx:st.ev x=.da id ver p i j) {E:TypeId} {d:DTy} {l l2:List (El d.ty)} (ho:st.obj id ver=some (.deep E d l))
  {q:DRw} (hq:rowAt d l p=some q) {x1:El q.1.ty} {is ms:List Id} (hput:putE st q.1 (q.2.getD i (dflt q.1.ty)) j vs=some (x1,is,ms)) (hn:nodupB ms=true) (hap:apartB is ms=true) (hi1:id∉is) (hi2:id∉ms)
  (he:rowSet d l p (fun d' l'=>(putE st d' (l'.getD i (dflt d'.ty)) j vs).map fun e=>l'.set i e.1)=some l2):
  OpOK P Mod o st ((mapSt (reA id ver p.length) ((dropIds ms (st.lock is)).setOb id (ver+1) (.deep E d l2))).put o.dst .top):=by
 have hnd:=ZdW hn
 have hapt:=ZkF hap
 intro F ρ w a Q hR hdef
 have hp:=Zt hR x
 rw[hx] at hp
 have hv:=ZgY hvs (Zt hR v)
 generalize ha:a.eval x=u at hp
 generalize hu:a.eval v=y at hv
 obtain ⟨F1,hR1,hE1,hr1,hF1⟩:=ZbO is hR
 have hk1:Keeps F w F1 w:=⟨hE1.more,fun _ _=>rfl⟩
 obtain ⟨r1,r2,r3,r4,r5⟩:=ZjG ms hR1
 have hf:=Zw.1 ho
 have hfL:find id (st.lock is).ob=some (ver,.deep E d l):=by rw[Zdo is hi1];exact hf
 have hfD:find id (dropIds ms (st.lock is)).ob=some (ver,.deep E d l):=by rw[Zoy ms hi2];exact hfL
 have hyl:y.cells.size=z:=by rw[←hlen,hv.1,Array.length_toList]
 have hones:∀u∈y.cells.toList,u.oneCell'=true:=by
  intro u hu'
  obtain ⟨m,hm⟩:=List.getElem?_of_mem hu'
  have hilt:m < vs.length:=by rw[hv.1];exact (List.getElem?_eq_some_iff.1 hm).1
  exact Zop (List.all_eq_true.1 hone _ (List.getElem_mem hilt)) (hv.2 m _ u (by simp[hilt]) hm)
 cases hp with
 | da _ _ _ _ _ _ hbn h1 hpp=>
  obtain ⟨hpa,q',hq',hi,ad,n,c,hg,rfl⟩:=hpp E d l ho
  rw[hq] at hq'
  cases hq'
  obtain ⟨hndB,hrow⟩:=hR.obs id ver _ hf
  obtain ⟨q2,Eq,Bq,a1,a2,a3⟩:=Zek hrow hpa
  rw[hq] at a1
  cases a1
  obtain ⟨cells,Bs,hown,hbl,hB,hel⟩:=_root_.id a2
  rcases hown.2 with ⟨h3,_⟩ | ⟨g,off,cap,cur,h3,hh,hnc,hcm,hsz,htk⟩
  ·rw[hg] at h3;cases h3
  rw[hg] at h3
  cases h3
  have hgB:g∈hb (ρ id):=a3 g (by rw[hB,hg];simp[hb1])
  obtain ⟨cs0,Bi0,k10,hos0,_⟩:=hel i _ (ZbP (z:=dflt q.1.ty) hi)
  have hone_ms:∀m∈ms,∃ver o,find m st.ob=some (ver,o)∧o.free=true:=Zyg hput
  have hblkN:(blocks ρ ms).Nodup:=Zeu hR hnd hone_ms
  have ho1:∀m∈ms,∃ver o,find m (st.lock is).ob=some (ver,o)∧o.free=true:=fun m hm=>by rw[Zdo is (hapt m hm)];exact hone_ms m hm
  have hblk:∀b∈blocks ρ ms,¬F1 b∧Mod b∧b < w.heap.size∧b∉hb (ρ id)∧∀i v o,find i (dropIds ms (st.lock is)).ob=some (v,o)→o.free=true→b∉hb (ρ i):=fun b hb'=>by
   obtain ⟨m,hm,hbi⟩:=Zfb.1 hb'
   obtain ⟨ver,ob,hf',hfr⟩:=ho1 m hm
   obtain ⟨s1,s2,s3,s4⟩:=hR1.sep _ _ _ _ hf' hfr hbi
   refine ⟨s1,s2,s3,fun hx=>hi2 ?_,fun i v o hfi hfri hbi'=>?_⟩
   ·rw[s4 _ _ _ hfL rfl hx];exact hm
   ·obtain ⟨i',v',o',k1,k2,k3,k4⟩:=r4 b ⟨i,v,o,hfi,hfri,hbi'⟩
    exact k4 ((s4 _ _ _ k1 k2 k3)▸hm)
  have hidb:∀b∈hb (ρ id),¬F1 b∧Mod b∧b < w.heap.size∧∀i v o,i≠id→find i (dropIds ms (st.lock is)).ob=some (v,o)→o.free=true→b∉hb (ρ i):=fun b hb'=>by
   obtain ⟨s1,s2,s3,s4⟩:=r1.sep _ _ _ _ hfD rfl hb'
   exact ⟨s1,s2,s3,fun i v o hi hf hfr hbi=>hi (s4 _ _ _ hf hfr hbi)⟩
  have hcap:i*q.1.ty.cells+q.1.ty.cells≤c*q.1.ty.cells:=by
   rw[←Nat.succ_mul];exact Nat.mul_le_mul_right _ (by omega)
  have hjz:j+y.cells.toList.length≤q.1.ty.cells:=ZxT hput hv.1
  have hst:=run_storeCells_at (P:=P) g (off+(i*q.1.ty.cells+j)) Eq y.cells.toList 0 cur w hh (by simp at hjz ⊢;omega) hones
  simp only[Nat.add_zero] at hst
  obtain ⟨w',hw'⟩:∃w',w'=w.setRow g (cur.toList.take (off+(i*q.1.ty.cells+j))++y.cells.toList++cur.toList.drop (off+(i*q.1.ty.cells+j)+y.cells.toList.length)).toArray:=⟨_,rfl⟩
  have hrun:(execOp a.eval o).run P w=.ok .skip w':=by
   rw[Z7] at ha
   simp[execOp,h,ha,hu,Instr.storeAt,Instr.sureAddr,storeVar,ZP hz,hyl] at hst ⊢
   simp[hst,hw',hyl]
  have hsame:∀b,b≠g→w'.heap[b]? =w.heap[b]?:=fun b hb=>by rw[hw'];exact setRow_other _ _ _ _ hb
  have hgF:¬F g:=(hR.sep id ver _ g hf rfl hgB).1
  have hk2:Keeps F w F1 w':=⟨hE1.more,fun k hF=>hsame k fun e=>by subst e;exact hgF hF⟩
  have hk3:Keeps F1 w F1 w':=⟨fun _ h=>h,fun k hF=>hsame k fun e=>by subst e;exact (hidb k hgB).1 hF⟩
  have key:Turns F F1 w w' (fun b=>b=g) (fun b=>b∈blocks ρ ms) q (gAt (gv (ρ id)) p) 0 (fun d' l'=>(putE st d' (l'.getD i (dflt d'.ty)) j vs).map fun e=>l'.set i e.1):=by
   intro E0 B0 hrow0 hnd0 hM0 hs0
   obtain ⟨cells0,Bs0,hown0,hbl0,hB0,hel0⟩:=hrow0
   rcases hown0.2 with ⟨h3,_⟩ | ⟨g',off',cap',cur',h3,hh',hnc',hcm',hsz',htk'⟩
   ·rw[hg] at h3;cases h3
   rw[hg] at h3
   cases h3
   rw[hh] at hh'
   cases hh'
   have hgB0:g∈hb1 (gv (gAt (gv (ρ id)) p)):=by rw[hg];simp[hb1]
   subst hB0
   obtain ⟨m1,m2,m3⟩:=List.nodup_append.1 hnd0
   have hflat:∀b∈Bs0.flatten,b≠g:=fun b hb e=>by subst e;exact m3 b hgB0 b hb rfl
   obtain ⟨cs,Bi,k1,hos,hat⟩:=hel0 i _ (ZbP (z:=dflt q.1.ty) hi)
   have hsub:∀b∈Bi,b∈Bs0.flatten:=fun b hb=>List.mem_flatten.2 ⟨Bi,List.mem_of_getElem? k1,hb⟩
   have hni:Bi.Nodup:=(List.pairwise_flatten.1 m2).1 Bi (List.mem_of_getElem? k1)
   obtain ⟨t1,t2,gs,Be,t3,t4,t5,t6⟩:=Zxw hR hk1 hr1 hos hni hblkN (fun b hb=>hM0 b (by simp[hsub b hb])) hput hv hF1
   have hcl:=hos.length
   obtain ⟨ge,hge⟩:∃ge,ge=mkT (gv (gk (gAt (gv (ρ id)) p) i)) ((List.range q.1.ty.cells).map fun m=>if j≤m∧m < j+y.cells.toList.length then gs.getD (m - j) undef else gk (gk (gAt (gv (ρ id)) p) i) m):=⟨_,rfl⟩
   have hnew:=t6 ge fun m hm=>by
    rw[hge,Nat.zero_add,Zqw,List.getD_eq_getElem?_getD,List.getElem?_map,List.getElem?_range hm]
    rfl
   have hBeg:∀b∈Be,b≠g:=fun b hb e=>by
    rcases t5 b hb with h | h
    ·exact hflat b (hsub b h) e
    ·subst e;exact (hblk b h).2.2.2.1 hgB
   have hnew':=hnew.keep hk3 fun b hb=>hsame b (hBeg b hb)
   have hvl:=hnew'.length
   obtain ⟨f1,f2⟩:=Zk4 m2 k1 t4 (fun b hb=>hM0 b (by simp only[List.mem_append];exact .inr hb)) t5
   have hcs:∀m u,cs[m]? =some u→cur.toList[off+i*q.1.ty.cells+m]? =some u:=fun m u hm=>by
    have hmlt:m < q.1.ty.cells:=by have:=(List.getElem?_eq_some_iff.1 hm).1;omega
    have hle:i*q.1.ty.cells+q.1.ty.cells≤q.2.length*q.1.ty.cells:=by rw[←Nat.succ_mul];exact Nat.mul_le_mul_right _ hi
    have:=hat m u hm
    rw[←htk',List.getElem?_take,if_pos (by omega),List.getElem?_drop] at this
    rw[show off+i*q.1.ty.cells+m=off+(i*q.1.ty.cells+m) by omega]
    exact this
   refine ⟨q.2.set i x1,turnE (gAt (gv (ρ id)) p) i ge q.2.length,hb1 (gv (gAt (gv (ρ id)) p))++(Bs0.set i Be).flatten,by simp only[hput,Option.map_some],?_,ZgN,?_,?_,fun b hb=>by subst hb;exact List.mem_append_left _ hgB0,Deep.here ZgN (by simp)⟩
   ·refine elemPut hk2 hown0 hbl0 hel0 hi hnew' hg hh hnc' hcm' hsz' htk' ?_ fun j' Bj hj' hBj b hb=>hsame b (hflat b (List.mem_flatten.2 ⟨Bj,List.mem_of_getElem? hBj,hb⟩))
    rw[hw',setRow_heap w g cur _ Eq (0,0) hh]
    rw[←ZsK (a:=off+i*q.1.ty.cells) (by omega) (by simp;omega) hcs,show off+i*q.1.ty.cells+j=off+(i*q.1.ty.cells+j) by omega]
   ·exact List.nodup_append.2 ⟨m1,f1,fun a ha b hb e=>by
     subst e
     rcases f2 a hb with h | h
     ·exact m3 a ha a h rfl
     ·exact hM0 a (by simp[ha]) h⟩
   ·intro b hb
    rcases List.mem_append.1 hb with hb | hb
    ·exact .inl (by simp[hb])
    ·exact (f2 b hb).imp (fun h=>by simp only[List.mem_append];exact .inr h) _root_.id
  obtain ⟨l3,g',B',e1,e2,e3,e4,e5,e6,e7⟩:=rowTurn hk2 hpa hq key E _ hrow hndB (fun b hb hm=>(hblk b hm).2.2.2.1 hb) fun b _ hb=>hsame b hb
  have e1':rowSet d l p (fun d' l'=>(putE st d' (l'.getD i (dflt d'.ty)) j vs).map fun e=>l'.set i e.1)=some l3:=e1
  rw[he] at e1'
  cases e1'
  unfold Oper.wp
  rw[hrun]
  have hsz':w.heap.size≤w'.heap.size:=by rw[hw'];simp
  obtain ⟨hR',hE'⟩:=R.turn hR r1 hE1 (hr1.trans r2) (by rw[r3,ZoP]) ho hfD (fun i v T cs tg hf=>ZlQ is (Zrj ms hf)) (by rw[hw'];rfl) (by rw[hw'];rfl) (by rw[hw'];rfl) hsz'
   (fun k _ hk=>hsame k fun e=>by subst e;exact hk hgB) e4 e2 (fun b hb=>by
    rcases e5 b hb with h | h
    ·obtain ⟨s1,s2,s3,s4⟩:=hidb b h
     exact ⟨s1,s2,Nat.lt_of_lt_of_le s3 hsz',s4⟩
    ·obtain ⟨s1,s2,s3,_,s4⟩:=hblk b h
     exact ⟨s1,s2,Nat.lt_of_lt_of_le s3 hsz',fun i v o _=>s4 i v o⟩) e7
  exact ⟨by rw[ZX];exact hdef,F1,_,R.put (a:=a) hR' (.top _) o.dst,hE'⟩
end
end Go.Ev
end

section
namespace Go.Ev
variable [Tabs] [Orgs]
open Go
section
variable {P:Program} {Mod:Nat→Prop} {o:Oper} {st:St}
theorem notIn {id:Id} {is:List Id} (h:(!(is.any (Nat.beq id)))=true):id∉is:=fun hm=>by
 have:is.any (Nat.beq id)=true:=List.any_eq_true.2 ⟨id,hm,Nat.beq_refl id⟩
 rw[this] at h
 cases h
theorem ZwA {own:TypeId→Bool} {cl:Cl} (hcl:Spec P cl):Sat (opY P own cl o st) (OpOK P Mod o st):=by
 unfold opY
 split
 ·rename_i T x v h
  split
  ·rename_i vs z hvs hz
   refine Sat.cond (fun _=>?_) fun _=>Zus hcl
   refine Sat.cond (fun hb=>?_) fun _=>Sat.fail
   rw[Bool.and_eq_true] at hb
   have hlen:=Nat.eq_of_beq_eq_true hb.1
   split
   ·rename_i id ver p i j hx
    unfold storeR
    split
    ·rename_i E d l ho
     split
     ·rename_i q hq
      split
      ·rename_i x1 is ms hput
       refine Sat.cond (fun hc=>?_) fun _=>Sat.fail
       simp only[Bool.and_eq_true] at hc
       split
       ·rename_i l2 he
        exact Sat.pure (Zwg h hvs hz hlen hb.2 hx ho hq hput hc.1.1 hc.1.2 (notIn hc.2.1) (notIn hc.2.2) he)
       ·exact Sat.fail
      ·exact Sat.fail
     ·exact Sat.fail
    ·exact Sat.fail
   ·exact Sat.fail
  ·exact Zus hcl
 ·exact Zus hcl
end
end Go.Ev
end

section
namespace Go.Ev
variable [Tabs] [Orgs]
open Go
section
variable {P:Program} {Mod:Nat→Prop} {o:Oper} {st:St} {F F':Nat→Prop} {ρ:Rho} {w w':World}
theorem Zfc:∀ {d:DTy} {g:Value} {k0:Nat} {x:El d.ty} {vs:List Value} {B:List Nat},ERep F w d g k0 x vs B→B.Nodup→∀ {k:Nat} {q:DRw},roAt d x k=some q→
  ∃E Bq,DRow F w E q.1 (gk g (k0+k)) q.2 Bq∧Bq.Nodup∧∀b∈Bq,b∈B
 |.leaf t,_,_,_,_,_,_,_,_,_,h=>by cases h
 |.ro d,g,k0,l,vs,B,h,hn,k,q,hq=>by
  simp only[roAt] at hq
  cases hk:Nat.beq k 0 with
  | false=>rw[hk] at hq;cases hq
  | true=>
   rw[hk] at hq
   cases hq
   obtain rfl:=Nat.eq_of_beq_eq_true hk
   obtain ⟨rfl,E,hr⟩:=h
   exact ⟨E,B,hr,hn,fun _ h=>h⟩
 |.pr a b,g,k0,x,vs,B,h,hn,k,q,hq=>by
  obtain ⟨v1,v2,B1,B2,rfl,rfl,h1,h2⟩:=h
  obtain ⟨n1,n2,n3⟩:=List.nodup_append.1 hn
  simp only[roAt] at hq
  cases hk:Nat.blt k a.ty.cells with
  | true=>
   rw[hk] at hq
   obtain ⟨E,Bq,h4,h6,h5⟩:=Zfc h1 n1 hq
   exact ⟨E,Bq,h4,h6,fun b hb=>by simp[h5 b hb]⟩
  | false=>
   rw[hk] at hq
   have hge:¬k < a.ty.cells:=fun h=>by rw[←Nat.blt_eq] at h;rw[h] at hk;cases hk
   obtain ⟨E,Bq,h4,h6,h5⟩:=Zfc h2 n2 hq
   rw[show k0+a.ty.cells+(k - a.ty.cells)=k0+k by omega] at h4
   exact ⟨E,Bq,h4,h6,fun b hb=>by simp[h5 b hb]⟩
theorem roPut (hk:Keeps F w F' w') {D M:Nat→Prop} {f:(d:DTy)→List (El d.ty)→Option (List (El d.ty))} {hv:Value} :∀ {d:DTy} {g:Value} {k0:Nat} {x:El d.ty} {vs:List Value} {B:List Nat},ERep F w d g k0 x vs B→B.Nodup→(∀b∈B,¬M b)→(∀b∈B,¬D b→w'.heap[b]? =w.heap[b]?)→
  ∀ {k:Nat} {q:DRw},roAt d x k=some q→
  (∀E B0,DRow F w E q.1 (gk g (k0+k)) q.2 B0→B0.Nodup→(∀b∈B0,b∈B)→∃E1 l1 g1 B1,f q.1 q.2=some l1∧DRow F' w' E1 q.1 g1 l1 B1∧gv g1=hv∧B1.Nodup∧(∀b∈B1,b∈B0∨M b)∧(∀b∈B,D b→b∈B0))→
  ∃x' g1 B',roSet d x k f=some x'∧(∃l1,f q.1 q.2=some l1)∧(∀g',(∀m,m < d.ty.cells→gk g' (k0+m)=if m=k then g1 else gk g (k0+m))→ERep F' w' d g' k0 x' (vs.take k++([hv]++vs.drop (k+1))) B')∧B'.Nodup∧(∀b∈B',b∈B∨M b)
 |.leaf _,_,_,_,_,_,_,_,_,_,_,_,h,_=>by cases h
 |.ro d,g,k0,l,vs,B,h,hn,hM,hs,k,q,hq,hf=>by
  simp only[roAt] at hq
  cases hb:Nat.beq k 0 with
  | false=>rw[hb] at hq;cases hq
  | true=>
   rw[hb] at hq
   cases hq
   obtain rfl:=Nat.eq_of_beq_eq_true hb
   obtain ⟨rfl,E,hr⟩:=h
   obtain ⟨E1,l1,g1,B1,h1,h2,h3,h4,h5,h6⟩:=hf E B hr hn fun _ h=>h
   refine ⟨l1,g1,B1,h1,⟨l1,h1⟩,fun g' hg'=>?_,h4,h5⟩
   have e:=hg' 0 (by simp[Ty.cells])
   rw[Nat.add_zero,if_pos rfl] at e
   exact ⟨by rw[e,h3];rfl,E1,by rw[e];exact h2⟩
 |.pr a b,g,k0,x,vs,B,h,hn,hM,hs,k,q,hq,hf=>by
  obtain ⟨v1,v2,B1,B2,rfl,rfl,h1,h2⟩:=h
  obtain ⟨n1,n2,n3⟩:=List.nodup_append.1 hn
  have l1:=h1.length
  have l2:=h2.length
  simp only[roAt] at hq
  simp only[roSet]
  cases hb:Nat.blt k a.ty.cells with
  | true=>
   rw[hb] at hq
   have hlt:=ZkG hq
   have hD:∀b∈B1++B2,D b→b∈B1:=fun b hb hD=>by
    obtain ⟨E0,Bq,a1,a2,a3⟩:=Zfc h1 n1 hq
    obtain ⟨_,_,_,_,_,_,_,_,_,a4⟩:=hf E0 Bq a1 a2 fun b hb=>by simp[a3 b hb]
    exact a3 b (a4 b hb hD)
   obtain ⟨x',g1,B',e1,e2,e5,e6,e7⟩:=roPut hk h1 n1 (fun b hb=>hM b (by simp[hb])) (fun b hb=>hs b (by simp[hb])) hq fun E B0 c1 c2 c3=>by
    obtain ⟨E1,l1,g1,B1',d1,d2,d3,d4,d5,d6⟩:=hf E B0 c1 c2 fun b hb=>by simp[c3 b hb]
    exact ⟨E1,l1,g1,B1',d1,d2,d3,d4,d5,fun b hb=>d6 b (by simp[hb])⟩
   refine ⟨(x',x.2),g1,B'++B2,by simp only[cond_true,e1,Option.map_some],e2,fun g' hg'=>?_,?_,?_⟩
   ·simp only[Ty.cells] at hg'
    refine ⟨_,v2,B',B2,?_,rfl,e5 g' fun m hm=>hg' m (by omega),?_⟩
    ·rw[List.take_append_of_le_length (by omega),List.drop_append_of_le_length (by omega)]
     simp
    ·have h2':ERep F' w' b g (k0+a.ty.cells) x.2 v2 B2:=h2.keep hk fun b hb=>hs b (by simp[hb]) fun h=>n3 b (hD b (by simp[hb]) h) b hb rfl
     exact h2'.gcongr fun m hm=>by rw[Nat.add_assoc,hg' (a.ty.cells+m) (by omega),if_neg (by omega)]
   ·exact List.nodup_append.2 ⟨e6,n2,fun p hp q hq e=>by
     subst e
     rcases e7 p hp with h | h
     ·exact n3 p h p hq rfl
     ·exact hM p (by simp[hq]) h⟩
   ·intro b hb
    rcases List.mem_append.1 hb with hb | hb
    ·exact (e7 b hb).imp (fun h=>by simp[h]) id
    ·exact .inl (by simp[hb])
  | false=>
   rw[hb] at hq
   have hge:¬k < a.ty.cells:=fun h=>by rw[←Nat.blt_eq] at h;rw[h] at hb;cases hb
   have hlt:=ZkG hq
   have ek:k0+a.ty.cells+(k - a.ty.cells)=k0+k:=by omega
   have hD:∀b∈B1++B2,D b→b∈B2:=fun b hb hD=>by
    obtain ⟨E0,Bq,a1,a2,a3⟩:=Zfc h2 n2 hq
    obtain ⟨_,_,_,_,_,_,_,_,_,a4⟩:=hf E0 Bq (by rw[←ek];exact a1) a2 fun b hb=>by simp[a3 b hb]
    exact a3 b (a4 b hb hD)
   obtain ⟨x',g1,B',e1,e2,e5,e6,e7⟩:=roPut hk h2 n2 (fun b hb=>hM b (by simp[hb])) (fun b hb=>hs b (by simp[hb])) hq fun E B0 c1 c2 c3=>by
    rw[ek] at c1
    obtain ⟨E1,l1,g1,B1',d1,d2,d3,d4,d5,d6⟩:=hf E B0 c1 c2 fun b hb=>by simp[c3 b hb]
    exact ⟨E1,l1,g1,B1',d1,d2,d3,d4,d5,fun b hb=>d6 b (by simp[hb])⟩
   refine ⟨(x.1,x'),g1,B1++B',by simp only[cond_false,e1,Option.map_some],e2,fun g' hg'=>?_,?_,?_⟩
   ·simp only[Ty.cells] at hg'
    refine ⟨v1,_,B1,B',?_,rfl,?_,e5 g' fun m hm=>?_⟩
    ·rw[List.take_append,List.drop_append,List.take_of_length_le (by omega),List.drop_of_length_le (by omega),l1]
     rw[show k+1 - a.ty.cells=k - a.ty.cells+1 by omega]
     simp
    ·have h1':ERep F' w' a g k0 x.1 v1 B1:=h1.keep hk fun b hb=>hs b (by simp[hb]) fun h=>n3 b hb b (hD b (by simp[hb]) h) rfl
     exact h1'.gcongr fun m hm=>by rw[hg' m (by omega),if_neg (by omega)]
    ·rw[Nat.add_assoc,hg' (a.ty.cells+m) (by omega)]
     by_cases h:m=k - a.ty.cells
     ·rw[if_pos (by omega),if_pos h]
     ·rw[if_neg (by omega),if_neg h]
   ·exact List.nodup_append.2 ⟨n1,e6,fun p hp q hq e=>by
     subst e
     rcases e7 p hq with h | h
     ·exact n3 p hp p h rfl
     ·exact hM p (by simp[hp]) h⟩
   ·intro b hb
    rcases List.mem_append.1 hb with hb | hb
    ·exact .inl (by simp[hb])
    ·exact (e7 b hb).imp (fun h=>by simp[h]) id
end
end Go.Ev
end

section
namespace Go.Ev
variable [Tabs] [Orgs]
open Go
section
variable {P:Program} {Mod:Nat→Prop} {st:St} {F F':Nat→Prop} {ρ:Rho} {w w':World}
theorem Zh5 {a:Act} {d:Nat} {v:Value} {x:Operand} (h:noTmp d x=true):(a.put (some d) v).eval x=a.eval x:=by
 cases x with
 | tmp t=>
  have hne:t≠d:=fun e=>by subst e;simp[noTmp] at h
  simp only[Act.eval,Act.put]
  rw[Array.getD_eq_getD_getElem?,Array.getD_eq_getD_getElem?,Array.getElem?_setIfInBounds_ne (Ne.symm hne)]
 | _=>rfl
theorem ZkU {a:Act} {d:Nat} {v:Value} (h:d < a.tmps.size):(a.put (some d) v).eval (.tmp d)=v:=by
 simp only[Act.eval,Act.put]
 rw[Array.getD_eq_getD_getElem?,Array.getElem?_setIfInBounds_self_of_lt h]
 rfl
theorem ZrC {a:Act} {d:Nat} {v:Value} :(a.put (some d) v).tmps.size=a.tmps.size:=by simp[Act.put]
theorem put_comm {a:Act} {d e:Nat} {u v:Value} (h:d≠e):(a.put (some d) u).put (some e) v=(a.put (some e) v).put (some d) u:=by
 simp only[Act.put]
 rw[Array.setIfInBounds_comm _ _ h]
theorem ZlU {f:(d:DTy)→List (El d.ty)→Option (List (El d.ty))} :∀ {p:Path} {d:DTy} {l:List (El d.ty)} {e:Nat×Nat},rowSet d l (p++[e]) f=rowSet d l p (fun d' l'=>rowSet d' l' [e] f)
 | [],d,l,e=>rfl
 | (i,k) :: r,d,l,e=>by
  show ((roSet d (l.getD i (dflt d.ty)) k fun d' l'=>rowSet d' l' (r++[e]) f).map fun y=>l.set i y)=((roSet d (l.getD i (dflt d.ty)) k fun d' l'=>rowSet d' l' r (fun d' l'=>rowSet d' l' [e] f)).map fun y=>l.set i y)
  congr 2
  funext d' l'
  exact ZlU
theorem ZmZ:∀ {p:Path} {d:DTy} {l:List (El d.ty)} {q:DRw} {r:Path},rowAt d l p=some q→rowAt d l (p++r)=rowAt q.1 q.2 r
 | [],d,l,q,r,h=>by cases h;rfl
 | (i,k) :: s,d,l,q,r,h=>by
  simp only[rowAt,List.cons_append] at h ⊢
  cases hq:roAt d (l.getD i (dflt d.ty)) k with
  | none=>rw[hq] at h;cases h
  | some q0=>
   rw[hq] at h
   exact ZmZ h
theorem Zqb:∀ {p:Path} {E:TypeId} {d:DTy} {g:Value} {l:List (El d.ty)} {B:List Nat} {q:DRw},DRow F w E d g l B→B.Nodup→okPath d l p→rowAt d l p=some q→∃Eq Bq,DRow F w Eq q.1 (gAt g p) q.2 Bq∧Bq.Nodup∧∀b∈Bq,b∈B
 | [],E,d,g,l,B,q,h,hn,_,hq=>by cases hq;exact ⟨E,B,h,hn,fun _ h=>h⟩
 | (i,k) :: r,E,d,g,l,B,q,h,hn,hp,hq=>by
  obtain ⟨hi,q0,hq0,hr⟩:=hp
  obtain ⟨cells,Bs,h1,h2,h3,h4⟩:=h
  obtain ⟨cs,Bi,k1,k2,k3⟩:=h4 i _ (ZbP (z:=dflt d.ty) hi)
  subst h3
  have hni:Bi.Nodup:=(List.pairwise_flatten.1 (List.nodup_append.1 hn).2.1).1 Bi (List.mem_of_getElem? k1)
  obtain ⟨E2,Bq,h5,h7,h6⟩:=Zfc k2 hni hq0
  rw[Nat.zero_add] at h5
  simp only[rowAt,hq0] at hq
  obtain ⟨Eq,Bq2,a2,a4,a3⟩:=Zqb h5 h7 hr hq
  exact ⟨Eq,Bq2,a2,a4,fun b hb=>List.mem_append_right _ (List.mem_flatten.2 ⟨Bi,List.mem_of_getElem? k1,h6 b (a3 b hb)⟩)⟩
def addTo (t:Ty) (ys:List (El t)):(d:DTy)→List (El d.ty)→Option (List (El d.ty)):=fun d' l'=>match d',l' with
 |.leaf t2,l'=>if h2:t=t2 then some (show List (El t2) from (show List (El t2) from l')++(h2▸ys)) else none
 | _,_=>none
theorem Zx0 {o1 o2 o3 o4:Oper} {c:Call} {T T2 S ET e2:TypeId} {X I x:_} {d1 d2 d3 f off zz bytes id ver:Nat} {p:Path} {k:IntKind} {n:Int} {E:TypeId} {d:DTy} {l l2:List (El d.ty)} {q:DRw} {t:Ty} {li ys:List (El t)} {is:List Id}
  (h1:o1.op=.call c) (hc:c.callee=.builtin .append) (hargs:asArg st c.args.toList=[.dn id ver (p++[(n.toNat,0+off)]),x]) (hat:c.argTypes= #[T,T]) (hd1:o1.dst=some d1)
  (h2:o2.op=.indexAddr T2 X I) (hd2:o2.dst=some d2) (h3:o3.op=.fieldAddr S (.tmp d2) f) (hd3:o3.dst=some d3) (h4:o4.op=.store T (.tmp d3) (.tmp d1))
  (n12:d1≠d2) (n13:d1≠d3) (n23:d2≠d3) (nX:noTmp d1 X=true) (nI:noTmp d1 I=true) (b1:d1 < st.tm.length) (b2:d2 < st.tm.length) (b3:d3 < st.tm.length)
  (hX:st.ev X=.dn id ver p) (hI:st.ev I=.d (.int k) n) (ho:st.obj id ver=some (.deep E d l)) (hel:Go.Ev.elemOf P T=some (ET,t,bytes)) (hz4:szOf P T=some 1) (hu2:P.underlying T2=some (.slice e2)) (hof:fieldOff P S f=some (off,zz))
  (hq:rowAt d l p=some q) (hz2:szOf P e2=some q.1.ty.cells) (hn0:0≤n) (hn1:n < (q.2.length:Nat)) (hli:rowAt d l (p++[(n.toNat,0+off)])=some ⟨.leaf t,li⟩) (hex:extra st t x=some (ys,is))
  (hbnd:Nat.ble ((li.length+ys.length)*bytes) limit=true) (he:rowSet d l (p++[(n.toNat,0+off)]) (addTo t ys)=some l2)
  {a:Act} (hR:R Mod F ρ w st a.tmps) (hdef:a.defers=[]) {next:Act→World→Prop} {Q:Exit→Act→World→Prop}
  (hnext:∀a' w',OpPost Mod F w (((mapSt (reA id ver p.length) (((st.put (some d2) (.da id ver p n.toNat 0)).put (some d3) (.da id ver p n.toNat (0+off))).setOb id (ver+1) (.deep E d l2))).put (some d1) .top).put o4.dst .top) a' w'→next a' w'):
  o1.wp P a w (fun a1 w1=>o2.wp P a1 w1 (fun a2 w2=>o3.wp P a2 w2 (fun a3 w3=>o4.wp P a3 w3 next Q) Q) Q) Q:=by
 rw[Nat.zero_add] at hargs hli he hnext
 obtain ⟨hu,hty,i,z,hi,hsz,hpos,hz,hzs,hby,hbp⟩:=ZbZ hel
 have hargr:=Zdt hR c.args.toList
 rw[hargs] at hargr
 obtain ⟨vs,hvs⟩:∃vs,c.args.toList.map a.eval=vs:=⟨_,rfl⟩
 rw[hvs] at hargr
 match vs,hargr.1 with
 | [vh,u],_=>
  have hvh:ARep F ρ w st (.dn id ver (p++[(n.toNat,off)])) vh:=hargr.2 0 _ _ rfl rfl
  have hur:ARep F ρ w st x u:=hargr.2 1 _ _ rfl rfl
  have hf:=Zw.1 ho
  obtain ⟨hndB,hrow⟩:=hR.obs id ver _ hf
  have hXr:=Zt hR X
  rw[hX] at hXr
  have hIr:=Zt hR I
  rw[hI] at hIr
  have hiv:=Zaq hIr
  generalize hXv:a.eval X=vX at hXr
  cases hvh with
  | dn _ _ _ _ hbn hone1 hpp=>
  obtain ⟨hpa0,rfl⟩:=hpp E d l ho
  cases hXr with
  | dn _ _ _ _ _ _ hppX=>
  obtain ⟨hpa,rfl⟩:=hppX E d l ho
  obtain ⟨Eq,Bq,a2,a4,a3⟩:=Zqb hrow hndB hpa hq
  obtain ⟨cells,Bs,hown,hbl,hB,hel2⟩:=_root_.id a2
  have hqx:roAt q.1 (q.2.getD n.toNat (dflt q.1.ty)) off=some ⟨.leaf t,li⟩:=by
   have:=ZmZ (r:=[(n.toNat,off)]) hq
   rw[hli] at this
   simp only[rowAt] at this
   cases hc:roAt q.1 (q.2.getD n.toNat (dflt q.1.ty)) off with
   | none=>rw[hc] at this;cases this
   | some qx=>rw[hc] at this;exact this.symm
  have hlt0:n.toNat < q.2.length:=by omega
  obtain ⟨cse,Bie,ke1,ke2,ke3⟩:=hel2 n.toNat _ (ZbP (z:=dflt q.1.ty) hlt0)
  have hndQ:=List.nodup_append.1 (by rw[hB] at a4;exact a4:(hb1 (gv (gAt (gv (ρ id)) p))++Bs.flatten).Nodup)
  have hniE:Bie.Nodup:=(List.pairwise_flatten.1 hndQ.2.1).1 Bie (List.mem_of_getElem? ke1)
  obtain ⟨Eq0,Bq0,c2,c4,c3⟩:=Zfc ke2 hniE hqx
  have hgA:gAt (gv (ρ id)) (p++[(n.toNat,off)])=gk (gk (gAt (gv (ρ id)) p) n.toNat) (0+off):=by rw[Zms,Nat.zero_add];rfl
  rw[←hgA] at c2
  obtain ⟨cellsI,BsI,hownI,_,hBI,helI⟩:=_root_.id c2
  have hlt:n.toNat < q.2.length:=by omega
  rcases hown.2 with ⟨_,h0⟩ | ⟨g,offg,cap,cur,hg,hh,hnc,hcm,hszg,htk⟩
  ·omega
  have hgB:g∈hb (ρ id):=a3 g (by rw[hB,hg];simp[hb1])
  obtain ⟨news,n1,n4,hruns⟩:=Zny (P:=P) (Mod:=Mod) (o:=o1) hu hex F ρ w a hR u hur i z hi hz hsz hpos hzs
  have hbytes:=ZrD hbnd
  have h63:li.length+ys.length≤maxLen:=ZnS hbp hbytes
  obtain ⟨v',w1,E2,hrun,hown',hgb,hwhere⟩:=Zu8 (P:=P) (ty:=o1.type) hsz hzs hownI n1 hruns h63 (by rw[hby];exact hbytes)
  have hrun1:(execOp a.eval o1).run P w=.ok (.value v') w1:=by
   have hargs':c.args.map a.eval= #[gv (gAt (gv (ρ id)) (p++[(n.toNat,off)])),u]:=by
    apply Array.ext'
    rw[Array.toList_map,hvs]
   simp[execOp,h1,resolve,hc,invoke,builtin,hat,hargs']
   rw[hrun]
   rfl
  have hv1:v'.cells= #[v']∧v'.oneCell'=true∧gv v'=v'∧hb1 v'=hb v':=by
   refine ⟨?_,?_,?_,Zca hown'⟩ <;> rcases hown'.2 with ⟨e,_⟩ | ⟨_,_,_,_,e,_⟩ <;> rw[e] <;> rfl
  obtain ⟨hcl,hon,hgv,hhb⟩:=hv1
  have hsize:=hR.size
  have hXv1:(a.put (some d1) v').eval X=.slice (some ⟨g,offg,none⟩) q.2.length cap:=by rw[Zh5 nX,hXv,hg]
  have hIv1:(a.put (some d1) v').eval I=.int k n:=by rw[Zh5 nI,hiv]
  have hrun2:(execOp (a.put (some d1) v').eval o2).run P w1=.ok (.value (.pointer (some ((⟨g,offg,none⟩:Addr).add (n.toNat*q.1.ty.cells))))) w1:=by
   simp[execOp,h2,hXv1,hIv1,Instr.indexAt,asIntOf,run_underlying hu2,hn0,hn1,ZP hz2]
  obtain ⟨u2,hu2'⟩:∃u2:Value,u2=.pointer (some ((⟨g,offg,none⟩:Addr).add (n.toNat*q.1.ty.cells))):=⟨_,rfl⟩
  rw[←hu2'] at hrun2
  have he2:((a.put (some d1) v').put (some d2) u2).eval (.tmp d2)=.pointer (some ((⟨g,offg,none⟩:Addr).add (n.toNat*q.1.ty.cells))):=by rw[ZkU (by rw[ZrC];omega),hu2']
  have hrun3:(execOp ((a.put (some d1) v').put (some d2) u2).eval o3).run P w1=.ok (.value (.pointer (some (((⟨g,offg,none⟩:Addr).add (n.toNat*q.1.ty.cells)).add off)))) w1:=by
   simp[execOp,h3,he2,Zod hof]
  obtain ⟨u3,hu3'⟩:∃u3:Value,u3=.pointer (some (((⟨g,offg,none⟩:Addr).add (n.toNat*q.1.ty.cells)).add off)):=⟨_,rfl⟩
  rw[←hu3'] at hrun3
  have he3:(((a.put (some d1) v').put (some d2) u2).put (some d3) u3).eval (.tmp d3)=.pointer (some ⟨g,offg+(n.toNat*q.1.ty.cells+off),none⟩):=by
   rw[ZkU (by rw[ZrC,ZrC];omega),hu3',Z7,Z7,Nat.add_assoc]
  have he1:(((a.put (some d1) v').put (some d2) u2).put (some d3) u3).eval (.tmp d1)=v':=by
   rw[Zh5 (by show (!(Nat.beq d1 d3))=true;rw[Zg4 n13];rfl),Zh5 (by show (!(Nat.beq d1 d2))=true;rw[Zg4 n12];rfl),ZkU (by omega)]
  have hheadI:∀b∈hb1 (gv (gAt (gv (ρ id)) (p++[(n.toNat,off)]))),b∈Bq0:=fun b hb=>by rw[hBI];simp[hb]
  have hkeep:∀b,b < w.heap.size→b∉hb1 (gv (gAt (gv (ρ id)) (p++[(n.toNat,off)])))→w1.heap[b]? =w.heap[b]?:=fun b hb hnb=>hgb.block b hb fun e=>hnb (by
   rw[Zca hownI,ZmJ hownI,←e];simp)
  have hidb:∀b∈hb (ρ id),¬F b∧Mod b∧b < w.heap.size∧∀i v o,i≠id→find i st.ob=some (v,o)→o.free=true→b∉hb (ρ i):=fun b hb'=>by
   obtain ⟨s1,s2,s3,s4⟩:=hR.sep _ _ _ _ hf rfl hb'
   exact ⟨s1,s2,s3,fun i v o hi hf hfr hbi=>hi (s4 _ _ _ hf hfr hbi)⟩
  have hoff:=ZkG hqx
  have hcap:n.toNat*q.1.ty.cells+q.1.ty.cells≤cap*q.1.ty.cells:=by
   rw[←Nat.succ_mul];exact Nat.mul_le_mul_right _ (by omega)
  have hgw:g < w.heap.size:=(hidb g hgB).2.2.1
  have hgH:g∈hb1 (gv (gAt (gv (ρ id)) p)):=by rw[hg];simp[hb1]
  have hBiS:∀b∈Bie,b∈Bs.flatten:=fun b hb=>List.mem_flatten.2 ⟨Bie,List.mem_of_getElem? ke1,hb⟩
  have hIn:∀b∈hb1 (gv (gAt (gv (ρ id)) (p++[(n.toNat,off)]))),b≠g∧b∈hb (ρ id):=fun b hb=>by
   have h1:=hBiS b (c3 b (hheadI b hb))
   exact ⟨fun e=>hndQ.2.2 g hgH b h1 e.symm,a3 b (by rw[hB];simp only[List.mem_append];exact .inr h1)⟩
  have hgn:g∉hb1 (gv (gAt (gv (ρ id)) (p++[(n.toNat,off)]))):=fun h=>(hIn g h).1 rfl
  have hh1:w1.heap[g]? =some (.cells cur Eq (0,0)):=by rw[hkeep g hgw hgn];exact hh
  have hst:=run_storeCells_at (P:=P) g (offg+(n.toNat*q.1.ty.cells+off)) Eq [v'] 0 cur w1 hh1 (by simp;omega) (fun u hu=>by rw[List.mem_singleton] at hu;subst hu;exact hon)
  simp only[Nat.add_zero] at hst
  obtain ⟨w2,hw2⟩:∃w2,w2=w1.setRow g (cur.toList.take (offg+(n.toNat*q.1.ty.cells+off))++[v']++cur.toList.drop (offg+(n.toNat*q.1.ty.cells+off)+ [v'].length)).toArray:=⟨_,rfl⟩
  rw[←hw2] at hst
  have hrun4:(execOp (((a.put (some d1) v').put (some d2) u2).put (some d3) u3).eval o4).run P w1=.ok .skip w2:=by
   simp[execOp,h4,he3,he1,Instr.storeAt,Instr.sureAddr,storeVar,ZP hz4,hcl] at hst ⊢
   simp[hst]
  have hsame2:∀b,b≠g→w2.heap[b]? =w1.heap[b]?:=fun b hb=>by rw[hw2];exact setRow_other _ _ _ _ hb
  have hsame:∀b,b < w.heap.size→b≠g→b∉hb1 (gv (gAt (gv (ρ id)) (p++[(n.toNat,off)])))→w2.heap[b]? =w.heap[b]?:=fun b hb h1 h2=>by rw[hsame2 b h1,hkeep b hb h2]
  have hkF:Keeps F w F w2:=⟨fun _ h=>h,fun b hF=>hsame b (hR.low b hF) (fun e=>by subst e;exact (hidb _ hgB).1 hF) fun hm=>(hidb b (hIn b hm).2).1 hF⟩
  have hvlt:∀b∈hb v',b < w1.heap.size:=fun b hb=>by
   rw[ZmJ hown'] at hb
   exact hown'.lt b (by simpa using hb)
  have hvg:∀b∈hb v',b≠g:=fun b hb e=>by
   subst e
   rcases hwhere with h | h
   ·rw[h,←Zca hownI] at hb;exact hgn hb
   ·rw[h] at hb;have:=List.mem_singleton.1 hb;omega
  have hinner:DRow F w2 E2 (.leaf t) v' (show List (El t) from li++ys) (hb v'):=by
   refine RowRep.deep ⟨cellsI++news,?_,fun j x hx=>?_⟩ hgv
   ·have:=Zfx hown' (w':=w2) fun b hb=>hsame2 b (hvg b (ZwO hb))
    simpa using this
   ·have hIl:cellsI.length=li.length*t.cells:=hownI.1
    by_cases hj:j < li.length
    ·rw[List.getElem?_append_left hj] at hx
     obtain ⟨cs,Bi,_,⟨k2,_⟩,k3⟩:=helI j x hx
     refine ⟨cs,k2.keep hkF,fun m u hu=>?_⟩
     have:=k3 m u hu
     rw[List.getElem?_append_left (List.getElem?_eq_some_iff.1 this).1]
     exact this
    ·rw[List.getElem?_append_right (by omega)] at hx
     obtain ⟨cs,k2,k3⟩:=n4 _ x hx
     refine ⟨cs,k2.keep hkF,fun m u hu=>?_⟩
     have:li.length*t.cells≤j*t.cells:=Nat.mul_le_mul_right _ (by omega)
     rw[List.getElem?_append_right (by omega),hIl,show j*t.cells+m - li.length*t.cells=(j - li.length)*t.cells+m by rw[Nat.sub_mul];omega]
     exact k3 m u hu
  have hnv:(hb v').Nodup:=by rw[ZmJ hown'];cases v'.ownBlock <;> simp
  have key:Turns F F w w2 (fun b=>b=g∨b∈hb1 (gv (gAt (gv (ρ id)) (p++[(n.toNat,off)])))) (fun b=>b=w.heap.size∧w.heap.size < w1.heap.size) q (gAt (gv (ρ id)) p) 0 (fun d' l'=>rowSet d' l' [(n.toNat,off)] (addTo t ys)):=by
   intro E0 B0 hrow0 hnd0 hM0 hs0
   obtain ⟨cells0,Bs0,hown0,hbl0,hB0,hel0⟩:=hrow0
   rcases hown0.2 with ⟨h3,_⟩ | ⟨g',off',cap',cur',h3,hh',hnc',hcm',hsz',htk'⟩
   ·rw[hg] at h3;cases h3
   rw[hg] at h3
   cases h3
   rw[hh] at hh'
   cases hh'
   subst hB0
   obtain ⟨m1,m2,m3⟩:=List.nodup_append.1 hnd0
   have hflat:∀b∈Bs0.flatten,b≠g:=fun b hb e=>by subst e;exact m3 b hgH b hb rfl
   obtain ⟨cs,Bi,k1,hos,hat0⟩:=hel0 n.toNat _ (ZbP (z:=dflt q.1.ty) hlt0)
   have hsub:∀b∈Bi,b∈Bs0.flatten:=fun b hb=>List.mem_flatten.2 ⟨Bi,List.mem_of_getElem? k1,hb⟩
   have hni:Bi.Nodup:=(List.pairwise_flatten.1 m2).1 Bi (List.mem_of_getElem? k1)
   have hinB:∀b∈hb1 (gv (gAt (gv (ρ id)) (p++[(n.toNat,off)]))),b∈Bi:=fun b hb=>by
    obtain ⟨E9,B9,y1,_,y3⟩:=Zfc hos hni hqx
    rw[←hgA] at y1
    obtain ⟨_,_,_,_,y4,_⟩:=y1
    exact y3 b (by rw[y4];simp[hb])
   obtain ⟨x',g1,Be,p1,_,p3,p4,p5⟩:=roPut hkF (D:=fun b=>b=g∨b∈hb1 (gv (gAt (gv (ρ id)) (p++[(n.toNat,off)])))) (M:=fun b=>b=w.heap.size∧w.heap.size < w1.heap.size) (hv:=v') (f:=fun d' l'=>rowSet d' l' [] (addTo t ys)) hos hni (fun b hb=>hM0 b (by simp[hsub b hb])) (fun b hb=>hs0 b (by simp[hsub b hb])) hqx
    fun E9 B9 y1 y2 y3=>by
     refine ⟨E2,(show List (El t) from li++ys),v',hb v',?_,hinner,hgv,hnv,fun b hb=>?_,fun b hb hD=>?_⟩
     ·show (if h2:t=t then some (show List (El t) from li++(h2▸ys)) else none)=_
      rw[dif_pos rfl]
     ·rcases hwhere with h | h
      ·rw[h,←Zca hownI] at hb
       rw[←hgA] at y1
       obtain ⟨_,_,_,_,y4,_⟩:=y1
       exact .inl (by rw[y4];simp[hb])
      ·have:=hvlt b hb
       rw[h] at hb
       have hb':=List.mem_singleton.1 hb
       subst hb'
       exact .inr ⟨rfl,this⟩
     ·rcases hD with rfl | hD
      ·exact absurd rfl (hflat _ (hsub _ hb))
      ·rw[←hgA] at y1
       obtain ⟨_,_,_,_,y4,_⟩:=y1
       rw[y4];simp[hD]
   have hcl0:=hos.length
   have hnew:=p3 (turnE (gk (gAt (gv (ρ id)) p) n.toNat) off g1 q.1.ty.cells) fun m hm=>by rw[Nat.zero_add,ZhN hm]
   have hvl:=hnew.length
   obtain ⟨f1,f2⟩:=Zk4 m2 k1 p4 (fun b hb=>hM0 b (by simp only[List.mem_append];exact .inr hb)) p5
   have hcs:∀m u,cs[m]? =some u→cur.toList[offg+n.toNat*q.1.ty.cells+m]? =some u:=fun m u hm=>by
    have hmlt:m < q.1.ty.cells:=by have:=(List.getElem?_eq_some_iff.1 hm).1;omega
    have hle:n.toNat*q.1.ty.cells+q.1.ty.cells≤q.2.length*q.1.ty.cells:=by rw[←Nat.succ_mul];exact Nat.mul_le_mul_right _ hlt0
    have:=hat0 m u hm
    rw[←htk',List.getElem?_take,if_pos (by omega),List.getElem?_drop] at this
    rw[show offg+n.toNat*q.1.ty.cells+m=offg+(n.toNat*q.1.ty.cells+m) by omega]
    exact this
   refine ⟨q.2.set n.toNat x',turnE (gAt (gv (ρ id)) p) n.toNat (turnE (gk (gAt (gv (ρ id)) p) n.toNat) off g1 q.1.ty.cells) q.2.length,hb1 (gv (gAt (gv (ρ id)) p))++(Bs0.set n.toNat Be).flatten,by simp only[rowSet] at p1 ⊢;rw[p1];rfl,?_,ZgN,?_,?_,fun b hb=>?_,Deep.here ZgN (by simp)⟩
   ·refine elemPut hkF hown0 hbl0 hel0 hlt0 hnew hg hh hnc' hcm' hsz' htk' ?_ fun j' Bj hj' hBj b hb=>hs0 b (by simp only[List.mem_append,List.mem_flatten];exact .inr ⟨Bj,List.mem_of_getElem? hBj,hb⟩) fun hD=>?_
    ·rw[hw2,setRow_heap w1 g cur _ Eq (0,0) hh1]
     have:=ZsK (ns:=[v']) (j:=off) (a:=offg+n.toNat*q.1.ty.cells) (cur:=cur.toList) (vs:=cs) (by simp;omega) (by simp;omega) hcs
     rw[show ([v']:List Value).length=1 from rfl] at this
     rw[show ([v']:List Value).length=1 from rfl,←this,show offg+n.toNat*q.1.ty.cells+off=offg+(n.toNat*q.1.ty.cells+off) by omega]
    ·rcases hD with rfl | hD
     ·exact hflat _ (List.mem_flatten.2 ⟨Bj,List.mem_of_getElem? hBj,hb⟩) rfl
     ·exact hj' (Znv m2 hBj k1 hb (hinB b hD))
   ·exact List.nodup_append.2 ⟨m1,f1,fun a ha b hb e=>by
     subst e
     rcases f2 a hb with h | h
     ·exact m3 a ha a h rfl
     ·exact hM0 a (by simp[ha]) h⟩
   ·intro b hb
    rcases List.mem_append.1 hb with hb | hb
    ·exact .inl (by simp[hb])
    ·exact (f2 b hb).imp (fun h=>by simp only[List.mem_append];exact .inr h) _root_.id
   ·rcases hb with rfl | hb
    ·exact List.mem_append_left _ hgH
    ·simp only[List.mem_append];exact .inr (hsub b (hinB b hb))
  obtain ⟨l3,g',B',e1,e2',e3,e4,e5,e6,e7⟩:=rowTurn hkF hpa hq key E _ hrow hndB (fun b hb hm=>by have:=(hidb b hb).2.2.1;omega) fun b hb hD=>hsame b (hidb b hb).2.2.1 (fun e=>hD (.inl e)) fun h=>hD (.inr h)
  have e1':rowSet d l p (fun d' l'=>rowSet d' l' [(n.toNat,off)] (addTo t ys))=some l3:=e1
  rw[←ZlU,he] at e1'
  cases e1'
  have hw12:w2.heap.size=w1.heap.size:=by rw[hw2];simp
  have hw01:w.heap.size≤w1.heap.size:=hgb.size
  have hA2:ARep F ρ w st (.da id ver p n.toNat 0) u2:=by
   rw[hu2']
   refine .da _ _ _ _ _ _ hbn rfl fun E' d' l' ho'=>?_
   rw[ho] at ho'
   cases ho'
   exact ⟨hpa,q,hq,hlt0,_,_,cap,hg,by rw[Nat.add_zero]⟩
  have hA3:ARep F ρ w st (.da id ver p n.toNat off) u3:=by
   rw[hu3',Addr.add_add]
   refine .da _ _ _ _ _ _ hbn rfl fun E' d' l' ho'=>?_
   rw[ho] at ho'
   cases ho'
   exact ⟨hpa,q,hq,hlt0,_,_,cap,hg,rfl⟩
  have hR2:=R.put (a:=a) hR hA2 (some d2)
  have hR3:=R.put (a:=a.put (some d2) u2) hR2 (ARep.of_ob (st:=st) (st':=st.put (some d2) (.da id ver p n.toNat 0)) rfl hA3) (some d3)
  obtain ⟨hR',hE'⟩:=R.turn (w':=w2) (n:=p.length) hR3 hR3 (Evo.refl _ _ _) Ref.refl rfl (id:=id) (ver:=ver) (E:=E) (d:=d) (l:=l) (l2:=l2) (Zw.2 (show find id st.ob=_ from hf)) (show find id st.ob=_ from hf) (fun i v T cs tg h=>h)
   (g':=g') (B':=B') (by rw[hw2];exact hgb.os) (by rw[hw2];exact hgb.tape) (by rw[hw2];exact hgb.output) (by omega)
   (fun k hk hne=>hsame k hk (fun e=>by subst e;exact hne hgB) fun hm=>hne (hIn k hm).2) e4 e2' (fun b hb=>by
    rcases e5 b hb with h | ⟨rfl,h⟩
    ·obtain ⟨s1,s2,s3,s4⟩:=hidb b h
     exact ⟨s1,s2,by omega,fun i v o hi hf=>s4 i v o hi hf⟩
    ·refine ⟨fun hF=>by have:=hR.low _ hF;omega,hR.hi _ (Nat.le_refl _),by omega,fun i v o _ hf hfr hbi=>?_⟩
     have:=(hR.sep i v o _ (show find i st.ob=_ from hf) hfr hbi).2.2.1
     omega) e7
  have hR4:=R.put (a:=(a.put (some d2) u2).put (some d3) u3) hR' (.top v') (some d1)
  have hR5:=R.put (a:=((a.put (some d2) u2).put (some d3) u3).put (some d1) v') hR4 (.top undef) o4.dst
  have hacts:((a.put (some d1) v').put (some d2) u2).put (some d3) u3=((a.put (some d2) u2).put (some d3) u3).put (some d1) v':=by
   rw[put_comm n12,put_comm n13]
  unfold Oper.wp
  rw[hrun1,Oper.upon_value,hd1]
  rw[hrun2,Oper.upon_value,hd2]
  rw[hrun3,Oper.upon_value,hd3]
  rw[hrun4,Oper.upon_skip]
  rw[hacts]
  exact hnext _ _ ⟨by rw[ZX,ZX,ZX,ZX];exact hdef,F,_,hR5,hE'⟩
end
end Go.Ev
end

section
namespace Go.Ev
variable [Tabs] [Orgs]
open Go
section
variable {P:Program} {Mod F0:Nat→Prop} {w0:World} {o:Oper} {st:St} {cl:Cl}
theorem ZwK:∀ {a b:Path} {k:Unit→Option Ans} {y:Ans},needP a b k=some y→a=b∧k ()=some y
 | [],[],k,y,h=>⟨rfl,h⟩
 | (i,k1) :: p,(j,m) :: q,k,y,h=>by
  simp only[needP] at h
  cases h1:Nat.beq k1 m with
  | false=>rw[h1] at h;cases h
  | true=>
   rw[h1] at h
   simp only[cond_true] at h
   cases h2:Nat.beq i j with
   | false=>rw[h2] at h;cases h
   | true=>
    rw[h2] at h
    simp only[cond_true] at h
    obtain ⟨e,h3⟩:=ZwK h
    rw[Nat.eq_of_beq_eq_true h1,Nat.eq_of_beq_eq_true h2,e]
    exact ⟨rfl,h3⟩
 | [],_ :: _,k,y,h=>by cases h
 | _ :: _,[],k,y,h=>by cases h
theorem ZxU {o1 o2 o3 o4:Oper} {m:M St} {k:St→Option Ans} {y:Ans} {a:Act} {w:World} (hz:fuse P o1 o2 o3 o4 st=some m) (hm:m k=some y) (hr:Rel Mod F0 w0 st a w) {next:Act→World→Prop} {Q:Exit→Act→World→Prop}
  (hnext:∀st' a' w',Rel Mod F0 w0 st' a' w'→k st'=some y→next a' w'):
  (o1.guard=none∧o2.guard=none∧o3.guard=none∧o4.guard=none)∧o1.wp P a w (fun a1 w1=>o2.wp P a1 w1 (fun a2 w2=>o3.wp P a2 w2 (fun a3 w3=>o4.wp P a3 w3 next Q) Q) Q) Q:=by
 obtain ⟨hdef,F,ρ,hR,hE⟩:=hr
 unfold fuse at hz
 split at hz
 ·rename_i c d1 T2 X I d2 S a3 f d3 T4 ta tb h1 hd1 h2 hd2 h3 hd3 h4
  split at hz
  ·rename_i id ver e r x T T' id2 ver2 p kk n hc hargs hT hX hI
   generalize hcc:(((o1.guard.isNone&&o2.guard.isNone)&&(o3.guard.isNone&&o4.guard.isNone))&&((Nat.beq T T'&&Nat.beq T4 T)&&((Nat.beq ta d3&&(Nat.beq tb d1&&Nat.beq a3 d2))&&((!(Nat.beq d1 d2)&&(!(Nat.beq d1 d3)&& !(Nat.beq d2 d3)))&&
    ((noTmp d1 X&&noTmp d1 I)&&((Nat.beq id2 id&&Nat.beq ver2 ver)&&(Nat.blt d1 st.tm.length&&(Nat.blt d2 st.tm.length&&Nat.blt d3 st.tm.length))))))))=cc at hz
   cases cc with
   | false=>cases hz
   | true=>
    simp only[cond_true,Option.some.injEq] at hz
    simp only[Bool.and_eq_true,Bool.not_eq_true',Option.isNone_iff_eq_none] at hcc
    obtain ⟨⟨⟨g1,g2⟩,g3,g4⟩,⟨hTT,hT4⟩,⟨hta,htb,ha3⟩,⟨n12,n13,n23⟩,⟨nX,nI⟩,⟨hi2,hv2⟩,b1,b2,b3⟩:=hcc
    obtain rfl:=Nat.eq_of_beq_eq_true hTT
    obtain rfl:=Nat.eq_of_beq_eq_true hT4
    obtain rfl:=Nat.eq_of_beq_eq_true hta
    obtain rfl:=Nat.eq_of_beq_eq_true htb
    obtain rfl:=Nat.eq_of_beq_eq_true ha3
    obtain rfl:=Nat.eq_of_beq_eq_true hi2
    obtain rfl:=Nat.eq_of_beq_eq_true hv2
    have neq:∀ {x y:Nat},Nat.beq x y=false→x≠y:=fun h e=>by subst e;rw[Nat.beq_refl] at h;cases h
    subst hz
    cases ho:st.obj id2 ver2 with
    | none=>rw[ho] at hm;cases hm
    | some ob=>
    rw[ho] at hm
    cases ob with
    | deep E d l=>
     cases hel:Go.Ev.elemOf P T4 with
     | none=>rw[hel] at hm;cases hm
     | some tp=>
     obtain ⟨ET,t,bytes⟩:=tp
     rw[hel] at hm
     cases hz4:szOf P T4 with
     | none=>rw[hz4] at hm;cases hm
     | some n1=>
     rw[hz4] at hm
     match n1,hz4,hm with
     | 0,hz4,hm=>cases hm
     | n1+2,hz4,hm=>cases hm
     | 1,hz4,hm=>
     cases hu2:P.underlying T2 with
     | none=>rw[hu2] at hm;cases hm
     | some td=>
     rw[hu2] at hm
     cases td with
     | slice e2=>
      cases hof:fieldOff P S f with
      | none=>rw[hof] at hm;cases hm
      | some oz=>
      obtain ⟨off,zz⟩:=oz
      rw[hof] at hm
      cases hz2:szOf P e2 with
      | none=>simp only[hz2] at hm;cases hm
      | some z2=>
      cases hq:rowAt d l p with
      | none=>simp only[hz2,hq] at hm;cases hm
      | some q=>
      cases hli:rowAt d l (e :: r) with
      | none=>simp only[hz2,hq,hli] at hm;cases hm
      | some qi=>
      obtain ⟨di,li⟩:=qi
      cases di with
      | leaf t'=>
       cases hex:extra st t x with
       | none=>simp only[hz2,hq,hli,hex] at hm;cases hm
       | some yi=>
       obtain ⟨ys,is⟩:=yi
       simp only[hz2,hq,hli,hex] at hm
       cases hb:Nat.beq z2 q.1.ty.cells with
       | false=>rw[hb] at hm;cases hm
       | true=>
        rw[hb] at hm
        obtain rfl:=Nat.eq_of_beq_eq_true hb
        simp only[cond_true,M.bind] at hm
        obtain ⟨i,⟨h0,hlt,rfl⟩,hm⟩:=Sat.bound _ _ hm
        obtain ⟨hP,hm⟩:=ZwK hm
        by_cases ht:t'=t
        ·subst ht
         rw[if_pos rfl] at hm
         cases hbn:Nat.ble ((List.length li+ys.length)*bytes) limit with
         | false=>simp only[hbn] at hm;cases hm
         | true=>
          simp only[hbn,cond_true] at hm
          split at hm
          ·rename_i l2 he
           have he':rowSet d l (e :: r) (addTo t' ys)=some l2:=by
            rw[←he]
            congr 1
           have hrl:r.length=p.length:=by have:=congrArg List.length hP;simp at this;exact this
           rw[hrl] at hm
           rw[hP] at hargs hli he'
           refine ⟨⟨g1,g2,g3,g4⟩,Zx0 h1 hc hargs (by apply Array.ext';exact hT) hd1 h2 hd2 h3 hd3 h4 (neq n12) (neq n13) (neq n23) nX nI (by rw[Nat.blt_eq] at b1;exact b1) (by rw[Nat.blt_eq] at b2;exact b2) (by rw[Nat.blt_eq] at b3;exact b3) hX hI ho hel hz4 hu2 hof hq hz2 h0 hlt hli hex hbn he' hR hdef fun a' w' hp=>?_⟩
           obtain ⟨hd',F',ρ',hR',hE'⟩:=hp
           exact hnext _ a' w' ⟨hd',F',ρ',hR',hE.trans hE'⟩ hm
          ·cases hm
        ·rw[if_neg ht] at hm;cases hm
      | _=>simp only[hz2,hq,hli] at hm;cases hm
     | _=>cases hm
    | _=>cases hm
  ·cases hz
 ·cases hz
theorem ZjB {op:Oper→St→M St} {fz:Oper→List Oper→St→Option (M St)} (hop:∀(o:Oper) (st:St),Sat (op o st) (OpOK P Mod o st)) {F0:Nat→Prop} {w0:World} {y:Ans} {ops:Array Oper} {k:St→Option Ans} {Q:Exit→Act→World→Prop}
  (hQ:∀st a w,Rel Mod F0 w0 st a w→k st=some y→Q .normal a w)
  (hfz:∀(i:Nat) o r st a w m,ops.toList.drop i=o :: r→fz o r st=some m→m k=some y→Rel Mod F0 w0 st a w→wpOps P ops Q (List.range' i (o :: r).length) a w):
  ∀(l:List Oper) (i:Nat) (st:St) (a:Act) (w:World),ops.toList.drop i=l→opsH op fz ops l st k=some y→Rel Mod F0 w0 st a w→wpOps P ops Q (List.range' i l.length) a w
 | [],i,st,a,w,_,h,hr=>hQ st a w hr h
 | o :: r,i,st,a,w,hl,h,hr=>by
  cases hz:fz o r st with
  | some m=>
   simp only[opsH,hz] at h
   exact hfz i o r st a w m hl hz h hr
  | none=>
  have ho:ops[i]? =some o:=by
   have:(ops.toList.drop i)[0]? =some o:=by rw[hl];rfl
   simpa using this
  have hl':ops.toList.drop (i+1)=r:=by rw[←List.tail_drop,hl];rfl
  rw[List.length_cons,List.range'_succ,wpOps_cons]
  unfold wpOp
  simp only[ho]
  have run:(op o st) (fun st=>opsH op fz ops r st k)=some y→o.wp P a w (wpOps P ops Q (List.range' (i+1) r.length)) Q:=fun h=>by
   refine Oper.wp_mono (fun a' w' h'=>?_) (ZoQ (hop o st) h hr Q)
   obtain ⟨st',hr',hk⟩:=h'
   exact ZjB hop hQ hfz r (i+1) st' a' w' hl' hk hr'
  cases hg:o.guard with
  | none=>
   simp only[opsH,hz,hg] at h
   have hw:Region.wanted o (yielded ops a.tmps)=true:=by unfold Region.wanted;rw[hg]
   rw[if_pos hw]
   exact .inl (run h)
  | some jw=>
   obtain ⟨j,want⟩:=jw
   cases ht:(ops[j]?).bind (·.dst) with
   | none=>simp only[opsH,hz,hg,ht] at h;cases h
   | some t=>
    cases hb:st.tm.getD t .top with
    | d T b=>
     cases T with
     | bool=>
      have hset:({ st with tm:=st.tm.set t (.d .bool b) } :St)=st:=by
       cases st with
       | mk tmm obb=>simp only[St.mk.injEq,and_true];exact Zj0 (st:=⟨tmm,obb⟩) hb (by simp)
      have hy:yielded ops a.tmps j=some b:=by
       obtain ⟨_,F,ρ,hR,_⟩:=hr
       have h1:=Zt hR (.tmp t)
       simp only[St.ev] at h1
       rw[hb] at h1
       have h2:=Zcq h1
       simp only[Act.eval] at h2
       unfold yielded
       rw[ht]
       simp only[Option.bind_some]
       rw[Array.getD_eq_getD_getElem?] at h2
       cases he:a.tmps[t]? with
       | none=>rw[he] at h2;simp[undef] at h2
       | some v=>rw[he] at h2;simp only[Option.getD_some] at h2;rw[h2]
      simp only[opsH,hz,hg,ht,hb] at h
      cases b <;> cases want <;> simp only[M.bind,branch,cond_true,cond_false] at h <;> rw[hset] at h
      ·have hw:Region.wanted o (yielded ops a.tmps)=true:=by unfold Region.wanted;rw[hg];simp only[hy];rfl
       rw[if_pos hw]
       exact .inl (run h)
      ·have hw:¬Region.wanted o (yielded ops a.tmps)=true:=by unfold Region.wanted;rw[hg];simp only[hy];decide
       rw[if_neg hw]
       exact ZjB hop hQ hfz r (i+1) _ _ w hl' h (Ziz hr o.dst)
      ·have hw:¬Region.wanted o (yielded ops a.tmps)=true:=by unfold Region.wanted;rw[hg];simp only[hy];decide
       rw[if_neg hw]
       exact ZjB hop hQ hfz r (i+1) _ _ w hl' h (Ziz hr o.dst)
      ·have hw:Region.wanted o (yielded ops a.tmps)=true:=by unfold Region.wanted;rw[hg];simp only[hy];rfl
       rw[if_pos hw]
       exact .inl (run h)
     | _=>simp only[opsH,hz,hg,ht,hb] at h;cases h
    | cst u=>
     simp only[opsH,hz,hg,ht,hb] at h
     cases hn:notBool u with
     | false=>rw[hn] at h;cases h
     | true=>
      rw[hn] at h
      have hy:yielded ops a.tmps j=none:=by
       obtain ⟨_,F,ρ,hR,_⟩:=hr
       have h1:=Zt hR (.tmp t)
       simp only[St.ev] at h1
       rw[hb] at h1
       have h2:=ZoT h1
       simp only[Act.eval] at h2
       unfold yielded
       rw[ht]
       simp only[Option.bind_some]
       rw[Array.getD_eq_getD_getElem?] at h2
       cases he:a.tmps[t]? with
       | none=>rfl
       | some v=>
        rw[he] at h2
        simp only[Option.getD_some] at h2
        subst h2
        cases v <;> first | rfl | (simp[notBool] at hn)
      have hw:¬Region.wanted o (yielded ops a.tmps)=true:=by unfold Region.wanted;rw[hg];simp only[hy];cases want <;> decide
      rw[if_neg hw]
      exact ZjB hop hQ hfz r (i+1) _ _ w hl' h (Ziz hr o.dst)
    | _=>simp only[opsH,hz,hg,ht,hb] at h;cases h
theorem ZjH {ops:Array Oper} {Q:Exit→Act→World→Prop} {i:Nat} {rest:List Nat} {a:Act} {w:World} (ho:ops[i]? =some o) (hg:o.guard=none) (h:o.wp P a w (wpOps P ops Q rest) Q):wpOps P ops Q (i :: rest) a w:=by
 rw[wpOps_cons]
 unfold wpOp
 simp only[ho]
 have hw:Region.wanted o (yielded ops a.tmps)=true:=by unfold Region.wanted;rw[hg]
 rw[if_pos hw]
 exact .inl h
theorem Zxo {own:TypeId→Bool} {ops:Array Oper} (hcl:Spec P cl) (hdet:DetC cl) {y:Ans} {k:St→Option Ans} {Q:Exit→Act→World→Prop}
  (hQ:∀st a w,Rel Mod F0 w0 st a w→k st=some y→Q .normal a w):
  ∀(l:List Oper) (i:Nat) (st:St) (a:Act) (w:World),ops.toList.drop i=l→opsH (opY P own cl) (fuse3 P cl) ops l st k=some y→Rel Mod F0 w0 st a w→wpOps P ops Q (List.range' i l.length) a w:=
 ZjB (fun _ _=>ZwA hcl) hQ fun i o r st a w m hl hz hm hr=>by
  unfold fuse3 at hz
  split at hz
  ·rename_i o2 o3 o4
   have get:∀j x,(o :: [o2,o3,o4])[j]? =some x→ops[i+j]? =some x:=fun j x hx=>by
    rw[←hl,List.getElem?_drop,Array.getElem?_toList] at hx
    exact hx
   obtain ⟨⟨g1,g2,g3,g4⟩,hwp⟩:=ZxU (next:=wpOps P ops Q []) hz hm hr fun st' a' w' hr' hk=>hQ st' a' w' hr' hk
   show wpOps P ops Q [i,i+1,i+1+1,i+1+1+1] a w
   refine ZjH (get 0 o rfl) g1 (Oper.wp_mono (fun a1 w1 h1=>?_) hwp)
   refine ZjH (get 1 o2 rfl) g2 (Oper.wp_mono (fun a2 w2 h2=>?_) h1)
   refine ZjH (get 2 o3 rfl) g3 (Oper.wp_mono (fun a3 w3 h3=>?_) h2)
   exact ZjH (get 3 o4 rfl) g4 h3
  ·cases hz
end
end Go.Ev
end

section
namespace Go.Ev
variable [Tabs] [Orgs]
open Go
section
variable {P:Program} {cl:Cl} {o:Oper} {st st2:St} {X:List Id} {own:TypeId→Bool} {Mod:Nat→Prop}
theorem ZjT {l l':List AV} (h:∀x∈l,x∈l'):∀id∈menL l,id∈menL l':=fun id hi=>by
 obtain ⟨x,hx,hm⟩:=Zsg hi
 exact Zgm (h x hx) hm
theorem Zg5:∀ {d:DTy} {cs rest:List AV} {x:El d.ty} {is ms:List Id},packD st d cs=some (x,rest,is,ms)→(∀y∈rest,y∈cs)∧∀id∈is,id∈menL cs
 |.leaf t,cs,rest,x,is,ms,h=>by
  simp only[packD] at h
  obtain ⟨⟨az,i1⟩,h1,h⟩:=Option.bind_eq_some_iff.1 h
  obtain ⟨y,h2,h⟩:=Option.map_eq_some_iff.1 h
  simp only[Prod.mk.injEq] at h
  obtain ⟨rfl,rfl,rfl,rfl⟩:=h
  exact ⟨fun y hy=>List.mem_of_mem_drop hy,fun id hid=>ZjT (fun y hy=>List.mem_of_mem_take hy) id (Zft h1 id hid)⟩
 |.ro d,[],_,_,_,_,h=>by simp only[packD] at h;cases h
 |.ro d,c :: cs,rest,x,is,ms,h=>by
  simp only[packD] at h
  split at h
  ·cases h;exact ⟨fun y hy=>by simp[hy],fun id hid=>by cases hid⟩
  ·split at h
   ·split at h
    ·cases h;exact ⟨fun y hy=>by simp[hy],fun id hid=>by cases hid⟩
    ·cases h
   ·cases h
  ·split at h
   ·split at h
    ·cases h;exact ⟨fun y hy=>by simp[hy],fun id hid=>by cases hid⟩
    ·cases h
   ·cases h
  ·cases h
 |.pr a b,cs,rest,x,is,ms,h=>by
  simp only[packD] at h
  obtain ⟨⟨y1,r1,i1,m1⟩,h1,h⟩:=Option.bind_eq_some_iff.1 h
  obtain ⟨⟨y2,r2,i2,m2⟩,h2,h⟩:=Option.map_eq_some_iff.1 h
  simp only[Prod.mk.injEq] at h
  obtain ⟨rfl,rfl,rfl,rfl⟩:=h
  obtain ⟨a1,a2⟩:=Zg5 h1
  obtain ⟨b1,b2⟩:=Zg5 h2
  refine ⟨fun y hy=>a1 y (b1 y hy),fun id hid=>?_⟩
  rcases List.mem_append.1 hid with hid | hid
  ·exact a2 id hid
  ·exact ZjT a1 id (b2 id hid)
theorem ZnK (h:agr X st st2):∀ {d:DTy} {cs:List AV},(∀id∈menL cs,id∈X)→packD st2 d cs=packD st d cs
 |.leaf t,cs,hc=>by
  simp only[packD]
  rw[Zfp h fun id hid=>hc id (ZjT (fun y hy=>List.mem_of_mem_take hy) id hid)]
 |.ro d,[],hc=>rfl
 |.ro d,c :: cs,hc=>by
  simp only[packD]
  have hm:∀id∈men1 c,id∈X:=fun id hid=>hc id (Zgm (by simp) hid)
  cases c with
  | own id ver pre=>
   have e:=h.obj (hm id (by simp[men1])) ver
   cases pre with
   | none=>dsimp only;rw[e]
   | some n=>rfl
  | dn id ver p=>
   have e:=h.obj (hm id (by simp[men1])) ver
   cases p with
   | nil=>dsimp only;rw[e]
   | cons a r=>rfl
  | _=>rfl
 |.pr a b,cs,hc=>by
  simp only[packD]
  rw[ZnK h hc]
  cases h1:packD st a cs with
  | none=>rfl
  | some q=>
   obtain ⟨x,rest,is,ms⟩:=q
   simp only[Option.bind_some]
   rw[ZnK h fun id hid=>hc id (ZjT (Zg5 h1).1 id hid)]
theorem Zqq {d:DTy} :∀ {n:Nat} {cs:List AV} {l:List (El d.ty)} {is ms:List Id},packDN st d n cs=some (l,is,ms)→∀id∈is,id∈menL cs
 | 0,[],l,is,ms,h=>by simp only[packDN] at h;cases h;intro id hid;cases hid
 | 0,_ :: _,l,is,ms,h=>by simp[packDN] at h
 | n+1,cs,l,is,ms,h=>by
  simp only[packDN] at h
  obtain ⟨⟨y1,r1,i1,m1⟩,h1,h⟩:=Option.bind_eq_some_iff.1 h
  obtain ⟨⟨ys,i2,m2⟩,h2,h⟩:=Option.map_eq_some_iff.1 h
  simp only[Prod.mk.injEq] at h
  obtain ⟨rfl,rfl,rfl⟩:=h
  intro id hid
  rcases List.mem_append.1 hid with hid | hid
  ·exact (Zg5 h1).2 id hid
  ·exact ZjT (Zg5 h1).1 id (Zqq h2 id hid)
theorem Zqa (h:agr X st st2) {d:DTy} :∀ {n:Nat} {cs:List AV},(∀id∈menL cs,id∈X)→packDN st2 d n cs=packDN st d n cs
 | 0,[],_=>rfl
 | 0,_ :: _,_=>rfl
 | n+1,cs,hc=>by
  simp only[packDN]
  rw[ZnK h hc]
  cases h1:packD st d cs with
  | none=>rfl
  | some q=>
   obtain ⟨x,rest,is,ms⟩:=q
   simp only[Option.bind_some]
   rw[Zqa h fun id hid=>hc id (ZjT (Zg5 h1).1 id hid)]
theorem ZsY (hcl:DetC cl) (hagr:agr (touE o st++wrE o st) st st2) (hev:∀x∈o.op.operands,st2.ev x=st.ev x):
  Fr3 (opO P own cl o st) (opO P own cl o st2) (wrE o st) st st2 o.dst:=by
 unfold opO
 split
 ·rename_i T len parts h
  split
  ·exact Zl1 hcl hagr hev
  ·rename_i E d bytes hel
   have hm:∀x∈o.op.operands,∀id∈men (st.ev x),id∈touE o st:=fun x hx id hi=>Zj4 (by simpa using hx) hi
   have he:isE o.op=true:=by rw[h];rfl
   have hW:∀id,id∈rootE o∨id∈touE o st→id∈wrE o st∧id∈touE o st++wrE o st:=fun id hi=>by
    have:id∈wrE o st:=by
     unfold wrE
     rw[he]
     simpa using hi
    exact ⟨this,List.mem_append_right _ this⟩
   have hroot:∀e,o.dst=some e→rootId e∈wrE o st∧rootId e∈touE o st++wrE o st:=fun e hd=>hW _ (.inl (by unfold rootE;rw[hd];simp))
   rw[h] at hev hm
   have hmem:∀p∈parts.toList,p.2∈(Op.buildSlice T len parts).operands:=fun p hp=>by simp only[Op.operands];simp;exact ⟨p.1,by simpa using hp⟩
   have hp:parts.toList.map (fun p=>(p.1,st2.ev p.2))=parts.toList.map (fun p=>(p.1,st.ev p.2)):=List.map_congr_left fun p hp=>by rw[hev p.2 (hmem p hp)]
   rw[hp]
   split
   ·rename_i s z hs hz
    refine Fr3.cond ?_ Fr3.fail
    split
    ·exact Fr3.fail
    ·rename_i cs hfl
     have hzn:menL ((List.range (len*s)).map fun i=>z.getD (i % z.length) .top)=[]:=Zsk fun x hx=>by
      obtain ⟨i,_,rfl⟩:=List.mem_map.1 hx
      unfold zeroAV at hz
      obtain ⟨zv,_,rfl⟩:=Option.map_eq_some_iff.1 hz
      rw[List.getD_eq_getElem?_getD]
      cases hg:(zv.cells.toList.map ofVal)[i % (zv.cells.toList.map ofVal).length]? with
      | none=>rfl
      | some y=>
       rw[List.getElem?_map] at hg
       obtain ⟨v,_,rfl⟩:=Option.map_eq_some_iff.1 hg
       exact ZpZ v
     have hcs:∀id∈menL cs,id∈touE o st:=fun id hid=>by
      rcases ZnN hfl hid with h | ⟨p,hp,hm2⟩
      ·rw[hzn] at h;cases h
      ·obtain ⟨q,hq,rfl⟩:=List.mem_map.1 hp
       exact hm q.2 (hmem q hq) id hm2
     rw[Zqa hagr fun id hid=>List.mem_append_left _ (hcs id hid)]
     split
     ·rename_i l is hpk
      exact Zco hroot (fun id hid=>hW id (.inr (hcs id (Zqq hpk id hid)))) hagr
     ·exact Fr3.fail
   ·exact Fr3.fail
 ·exact Zl1 hcl hagr hev
theorem Zw0 (hcl:Spec P cl) (hdet:DetC cl):Sat (opE P cl o st) (OpOK P Mod o st):=fun k y e=>ZkQ hcl k y (Zwz hdet e)
theorem Zyn (hcl:Spec P cl) (hdet:DetC cl):Sat (opO P own cl o st) (OpOK P Mod o st):=by
 unfold opO
 split
 ·rename_i T len parts hop
  split
  ·exact Zw0 hcl hdet
  ·rename_i E d bytes hel
   split
   ·rename_i s z hs hz
    refine Sat.cond (fun hle=>?_) fun _=>Sat.fail
    split
    ·exact Sat.fail
    ·rename_i cs hfl
     split
     ·rename_i l is hpk
      unfold makeObj
      split
      ·rename_i d0 hd
       have:=Zkd (Mod:=Mod) (ms:=[]) hop hel hs hz (Nat.le_of_ble_eq_true hle) hfl hpk rfl rfl hd
       exact Sat.pure this
      ·exact Sat.fail
     ·exact Sat.fail
   ·exact Sat.fail
 ·exact Zw0 hcl hdet
end
end Go.Ev
end

section
namespace Go.Ev
variable [Tabs] [Orgs]
open Go
section
variable {P:Program} {Mod F0:Nat→Prop} {w0:World} {cl:Cl} {ops:Array Oper} {st0:St} {us:Nat→Up} {own:TypeId→Bool}
theorem Zvo:∀m,cutAt ops m≤m
 | 0=>Nat.le_refl _
 | m+1=>by
  unfold cutAt
  cases (List.range m).all (fun i=>Nat.testBit ((aheads ops.toList []).getD m 0) i) with
  | true=>exact Nat.le_succ_of_le (Zvo m)
  | false=>exact Nat.le_refl _
def StepO (P:Program) (own:TypeId→Bool) (cl:Cl) (ops:Array Oper) (o:Oper) (st:St) (u:Up) (lg:List Id×List Id):Prop:=
 (wantA ops o st=some true∧lg=(wrE o st,touE o st)∧(∀p∈u.o,p.1∈wrE o st)∧∀k,opO P own cl o st k=k (app u.o o.dst u.v st))∨(wantA ops o st=some false∧u=⟨sk,[]⟩∧lg=([],[]))
def ChainO (P:Program) (own:TypeId→Bool) (cl:Cl) (ops:Array Oper):List Oper→St→List Up→LogE→St→Prop
 | [],st,[],[],st'=>st'=st
 | o :: r,st,u :: us,g :: gs,st'=>StepO P own cl ops o st u g∧ChainO P own cl ops r (app u.o o.dst u.v st) us gs st'
 | _,_,_,_,_=>False
theorem Zyd (hcl:DetC cl) (o:Oper) (st:St):(∀k,opO P own cl o st k=none)∨∃u:Up,(∀p∈u.o,p.1∈wrE o st)∧∀k,opO P own cl o st k=k (app u.o o.dst u.v st):=by
 rcases ZsY (P:=P) hcl (Zvj _ st) (fun _ _=>rfl) with h | ⟨v,ob,h0,h1,_⟩
 ·exact .inl h
 ·exact .inr ⟨⟨v,ob⟩,h0,h1⟩
theorem Zl7 (hcl:DetC cl) {k:St×LogE→Option Ans} {y:Ans} :∀(l:List Oper) (st:St) (log:LogE),opsO (opO P own cl) ops l st log k=some y→
  ∃us gs st',ChainO P own cl ops l st us gs st'∧us.length=l.length∧gs.length=l.length∧k (st',log++gs)=some y
 | [],st,log,h=>⟨[],[],st,rfl,rfl,rfl,by simpa[opsO,M.pure] using h⟩
 | o :: r,st,log,h=>by
  have run:wantA ops o st=some true→(opO P own cl o st) (fun st'=>opsO (opO P own cl) ops r st' (log++[(wrE o st,touE o st)]) k)=some y→∃us gs st',ChainO P own cl ops (o :: r) st us gs st'∧us.length=(o :: r).length∧gs.length=(o :: r).length∧k (st',log++gs)=some y:=fun hw h=>by
   rcases Zyd (P:=P) hcl o st with hd | ⟨u,h0,hd⟩
   ·rw[hd] at h;cases h
   ·rw[hd] at h
    obtain ⟨us,gs,st',hc,l1,l2,hk⟩:=Zl7 hcl r _ _ h
    exact ⟨u :: us,(wrE o st,touE o st) :: gs,st',⟨.inl ⟨hw,rfl,h0,hd⟩,hc⟩,by simp[l1],by simp[l2],by simpa using hk⟩
  have skip:wantA ops o st=some false→opsO (opO P own cl) ops r (st.put o.dst sk) (log++[([],[])]) k=some y→∃us gs st',ChainO P own cl ops (o :: r) st us gs st'∧us.length=(o :: r).length∧gs.length=(o :: r).length∧k (st',log++gs)=some y:=fun hw h=>by
   obtain ⟨us,gs,st',hc,l1,l2,hk⟩:=Zl7 hcl r _ _ h
   exact ⟨⟨sk,[]⟩ :: us,([],[]) :: gs,st',⟨.inr ⟨hw,rfl,rfl⟩,hc⟩,by simp[l1],by simp[l2],by simpa using hk⟩
  cases hg:o.guard with
  | none=>
   simp only[opsO,hg] at h
   exact run (by simp[wantA,hg]) h
  | some jw=>
   obtain ⟨j,want⟩:=jw
   cases ht:(ops[j]?).bind (·.dst) with
   | none=>simp only[opsO,hg,ht] at h;cases h
   | some t=>
    cases hb:st.tm.getD t .top with
    | d T b=>
     cases T with
     | bool=>
      have hset:({ st with tm:=st.tm.set t (.d .bool b) } :St)=st:=by
       cases st with
       | mk tmm obb=>simp only[St.mk.injEq,and_true];exact Zj0 (st:=⟨tmm,obb⟩) hb (by simp)
      have hw:wantA ops o st=some (b==want):=by simp only[wantA,hg,dstOf,ht,hb]
      simp only[opsO,hg,ht,hb] at h
      cases b <;> cases want <;> simp only[M.bind,branch,cond_true,cond_false] at h <;> rw[hset] at h
      ·exact run hw h
      ·exact skip hw h
      ·exact skip hw h
      ·exact run hw h
     | _=>simp only[opsO,hg,ht,hb] at h;cases h
    | cst u=>
     simp only[opsO,hg,ht,hb] at h
     cases hn:notBool u with
     | false=>rw[hn] at h;cases h
     | true=>
      rw[hn] at h
      exact skip (by simp only[wantA,hg,dstOf,ht,hb,hn,cond_true]) h
    | _=>simp only[opsO,hg,ht,hb] at h;cases h
theorem Zm0 {m:Nat} (hmz:m≤ops.size) {us0:List Up} {gs0:LogE} :∀(l:List Oper) (i:Nat) (us:List Up) (gs:LogE) (st st':St),i≤m→(ops.toList.take m).drop i=l→us0.drop i=us→gs0.drop i=gs→ChainO P own cl ops l st us gs st'→
  st=accE ops st0 (fun j=>us0.getD j ⟨.top,[]⟩) (fun _=>true) i→
  st'=accE ops st0 (fun j=>us0.getD j ⟨.top,[]⟩) (fun _=>true) m∧∀j o,i≤j→j < m→ops[j]? =some o→StepO P own cl ops o (accE ops st0 (fun j=>us0.getD j ⟨.top,[]⟩) (fun _=>true) j) (us0.getD j ⟨.top,[]⟩) (gs0.getD j ([],[]))
 | [],i,us,gs,st,st',hi,hl,_,_,hc,hst=>by
  have hsz:m=i:=by
   have:=congrArg List.length hl
   simp at this
   omega
  cases us with
  | nil=>
   cases gs with
   | nil=>
    simp only[ChainO] at hc
    subst hc
    exact ⟨by rw[hsz];exact hst,fun j o hij hjm ho=>by omega⟩
   | cons g gs=>exact hc.elim
  | cons u us=>cases gs <;> exact hc.elim
 | o :: r,i,[],gs,st,st',_,hl,_,_,hc,hst=>hc.elim
 | o :: r,i,u :: us,[],st,st',_,hl,_,_,hc,hst=>hc.elim
 | o :: r,i,u :: us,g :: gs,st,st',hi,hl,hu,hgs,hc,hst=>by
  obtain ⟨h1,h2⟩:=hc
  have ho:ops[i]? =some o:=by
   have h5:((ops.toList.take m).drop i)[0]? =some o:=by rw[hl];rfl
   rw[List.getElem?_drop,List.getElem?_take] at h5
   split at h5
   ·simpa using h5
   ·cases h5
  have hl':(ops.toList.take m).drop (i+1)=r:=by rw[←List.tail_drop,hl];rfl
  have hu':us0.drop (i+1)=us:=by rw[←List.tail_drop,hu];rfl
  have hg':gs0.drop (i+1)=gs:=by rw[←List.tail_drop,hgs];rfl
  have hui:us0.getD i ⟨.top,[]⟩=u:=by
   have:(us0.drop i)[0]? =some u:=by rw[hu];rfl
   rw[List.getElem?_drop] at this
   simp only[Nat.add_zero] at this
   rw[List.getD_eq_getElem?_getD,this];rfl
  have hgi:gs0.getD i ([],[])=g:=by
   have:(gs0.drop i)[0]? =some g:=by rw[hgs];rfl
   rw[List.getElem?_drop] at this
   simp only[Nat.add_zero] at this
   rw[List.getD_eq_getElem?_getD,this];rfl
  have hst':app u.o o.dst u.v st=accE ops st0 (fun j=>us0.getD j ⟨.top,[]⟩) (fun _=>true) (i+1):=by
   unfold accE
   rw[if_pos rfl,←hst]
   simp only[hui,dstOf,ho,Option.bind_some]
  have hlt:i < m:=by
   have:=congrArg List.length hl
   simp at this
   omega
  obtain ⟨k1,k2⟩:=Zm0 hmz r (i+1) us gs _ st' (by omega) hl' hu' hg' h2 hst'
  refine ⟨k1,fun j o' hij hjm ho'=>?_⟩
  by_cases hji:i=j
  ·subst hji
   rw[ho] at ho'
   cases ho'
   rw[←hst,hui,hgi]
   exact h1
  ·exact k2 j o' (by omega) hjm ho'
theorem ZuG {m:Nat} {log:LogE} (h:okLogN ops m log=true) {i j:Nat} (hij:i < j) (hj:j < m):
  Nat.testBit ((aheads ops.toList []).getD j 0) i=true∨(∀x∈(log.getD i ([],[])).1,x∉(log.getD j ([],[])).1∧x∉(log.getD j ([],[])).2)∧∀x∈(log.getD j ([],[])).1,x∉(log.getD i ([],[])).2:=by
 have h1:=List.all_eq_true.1 h j (by simp[hj])
 have h2:=List.all_eq_true.1 h1 i (by simp[hij])
 rw[Bool.or_eq_true] at h2
 refine h2.imp id fun h2=>?_
 cases hi:log[i]? with
 | none=>rw[hi] at h2;cases h2
 | some p=>
  cases hj:log[j]? with
  | none=>rw[hi,hj] at h2;cases h2
  | some q=>
   rw[hi,hj] at h2
   obtain ⟨wi,ti⟩:=p
   obtain ⟨wj,tj⟩:=q
   simp only[Bool.and_eq_true] at h2
   rw[List.getD_eq_getElem?_getD,List.getD_eq_getElem?_getD,hi,hj]
   simp only[Option.getD_some]
   refine ⟨fun x hx=>?_,fun x hx=>ZjK h2.2 x hx⟩
   have:=ZjK h2.1 x hx
   simpa using this
theorem ZvZ {op:Oper→St→M St} (hop:∀(o:Oper) (st:St),Sat (op o st) (OpOK P Mod o st)) {y:Ans} {k:St→Option Ans} {Q:Exit→Act→World→Prop} {next:Act→World→Prop} {i:Nat} {o:Oper} {r:List Oper} {st:St} {a:Act} {w:World}
  (ho:ops[i]? =some o) (h:opsG op ops (o :: r) st k=some y) (hr:Rel Mod F0 w0 st a w) (hnext:∀st' a' w',Rel Mod F0 w0 st' a' w'→opsG op ops r st' k=some y→next a' w'):wpOp P ops Q i next a w:=by
  unfold wpOp
  simp only[ho]
  have run:(op o st) (fun st=>opsG op ops r st k)=some y→o.wp P a w next Q:=fun h=>by
   refine Oper.wp_mono (fun a' w' h'=>?_) (ZoQ (hop o st) h hr Q)
   obtain ⟨st',hr',hk⟩:=h'
   exact hnext st' a' w' hr' hk
  cases hg:o.guard with
  | none=>
   simp only[opsG,hg] at h
   have hw:Region.wanted o (yielded ops a.tmps)=true:=by unfold Region.wanted;rw[hg]
   rw[if_pos hw]
   exact .inl (run h)
  | some jw=>
   obtain ⟨j,want⟩:=jw
   cases ht:(ops[j]?).bind (·.dst) with
   | none=>simp only[opsG,hg,ht] at h;cases h
   | some t=>
    cases hb:st.tm.getD t .top with
    | d T b=>
     cases T with
     | bool=>
      have hset:({ st with tm:=st.tm.set t (.d .bool b) } :St)=st:=by
       cases st with
       | mk tmm obb=>simp only[St.mk.injEq,and_true];exact Zj0 (st:=⟨tmm,obb⟩) hb (by simp)
      have hy:yielded ops a.tmps j=some b:=by
       obtain ⟨_,F,ρ,hR,_⟩:=hr
       have h1:=Zt hR (.tmp t)
       simp only[St.ev] at h1
       rw[hb] at h1
       have h2:=Zcq h1
       simp only[Act.eval] at h2
       unfold yielded
       rw[ht]
       simp only[Option.bind_some]
       rw[Array.getD_eq_getD_getElem?] at h2
       cases he:a.tmps[t]? with
       | none=>rw[he] at h2;simp[undef] at h2
       | some v=>rw[he] at h2;simp only[Option.getD_some] at h2;rw[h2]
      simp only[opsG,hg,ht,hb] at h
      cases b <;> cases want <;> simp only[M.bind,branch,cond_true,cond_false] at h <;> rw[hset] at h
      ·have hw:Region.wanted o (yielded ops a.tmps)=true:=by unfold Region.wanted;rw[hg];simp only[hy];rfl
       rw[if_pos hw]
       exact .inl (run h)
      ·have hw:¬Region.wanted o (yielded ops a.tmps)=true:=by unfold Region.wanted;rw[hg];simp only[hy];decide
       rw[if_neg hw]
       exact hnext _ _ w (Ziz hr o.dst) h
      ·have hw:¬Region.wanted o (yielded ops a.tmps)=true:=by unfold Region.wanted;rw[hg];simp only[hy];decide
       rw[if_neg hw]
       exact hnext _ _ w (Ziz hr o.dst) h
      ·have hw:Region.wanted o (yielded ops a.tmps)=true:=by unfold Region.wanted;rw[hg];simp only[hy];rfl
       rw[if_pos hw]
       exact .inl (run h)
     | _=>simp only[opsG,hg,ht,hb] at h;cases h
    | cst u=>
     simp only[opsG,hg,ht,hb] at h
     cases hn:notBool u with
     | false=>rw[hn] at h;cases h
     | true=>
      rw[hn] at h
      have hy:yielded ops a.tmps j=none:=by
       obtain ⟨_,F,ρ,hR,_⟩:=hr
       have h1:=Zt hR (.tmp t)
       simp only[St.ev] at h1
       rw[hb] at h1
       have h2:=ZoT h1
       simp only[Act.eval] at h2
       unfold yielded
       rw[ht]
       simp only[Option.bind_some]
       rw[Array.getD_eq_getD_getElem?] at h2
       cases he:a.tmps[t]? with
       | none=>rfl
       | some v=>
        rw[he] at h2
        simp only[Option.getD_some] at h2
        subst h2
        cases v <;> first | rfl | (simp[notBool] at hn)
      have hw:¬Region.wanted o (yielded ops a.tmps)=true:=by unfold Region.wanted;rw[hg];simp only[hy];cases want <;> decide
      rw[if_neg hw]
      exact hnext _ _ w (Ziz hr o.dst) h
    | _=>simp only[opsG,hg,ht,hb] at h;cases h
open Classical in
theorem ZxS (hcl:Spec P cl) (hdet:DetC cl) {m:Nat} (hmz:m≤ops.size) (htail:∀j,m≤j→j < ops.size→∀i,i < j→Nat.testBit ((aheads ops.toList []).getD j 0) i=true) {y:Ans} {Q:Exit→Act→World→Prop}
  (hQ:∀(fuel:Nat) (listed:Array Bool) a w,listed.size=ops.size→(∀j,j < ops.size→listed.getD j false=decide (j < m))→(List.range ops.size).countP (fun j=>!listed.getD j true)≤fuel→Rel Mod F0 w0 (accE ops st0 us (fun _=>true) m) a w→wpAny P .any ops Q fuel listed a w)
  (hok:drawOK ops=true) (hsort:sortedB st0.ob=true) {gs:Nat→List Id×List Id}
  (hlog:∀i j,i < j→j < m→Nat.testBit ((aheads ops.toList []).getD j 0) i=true∨(∀x∈(gs i).1,x∉(gs j).1∧x∉(gs j).2)∧∀x∈(gs j).1,x∉(gs i).2)
  (hsteps:∀j o,j < m→ops[j]? =some o→StepO P own cl ops o (accE ops st0 us (fun _=>true) j) (us j) (gs j)) (hy:∃y:Ans,True):
  ∀(fuel:Nat) (listed:Array Bool) (a:Act) (w:World),listed.size=ops.size→Closed ops (fun j=>listed.getD j false)→(∀j,m≤j→listed.getD j false=false)→(List.range ops.size).countP (fun j=>!listed.getD j true)≤fuel→
   Rel Mod F0 w0 (accE ops st0 us (fun j=>listed.getD j false) m) a w→wpAny P .any ops Q fuel listed a w:=by
 have hwr:∀j o,j < m→ops[j]? =some o→∀p∈(us j).o,p.1∈(gs j).1:=fun j o hjm ho p hp=>by
  rcases hsteps j o hjm ho with ⟨_,hg,hid,_⟩ | ⟨_,hu,_⟩
  ·rw[hg];exact hid p hp
  ·rw[hu] at hp;simp at hp
 have hget:∀(listed:Array Bool) j,j < listed.size→listed.getD j true=listed.getD j false:=fun listed j hj=>by simp[hj]
 have step:∀(K:Array Bool→Act→World→Prop) (listed:Array Bool) (a:Act) (w:World) (i:Nat),i < m→listed.size=ops.size→Closed ops (fun j=>listed.getD j false)→
   Rel Mod F0 w0 (accE ops st0 us (fun j=>listed.getD j false) m) a w→i∈Region.ready .any ops listed→
   (∀a' w',Closed ops (fun j=>(listed.setIfInBounds i true).getD j false)→Rel Mod F0 w0 (accE ops st0 us (fun j=>(listed.setIfInBounds i true).getD j false) m) a' w'→K (listed.setIfInBounds i true) a' w')→
   wpOp P ops Q i (K (listed.setIfInBounds i true)) a w:=by
  intro K listed a w i him hs hcld hr hi hK
  obtain ⟨hun,o,ho,hpre⟩:=mem_ready.1 hi
  have hlt:=(Array.getElem?_eq_some_iff.1 ho).1
  have hSi:listed.getD i false=false:=by rw[←hget listed i (by omega)];exact hun
  have hdi:dstOf ops i=o.dst:=by simp[dstOf,ho]
  have hbefore:∀j,Nat.testBit ((aheads ops.toList []).getD i 0) j=true→listed.getD j false=true:=by
   intro j hb
   obtain ⟨o2,ho2,e,he,hbnd,h⟩:=ZdL ops.toList [] i j (by simp) hb
   have:o2=o:=by
    simp only[List.length_nil,Nat.sub_zero,Array.getElem?_toList] at ho2
    rw[ho] at ho2
    cases ho2;rfl
   subst this
   have hon:=hpre e (by simpa using he) hbnd
   rcases h with h | ⟨_,h⟩
   ·rw[←h];exact hon
   ·exact Z6 hcld e.on j hon h
  have hslot:∀t∈o.looksAt ops,(accE ops st0 us (fun j=>listed.getD j false) m).tm.getD t .top=(accE ops st0 us (fun _=>true) i).tm.getD t .top:=by
   intro t ht
   rw[←ZnU (i:=i) m (by omega)]
   refine Zoj m fun j hj hdj=>?_
   obtain ⟨p,hp⟩:∃p,ops[j]? =some p:=⟨ops[j]'(by omega),by simp[show j < ops.size by omega]⟩
   have hpd:p.dst=some t:=by simpa[dstOf,hp] using hdj
   rcases Nat.lt_trichotomy j i with hji | hji | hji
   ·rw[decide_eq_true hji]
    rcases (Z9 hok i o ho).2 j p hji hp with hb | hap
    ·exact hbefore j hb
    ·exact absurd ht ((Oper.apart_spec hap).1 t hpd)
   ·subst hji
    rw[hSi]
    simp
   ·rw[decide_eq_false (by omega)]
    cases hSj:listed.getD j false with
    | false=>rfl
    | true=>
     rcases (Z9 hok j p hp).2 i o hji ho with hb | hap
     ·have:listed.getD i false=true:=Z6 hcld j i hSj hb
      rw[hSi] at this
      cases this
     ·exact absurd ht ((Oper.apart_spec hap).2.2 t hpd)
  have hfind:∀id,id∈(gs i).1∨id∈(gs i).2→find id (accE ops st0 us (fun j=>listed.getD j false) m).ob=find id (accE ops st0 us (fun _=>true) i).ob:=by
   intro id hid
   rw[←ZnU (i:=i) m (by omega)]
   refine ZnE m fun j hj ⟨p,hp,hpe⟩=>?_
   obtain ⟨q,hq⟩:∃q,ops[j]? =some q:=⟨ops[j]'(by omega),by simp[show j < ops.size by omega]⟩
   have hw:id∈(gs j).1:=by rw[←hpe];exact hwr j q hj hq p hp
   rcases Nat.lt_trichotomy j i with hji | hji | hji
   ·rw[decide_eq_true hji]
    rcases hlog j i hji him with hb | ⟨h1,_⟩
    ·exact hbefore j hb
    ·rcases hid with hid | hid
     ·exact absurd hid (h1 id hw).1
     ·exact absurd hid (h1 id hw).2
   ·subst hji
    rw[hSi]
    simp
   ·rw[decide_eq_false (by omega)]
    cases hSj:listed.getD j false with
    | false=>rfl
    | true=>
     rcases hlog i j hji hj with hb | ⟨h1,h2⟩
     ·have:listed.getD i false=true:=Z6 hcld j i hSj hb
      rw[hSi] at this
      cases this
     ·rcases hid with hid | hid
      ·exact absurd hw (h1 id hid).1
      ·exact absurd hid (h2 id hw)
  have hev:∀x∈o.op.operands,(accE ops st0 us (fun j=>listed.getD j false) m).ev x=(accE ops st0 us (fun _=>true) i).ev x:=by
   intro x hx
   cases x with
   | tmp t=>exact hslot t (List.mem_append_left _ (List.mem_filterMap.2 ⟨.tmp t,by simpa using hx,rfl⟩))
   | _=>rfl
  have hwant:wantA ops o (accE ops st0 us (fun j=>listed.getD j false) m)=wantA ops o (accE ops st0 us (fun _=>true) i):=by
   unfold wantA
   cases hg:o.guard with
   | none=>rfl
   | some jw=>
    obtain ⟨g,want⟩:=jw
    simp only
    cases ht:dstOf ops g with
    | none=>rfl
    | some t=>
     simp only
     rw[hslot t (by
      unfold Oper.looksAt
      rw[hg]
      refine List.mem_append_right _ ?_
      simp only
      rw[show (ops[g]?).bind (·.dst)=some t from ht]
      simp)]
  have hadd:app (us i).o o.dst (us i).v (accE ops st0 us (fun j=>listed.getD j false) m)=accE ops st0 us (fun j=>(listed.setIfInBounds i true).getD j false) m:=by
   rw[←hdi,Zsc hSi m him fun j hij hj hSj=>?_]
   ·refine Zc6 _ fun j hj=>?_
    simp only[addS]
    by_cases hji:j=i
    ·subst hji;simp[hs,hlt]
    ·rw[getD_set_ne false (Ne.symm hji)];simp[hji]
   ·obtain ⟨p,hp⟩:∃p,ops[j]? =some p:=⟨ops[j]'(by omega),by simp[show j < ops.size by omega]⟩
    have hnb:¬Nat.testBit ((aheads ops.toList []).getD j 0) i=true:=fun hb=>by
     have:listed.getD i false=true:=Z6 hcld j i hSj hb
     rw[hSi] at this
     cases this
    refine ⟨fun t ht hdj=>?_,fun q hq q' hq' e=>?_⟩
    ·rcases (Z9 hok j p hp).2 i o hij ho with hb | hap
     ·exact hnb hb
     ·exact (Oper.apart_spec hap).2.1 t (by rw[←hdi];exact ht) (by simpa[dstOf,hp] using hdj)
    ·rcases hlog i j hij hj with hb | ⟨h1,_⟩
     ·exact hnb hb
     ·exact (h1 _ (hwr i o him ho q hq)).1 (by rw[e];exact hwr j p hj hp q' hq')
  have hcld':Closed ops (fun j=>(listed.setIfInBounds i true).getD j false):=by
   intro j p hp hj e he hb
   by_cases hji:j=i
   ·subst hji
    rw[ho] at hp
    cases hp
    exact getD_set_true (hpre e he hb)
   ·simp only at hj
    rw[getD_set_ne false (Ne.symm hji)] at hj
    exact getD_set_true (hcld j p hp hj e he hb)
  unfold wpOp
  simp only[ho]
  rcases hsteps i o him ho with ⟨hw,hg,hids,hop⟩ | ⟨hw,hu,hg⟩
  ·rw[if_pos (Zg7 hr (by rw[hwant];exact hw))]
   refine .inl ?_
   have hagr:agr (touE o (accE ops st0 us (fun _=>true) i)++wrE o (accE ops st0 us (fun _=>true) i)) (accE ops st0 us (fun _=>true) i) (accE ops st0 us (fun j=>listed.getD j false) m):=fun id hid=>by
    refine hfind id ?_
    rw[hg]
    rcases List.mem_append.1 hid with h | h
    ·exact .inr h
    ·exact .inl h
   rcases ZsY (P:=P) (own:=own) hdet hagr hev with hn | ⟨v,o',h0,h1,h2⟩
   ·have:=hop fun _=>some y
    rw[hn] at this
    cases this
   ·have e1:app o' o.dst v (accE ops st0 us (fun _=>true) i)=app (us i).o o.dst (us i).v (accE ops st0 us (fun _=>true) i):=by
     have:=h1 fun s=>if s=app (us i).o o.dst (us i).v (accE ops st0 us (fun _=>true) i) then some y else none
     rw[hop,if_pos rfl] at this
     exact Classical.byContradiction fun hne=>by rw[if_neg hne] at this;cases this
    have e2:=Zqs hagr (fun p hp=>List.mem_append_right _ (h0 p hp)) (fun p hp=>List.mem_append_right _ (hids p hp)) (by rw[ZhR,ZhR]) (ZhO hsort _) e1
    have h3:=h2 fun s=>if s=app (us i).o o.dst (us i).v (accE ops st0 us (fun j=>listed.getD j false) m) then some y else none
    rw[e2,if_pos rfl] at h3
    refine Oper.wp_mono (fun a' w' h'=>?_) (ZoQ (Zyn hcl hdet) h3 hr Q)
    obtain ⟨st',hr',hst'⟩:=h'
    have:st'=app (us i).o o.dst (us i).v (accE ops st0 us (fun j=>listed.getD j false) m):=Classical.byContradiction fun hne=>by rw[if_neg hne] at hst';cases hst'
    subst this
    rw[hadd] at hr'
    exact hK a' w' hcld' hr'
  ·have hwn:=Zg7 hr (by rw[hwant];exact hw)
   rw[if_neg (by rw[hwn];decide)]
   have hr':=Ziz hr o.dst
   rw[hu] at hadd
   rw[←ZwB,hadd] at hr'
   exact hK _ w hcld' hr'
 have small:∀(listed:Array Bool),listed.size=ops.size→Closed ops (fun j=>listed.getD j false)→∀i∈Region.ready .any ops listed,(∃j,j < m∧listed.getD j false=false)→i < m:=by
  intro listed hs hcld i hi ⟨j,hj,hlj⟩
  refine Nat.lt_of_not_le fun hmi=>?_
  obtain ⟨hun,o,ho,hpre⟩:=mem_ready.1 hi
  have hlt:=(Array.getElem?_eq_some_iff.1 ho).1
  obtain ⟨o2,ho2,e,he,hbnd,h⟩:=ZdL ops.toList [] i j (by simp) (htail i hmi hlt j (by omega))
  have:o2=o:=by
   simp only[List.length_nil,Nat.sub_zero,Array.getElem?_toList] at ho2
   rw[ho] at ho2
   cases ho2;rfl
  subst this
  have hon:=hpre e (by simpa using he) hbnd
  have:listed.getD j false=true:=by
   rcases h with h | ⟨_,h⟩
   ·rw[←h];exact hon
   ·exact Z6 hcld e.on j hon h
  rw[hlj] at this
  cases this
 have readyOf:∀(listed:Array Bool),listed.size=ops.size→Closed ops (fun j=>listed.getD j false)→Region.ready .any ops listed=[]→∀j,j < ops.size→listed.getD j false=true:=by
  intro listed hs hcld hr j
  induction j using Nat.strongRecOn with
  | _ j ih=>
   intro hj
   cases hl:listed.getD j false with
   | true=>rfl
   | false=>
    have:j∈Region.ready .any ops listed:=by
     rw[mem_ready]
     refine ⟨by rw[hget listed j (by omega)];exact hl,ops[j],by simp[hj],fun e he hb=>?_⟩
     have:=((Z9 hok) j ops[j] (by simp[hj])).1 e he hb
     exact ih e.on this (by omega)
    rw[hr] at this
    cases this
 intro fuel
 induction fuel with
 | zero=>
  intro listed a w hs hcld htl hcnt hr
  have hall:∀j,j < ops.size→listed.getD j false=true:=fun j hj=>by
   have:=List.countP_eq_zero.1 (Nat.le_zero.1 hcnt) j (by simp[hj])
   rw[hget listed j (by omega)] at this
   simpa using this
  refine hQ 0 listed a w hs (fun j hj=>?_) hcnt (by rw[Zc6 (T:=fun _=>true) m fun j hj=>hall j (by omega)] at hr;exact hr)
  by_cases hjm:j < m
  ·rw[hall j hj,decide_eq_true hjm]
  ·have:=htl j (by omega);rw[hall j hj] at this;cases this
 | succ fuel ih=>
  intro listed a w hs hcld htl hcnt hr
  by_cases hall:∀j,j < m→listed.getD j false=true
  ·refine hQ _ listed a w hs (fun j hj=>?_) hcnt (by rw[Zc6 (T:=fun _=>true) m hall] at hr;exact hr)
   by_cases hjm:j < m
   ·rw[hall j hjm,decide_eq_true hjm]
   ·rw[htl j (by omega),decide_eq_false hjm]
  ·have hex:∃j,j < m∧listed.getD j false=false:=by
    refine Classical.byContradiction fun hn=>hall fun j hj=>?_
    cases hl:listed.getD j false with
    | true=>rfl
    | false=>exact absurd ⟨j,hj,hl⟩ hn
   refine ⟨fun h=>?_,fun i hi=>?_⟩
   ·obtain ⟨j,hj,hl⟩:=hex
    have:=readyOf listed hs hcld h j (by omega)
    rw[hl] at this
    cases this
   have him:=small listed hs hcld i hi hex
   refine step (fun listed=>wpAny P .any ops Q fuel listed) listed a w i him hs hcld hr hi fun a' w' hc' hr'=>?_
   refine ih _ a' w' (by simpa using hs) hc' (fun j hj=>by rw[getD_set_ne false (by omega)];exact htl j hj) ?_ hr'
   obtain ⟨hun,o,ho,_⟩:=mem_ready.1 hi
   have hlt:=(Array.getElem?_eq_some_iff.1 ho).1
   have:=ZjD (p:=fun j=>!listed.getD j true) (p':=fun j=>!(listed.setIfInBounds i true).getD j true) (i:=i) (fun j hj=>by
    by_cases hji:i=j
    ·subst hji;simp[hs,hlt] at hj
    ·rw[getD_set_ne true hji] at hj;exact hj) (by simpa using hun) (by simp[hs,hlt]) (List.range ops.size) (by simp[hlt])
   omega
open Classical in
theorem Zxc {op:Oper→St→M St} (hop:∀(o:Oper) (st:St),Sat (op o st) (OpOK P Mod o st)) {m:Nat} (htail:∀j,m≤j→j < ops.size→∀i,i < j→Nat.testBit ((aheads ops.toList []).getD j 0) i=true) (hok:drawOK ops=true) {y:Ans} {k:St→Option Ans} {Q:Exit→Act→World→Prop}
  (hQ:∀st a w,Rel Mod F0 w0 st a w→k st=some y→Q .normal a w):∀(q n:Nat),n+q=ops.size→m≤n→∀(st:St) (fuel:Nat) (listed:Array Bool) (a:Act) (w:World),listed.size=ops.size→(∀j,j < ops.size→listed.getD j false=decide (j < n))→(List.range ops.size).countP (fun j=>!listed.getD j true)≤fuel→
   opsG op ops (ops.toList.drop n) st k=some y→Rel Mod F0 w0 st a w→wpAny P .any ops Q fuel listed a w:=by
 have hget:∀(listed:Array Bool) j,j < listed.size→listed.getD j true=listed.getD j false:=fun listed j hj=>by simp[hj]
 intro q
 induction q with
 | zero=>
  intro n hn hmn st fuel listed a w hs hl hcnt h hr
  have hd:ops.toList.drop n=[]:=List.drop_of_length_le (by simp;omega)
  rw[hd] at h
  have hq:Q .normal a w:=hQ st a w hr h
  have hno:∀i,i∉Region.ready .any ops listed:=fun i hi=>by
   obtain ⟨hun,o,ho,_⟩:=mem_ready.1 hi
   have hlt:=(Array.getElem?_eq_some_iff.1 ho).1
   rw[hget listed i (by omega),hl i hlt,decide_eq_true (by omega)] at hun
   cases hun
  cases fuel with
  | zero=>exact ⟨List.eq_nil_iff_forall_not_mem.2 hno,hq⟩
  | succ fuel=>exact ⟨fun _=>hq,fun i hi=>absurd hi (hno i)⟩
 | succ q ih=>
  intro n hn hmn st fuel listed a w hs hl hcnt h hr
  have hnz:n < ops.size:=by omega
  have hun:listed.getD n true=false:=by rw[hget listed n (by omega),hl n hnz,decide_eq_false (by omega)]
  have hready:n∈Region.ready .any ops listed:=by
   rw[mem_ready]
   refine ⟨hun,ops[n],by simp[hnz],fun e he hb=>?_⟩
   have:=((Z9 hok) n ops[n] (by simp[hnz])).1 e he hb
   rw[hl e.on (by omega),decide_eq_true this]
  cases fuel with
  | zero=>
   have:=List.countP_eq_zero.1 (Nat.le_zero.1 hcnt) n (by simp[hnz])
   rw[hun] at this
   simp at this
  | succ fuel=>
   refine ⟨fun he=>(by rw[he] at hready;cases hready),fun i hi=>?_⟩
   obtain ⟨huni,o,ho,hpre⟩:=mem_ready.1 hi
   have hlt:=(Array.getElem?_eq_some_iff.1 ho).1
   have hcld:Closed ops (fun j=>listed.getD j false):=by
    intro j p hp hj e he hb
    have hjz:=(Array.getElem?_eq_some_iff.1 hp).1
    simp only at hj ⊢
    rw[hl j hjz] at hj
    have hjn:=of_decide_eq_true hj
    have:=((Z9 hok) j p hp).1 e he hb
    rw[hl e.on (by omega),decide_eq_true (by omega)]
   have hin:i=n:=by
    rcases Nat.lt_trichotomy i n with hlt2 | he | hgt
    ·rw[hget listed i (by omega),hl i hlt,decide_eq_true hlt2] at huni;cases huni
    ·exact he
    ·exfalso
     obtain ⟨o2,ho2,e,he,hbnd,h5⟩:=ZdL ops.toList [] i n (by simp) (htail i (by omega) hlt n hgt)
     have:o2=o:=by
      simp only[List.length_nil,Nat.sub_zero,Array.getElem?_toList] at ho2
      rw[ho] at ho2
      cases ho2;rfl
     subst this
     have hon:=hpre e (by simpa using he) hbnd
     have:listed.getD n false=true:=by
      rcases h5 with h5 | ⟨_,h5⟩
      ·rw[←h5];exact hon
      ·exact Z6 hcld e.on n hon h5
     rw[hl n hnz,decide_eq_false (by omega)] at this
     cases this
   subst hin
   have hdr:ops.toList.drop i=o :: ops.toList.drop (i+1):=by
    have:i < ops.toList.length:=by simpa using hlt
    rw[List.drop_eq_getElem_cons this]
    congr 1
    have:=(Array.getElem?_eq_some_iff.1 ho).2
    simpa using this
   rw[hdr] at h
   refine ZvZ hop ho h hr fun st' a' w' hr' h'=>?_
   refine ih (i+1) (by omega) (by omega) st' fuel _ a' w' (by simpa using hs) (fun j hj=>?_) ?_ h' hr'
   ·by_cases hji:j=i
    ·subst hji;simp[hs,hlt]
    ·rw[getD_set_ne false (Ne.symm hji),hl j hj]
     by_cases hjl:j < i
     ·rw[decide_eq_true hjl,decide_eq_true (by omega)]
     ·rw[decide_eq_false hjl,decide_eq_false (by omega)]
   ·have:=ZjD (p:=fun j=>!listed.getD j true) (p':=fun j=>!(listed.setIfInBounds i true).getD j true) (i:=i) (fun j hj=>by
     by_cases hji:i=j
     ·subst hji;simp[hs,hlt] at hj
     ·rw[getD_set_ne true hji] at hj;exact hj) (by simpa using huni) (by simp[hs,hlt]) (List.range ops.size) (by simp[hlt])
    omega
theorem ZwP (hcl:Spec P cl) (hdet:DetC cl) {id:Nat} {y:Ans} {k:St→Option Ans} {Q:Exit→Act→World→Prop} (hQ:∀st a w,Rel Mod F0 w0 st a w→k st=some y→Q .normal a w)
  (hm:P.follows .mixedOrders=true) (hok:drawOK ops=true) {st:St} {a:Act} {w:World} (h:runO P own cl ops st k=some y) (hr:Rel Mod F0 w0 st a w):(Code.region id ops true).wp P Q a w:=by
 unfold runO at h
 obtain ⟨us,gs,st',hc,l1,l2,hk⟩:=Zl7 hdet (ops.toList.take (cutAt ops ops.size)) st [] h
 rw[List.nil_append] at hk
 simp only at hk
 cases hb:(sortedB st.ob&&(okLogN ops (cutAt ops ops.size) gs&&afterAll ops (cutAt ops ops.size))) with
 | false=>rw[hb] at hk;cases hk
 | true=>
  rw[hb] at hk
  simp only[Bool.and_eq_true] at hb
  have hmz:cutAt ops ops.size≤ops.size:=Zvo _
  have htail:∀j,cutAt ops ops.size≤j→j < ops.size→∀i,i < j→Nat.testBit ((aheads ops.toList []).getD j 0) i=true:=fun j hj hjz i hi=>by
   have h1:=List.all_eq_true.1 hb.2.2 j (by simp[hjz])
   rw[Bool.or_eq_true] at h1
   rcases h1 with h1 | h1
   ·rw[Nat.blt_eq] at h1;omega
   ·exact List.all_eq_true.1 h1 i (by simp[hi])
  have hk':opsG (opY P own cl) ops (ops.toList.drop (cutAt ops ops.size)) st' k=some y:=hk
  obtain ⟨h1,h2⟩:=Zm0 (st0:=st) (us0:=us) (gs0:=gs) hmz (ops.toList.take (cutAt ops ops.size)) 0 us gs st st' (Nat.zero_le _) rfl rfl rfl hc rfl
  subst h1
  refine wp_region_any hm (ZxS (own:=own) (y:=y) (gs:=fun j=>gs.getD j ([],[])) hcl hdet hmz htail (fun fuel listed a w hs hl hcnt hr'=>Zxc (fun o st=>ZwA (own:=own) hcl) htail hok hQ _ _ (by omega:cutAt ops ops.size+(ops.size - cutAt ops ops.size)=ops.size) (Nat.le_refl _) _ fuel listed a w hs hl hcnt hk' hr') hok hb.1 (fun i j hij hj=>ZuG hb.2.1 hij hj) (fun j o hj ho=>h2 j o (Nat.zero_le _) hj ho) ⟨y,trivial⟩ ops.size (Array.replicate ops.size false) a _ (by simp) ?_ (fun j _=>?_) (Nat.le_trans List.countP_le_length (by simp)) ?_)
  ·intro j o ho hj
   by_cases hlt:j < ops.size <;> simp[hlt] at hj
  ·by_cases hlt:j < ops.size <;> simp[hlt]
  ·have:accE ops st (fun j=>us.getD j ⟨.top,[]⟩) (fun j=>(Array.replicate ops.size false).getD j false) (cutAt ops ops.size)=st:=by
    have:∀n,accE ops st (fun j=>us.getD j ⟨.top,[]⟩) (fun j=>(Array.replicate ops.size false).getD j false) n=st:=by
     intro n
     induction n with
     | zero=>rfl
     | succ n ih=>
      unfold accE
      rw[if_neg,ih]
      by_cases hlt:n < ops.size <;> simp[hlt]
    exact this _
   rw[this]
   obtain ⟨hd,F,ρ,hR,hE⟩:=hr
   have hE':Evo (fun _=>False) F w F { w with drawn:=w.drawn+1 } :=⟨rfl,rfl,rfl,Nat.le_refl _,fun _ h=>h,fun _ h=>.inl h,fun _ _ _=>rfl⟩
   obtain ⟨hR',hE2⟩:=hR.world hE' (fun _ h=>h.elim) (fun _ _ h=>h) hR.low
   exact ⟨hd,F,ρ,hR',hE.trans hE2⟩
end
end Go.Ev
end

section
namespace Go.Ev
variable [Tabs] [Orgs]
open Go
section
variable {P:Program} {Mod F0:Nat→Prop} {w0:World} {cl:Cl} {tb:Tb} {y:Ans} {ps:List (Nat×(Lt→Kt))}
def Good (Mod F0:Nat→Prop) (w0:World) (y:Ans) (ps:List (Nat×(Lt→Kt))) (n:Nat) (k:Lt→Kt) (a:Act) (w:World):Prop:=
 ∃m st,m≤n∧Rel Mod F0 w0 st a w∧k (Ls ps m) st=some y
def QC (Mod F0:Nat→Prop) (w0:World) (y:Ans) (ps:List (Nat×(Lt→Kt))) (n:Nat) (k:Lt→Kt) (x:Lt→Nat→Kt) (r:Lt→Kt):Exit→Act→World→Prop
 |.normal,a,w=>Good Mod F0 w0 y ps n k a w
 |.exit j,a,w=>Good Mod F0 w0 y ps n (fun L=>x L j) a w
 |.ret,a,w=>Good Mod F0 w0 y ps n r a w
 | _,_,_=>False
theorem Good.le {n n':Nat} (h:n≤n') {k:Lt→Kt} {a:Act} {w:World} (hg:Good Mod F0 w0 y ps n k a w):Good Mod F0 w0 y ps n' k a w:=
 let ⟨m,st,hm,hr⟩:=hg;⟨m,st,Nat.le_trans hm h,hr⟩
theorem QC.le {n n':Nat} (h:n≤n') {k:Lt→Kt} {x:Lt→Nat→Kt} {r:Lt→Kt} :∀e a w,QC Mod F0 w0 y ps n k x r e a w→QC Mod F0 w0 y ps n' k x r e a w
 |.normal,_,_,hg=>Good.le h hg
 |.exit j,_,_,hg=>Good.le h (k:=fun L=>x L j) hg
 |.ret,_,_,hg=>Good.le h hg
 |.goto _,_,_,hg=>hg
 |.panic _,_,_,hg=>hg
 |.outgrown,_,_,hg=>hg
theorem ZmL {p:Nat→Prop} :∀n,p n→∃m,p m∧∀j,p j→m≤j:=by
 intro n
 induction n using Nat.strongRecOn with
 | _ n ih=>
  intro hn
  by_cases h:∃m,m < n∧p m
  ·obtain ⟨m,hm,hp⟩:=h
   exact ih m hm hp
  ·exact ⟨n,hn,fun j hj=>Nat.le_of_not_lt fun hlt=>h ⟨j,hlt,hj⟩⟩
open Classical in
noncomputable def least (p:Nat→Prop):Nat:=if h:∃n,p n then Classical.choose (let ⟨n,hn⟩:=h;ZmL n hn) else 0
theorem Zqp {p:Nat→Prop} {n:Nat} (h:p n):p (least p)∧∀j,p j→least p≤j:=by
 have he:∃n,p n:=⟨n,h⟩
 unfold least
 rw[dif_pos he]
 exact Classical.choose_spec (let ⟨n,hn⟩:=he;ZmL n hn)
theorem Zw8 {c:Operand} {st:St} {a:Act} {w:World} {k:Bool→Option Ans} (hr:Rel Mod F0 w0 st a w) (h:M.bind (toB (st.ev c)) branch k=some y):∃t,a.eval c=.bool t∧k t=some y:=by
 obtain ⟨t,hb,h⟩:=(Sat.bind (q:=fun t=>st.ev c=.d .bool t) Sat.toB (fun b hb=>Sat.mono Sat.branch (fun t ht=>by rw[ht];exact hb))) k y h
 obtain ⟨_,F,ρ,hR,_⟩:=hr
 have:=Zt hR c
 rw[hb] at this
 exact ⟨t,Zcq this,h⟩
theorem Zwh {n i:Nat} {st:St} (h:Ls ps n i st=some y):∃m,n=m+1∧procOf ps i (Ls ps m) st=some y:=by
 cases n with
 | zero=>cases h
 | succ m=>exact ⟨m,rfl,h⟩
def Has (ps:List (Nat×(Lt→Kt))) (qs:List (Nat×(Lt→Kt))):Prop:=∀j p,(j,p)∈qs→∀L st,procOf ps j L st=p L st
theorem Has.left {qs rs:List (Nat×(Lt→Kt))} (h:Has ps (qs++rs)):Has ps qs:=fun j p hj=>h j p (by simp[hj])
theorem Has.right {qs rs:List (Nat×(Lt→Kt))} (h:Has ps (qs++rs)):Has ps rs:=fun j p hj=>h j p (by simp[hj])
theorem ZcB (hcl:Spec P cl) (hdet:DetC cl):∀(c:Code) (i:Nat) (k:Lt→Kt) (x:Lt→Nat→Kt) (r:Lt→Kt),Has ps (procs P cl tb c i k x r)→
  ∀(n:Nat) (st:St) (a:Act) (w:World),evC P cl tb (Ls ps n) c i (k (Ls ps n)) (x (Ls ps n)) (r (Ls ps n)) st=some y→Rel Mod F0 w0 st a w→c.wp P (QC Mod F0 w0 y ps n k x r) a w
 |.skip,i,k,x,r,_,n,st,a,w,h,hr=>wp_skip ⟨n,st,Nat.le_refl _,hr,h⟩
 |.region id ops draw,i,k,x,r,_,n,st,a,w,h,hr=>by
  cases draw with
  | true=>
   simp only[evC,cond_true] at h
   cases hc:(P.follows .mixedOrders&&drawOK ops) with
   | false=>rw[hc] at h;cases h
   | true=>
    rw[hc] at h
    rw[Bool.and_eq_true] at hc
    simp only[cond_true] at h
    cases hD:ops.toList.all (isD P) with
    | true=>
     rw[hD] at h
     exact Zxs hcl hdet (fun st a w hr hk=>⟨n,st,Nat.le_refl _,hr,hk⟩) hc.1 hc.2 h hr
    | false=>
     rw[hD] at h
     cases hl:labOf tb ownK with
     | none=>
      rw[hl] at h
      exact Zwu hcl hdet (fun st a w hr hk=>⟨n,st,Nat.le_refl _,hr,hk⟩) hc.1 hc.2 h hr
     | some lab=>
      rw[hl] at h
      exact ZwP (own:=ownOf lab.live) hcl hdet (fun st a w hr hk=>⟨n,st,Nat.le_refl _,hr,hk⟩) hc.1 hc.2 h hr
  | false=>
   refine wp_region ?_
   cases hl:labOf tb ownK with
   | none=>
    have h':opsA P cl ops ops.toList st (k (Ls ps n))=some y:=by simpa[evC,hl] using h
    have:=Zxj (Q:=QC Mod F0 w0 y ps n k x r) hcl (fun st a w hr hk=>⟨n,st,Nat.le_refl _,hr,hk⟩) ops.toList 0 st a w rfl h' hr
    simpa[List.range_eq_range'] using this
   | some lab=>
    have h':opsH (opY P (ownOf lab.live) cl) (fuse3 P cl) ops ops.toList st (k (Ls ps n))=some y:=by simpa[evC,hl] using h
    have:=Zxo (Mod:=Mod) (Q:=QC Mod F0 w0 y ps n k x r) (own:=ownOf lab.live) hcl hdet (fun st a w hr hk=>⟨n,st,Nat.le_refl _,hr,hk⟩) ops.toList 0 st a w rfl h' hr
    simpa[List.range_eq_range'] using this
 |.seq a b,i,k,x,r,hps,n,st,ac,w,h,hr=>by
  refine wp_seq ?_
  cases hl:labOf tb i with
  | none=>
   simp only[procs,hl,List.nil_append] at hps
   simp only[evC,hl] at h
   refine wp_mono (ZcB hcl hdet a (i+1) (fun L=>evC P cl tb L b (i+1+nn a) (k L) (x L) (r L)) x r hps.left n st ac w h hr) fun e a' w' he=>?_
   cases e with
   | normal=>
    obtain ⟨m,st',hm,hr',hk⟩:=he
    exact wp_mono (ZcB hcl hdet b (i+1+nn a) k x r hps.right m st' a' w' hk hr') (QC.le hm)
   | _=>exact he
  | some lab=>
   simp only[procs,hl] at hps
   simp only[evC,hl] at h
   refine wp_mono (ZcB hcl hdet a (i+1) (fun L st=>L i (normL P lab st)) x r hps.left.right n st ac w h hr) fun e a' w' he=>?_
   cases e with
   | normal=>
    obtain ⟨m,st',hm,hr',hk⟩:=he
    obtain ⟨m',rfl,hk⟩:=Zwh hk
    have hk:procOf ps i (Ls ps m') (normL P lab st')=some y:=hk
    rw[hps.left.left i _ (List.mem_singleton.2 rfl)] at hk
    exact wp_mono (ZcB hcl hdet b (i+1+nn a) k x r hps.right m' _ a' w' hk (ZnY hr')) (QC.le (by omega))
   | _=>exact he
 |.cond c a b,i,k,x,r,hps,n,st,ac,w,h,hr=>by
  simp only[procs] at hps
  simp only[evC] at h
  obtain ⟨t,ht,h⟩:=Zw8 hr h
  refine wp_cond ht ?_
  cases t with
  | true=>exact ZcB hcl hdet a i k x r hps.left n st ac w h hr
  | false=>exact ZcB hcl hdet b (i+nn a) k x r hps.right n st ac w h hr
 |.block id c,i,k,x,r,hps,n,st,a,w,h,hr=>by
  simp only[procs] at hps
  simp only[evC] at h
  refine wp_block (wp_mono (ZcB hcl hdet c i k _ r hps n st a w h hr) fun e a' w' he=>?_)
  cases e with
  | exit j=>
   obtain ⟨m,st',hm,hr',hk⟩:=he
   simp only[Exit.inBlock]
   split
   ·rename_i hj
    subst hj
    simp only[Nat.beq_refl,cond_true] at hk
    exact ⟨m,st',hm,hr',hk⟩
   ·rename_i hj
    simp only[Zg4 hj,cond_false] at hk
    exact ⟨m,st',hm,hr',hk⟩
  | _=>exact he
 |.loop c,i,k,x,r,hps,n,st,a,w,h,hr=>by
  cases hl:labOf tb i with
  | none=>simp[evC,hl] at h
  | some lab=>
   simp only[procs,hl] at hps
   simp only[evC,hl] at h
   have hbody:∀m st,Ls ps m i st=some y→∃m',m=m'+1∧evC P cl tb (Ls ps m') c (i+1) (fun st=>Ls ps m' i (normL P lab st)) (x (Ls ps m')) (r (Ls ps m')) st=some y:=by
    intro m st hm
    obtain ⟨m',rfl,hk⟩:=Zwh hm
    rw[hps i _ (List.mem_cons_self ..)] at hk
    exact ⟨m',rfl,hk⟩
   let B:Act→World→Nat→Prop:=fun a w m=>∃st,m≤n∧Rel Mod F0 w0 st a w∧evC P cl tb (Ls ps m) c (i+1) (fun st=>Ls ps m i (normL P lab st)) (x (Ls ps m)) (r (Ls ps m)) st=some y
   obtain ⟨n',hn',hb1⟩:=hbody n _ h
   refine wp_loop (fun a w=>∃m,B a w m) (fun a w=>least (B a w)) ⟨n',_,by omega,ZnY hr,hb1⟩ fun a w ⟨m0,hm0⟩=>?_
   obtain ⟨hB,hmin⟩:=Zqp hm0
   obtain ⟨st1,hle,hr1,h1⟩:=hB
   refine wp_mono (ZcB hcl hdet c (i+1) (fun L st=>L i (normL P lab st)) x r (fun j p hj=>hps j p (by simp[hj])) (least (B a w)) st1 a w h1 hr1) fun e a' w' he=>?_
   cases e with
   | normal=>
    obtain ⟨m,st',hm,hr',hk⟩:=he
    obtain ⟨m',hm',hk1⟩:=hbody m _ hk
    have hB':B a' w' m':=⟨_,by omega,ZnY hr',hk1⟩
    exact ⟨⟨m',hB'⟩,by have:=(Zqp hB').2 m' hB';omega⟩
   | exit j=>exact QC.le hle (.exit j) a' w' he
   | ret=>exact QC.le hle .ret a' w' he
   | _=>exact he
 |.exit id,i,k,x,r,_,n,st,a,w,h,hr=>wp_exit ⟨n,st,Nat.le_refl _,hr,h⟩
 |.ret,i,k,x,r,_,n,st,a,w,h,hr=>wp_ret ⟨n,st,Nat.le_refl _,hr,h⟩
 |.rangeFunc _ _ _ _,_,_,_,_,_,_,_,_,_,h,_=>by simp[evC] at h
 |.scope _,_,_,_,_,_,_,_,_,_,h,_=>by simp[evC] at h
 |.label _,_,_,_,_,_,_,_,_,_,h,_=>by simp[evC] at h
 |.goto _,_,_,_,_,_,_,_,_,_,h,_=>by simp[evC] at h
theorem Zyj (h:nodupB (ps.map (·.1))=true):Has ps ps:=by
 intro j p hj L st
 have hn:=ZdW h
 clear h
 induction ps with
 | nil=>cases hj
 | cons q r ih=>
  obtain ⟨j',p'⟩:=q
  simp only[List.map_cons,List.nodup_cons] at hn
  unfold procOf
  rcases List.mem_cons.1 hj with e | hj
  ·cases e
   rw[Nat.beq_refl];rfl
  ·have hne:j'≠j:=fun e=>hn.1 (by subst e;exact List.mem_map.2 ⟨(j',p),hj,rfl⟩)
   rw[Zg4 hne]
   exact ih hj hn.2
end
end Go.Ev
end

section
namespace Go.Ev
variable [Tabs] [Orgs]
open Go
section
variable {P:Program} {Mod F:Nat→Prop} {ρ:Rho} {w:World} {st:St} {cl:Cl} {tb:Tb}
theorem ZtR:∀(xs:List AV) (i:Nat) (st:St) (ρ:Rho) (ys:List AV) (vs:List Value) (st':St) (L:List Nat),initA st i xs=some (ys,st')→R Mod F ρ w st #[]→TReps F w xs vs L→Fr Mod F ρ w st L→(∀k v,vs[k]? =some v→v=Orgs.org (i+k))→
  ∃ρ',R Mod F ρ' w st' #[]∧CsRep F ρ' w st' ys vs∧Came st ρ st' ρ' L
 | [],j,st,ρ,ys,vs,st',L,h,hR,hT,hF,_=>by
  simp only[initA,Option.some.injEq,Prod.mk.injEq] at h
  obtain ⟨rfl,rfl⟩:=h
  cases hT
  exact ⟨ρ,hR,.nil,Came.refl⟩
 | x :: xs,j,st,ρ,ys,vs,st',L,h,hR,hT,hF,hv=>by
  simp only[initA] at h
  obtain ⟨⟨y,st1⟩,h1,h⟩:=Option.bind_eq_some_iff.1 h
  obtain ⟨⟨zs,st2⟩,h2,h⟩:=Option.map_eq_some_iff.1 h
  simp only[Prod.mk.injEq] at h
  obtain ⟨rfl,rfl⟩:=h
  obtain ⟨v,us,L1,L2,rfl,rfl,t1,t2⟩:=hT.split
  obtain ⟨ρ1,r1,a1,c1⟩:=Zxb h1 hR t1 hF.left (hv 0 v rfl)
  obtain ⟨ρ2,r2,a2,c2⟩:=ZtR xs (j+1) st1 ρ1 zs us st2 L2 h2 r1 t2 (hF.right c1) (fun k v hk=>by rw[show j+1+k=j+(k+1) by omega];exact hv (k+1) v (by simpa using hk))
  exact ⟨ρ2,r2,.cons (a1.mono (Keeps.refl _ _) c2.ref) a2,c1.trans c2 (fun b hb=>by simp[hb]) (fun b hb=>by simp[hb])⟩
def resM (tm:Array Value):ResultVar→Sem Value
 |.tmp t=>pure (tm.getD t undef)
 |.cell a t=>do loadVar t (←asAddr (tm.getD a undef))
theorem ZvW {fn:Func} {tm:Array Value} :results fn tm=(do
  let vs ←fn.results.mapM (resM tm)
  pure (if h:vs.size=1 then vs[0] else .tuple vs)):=by
 unfold results
 congr 1
theorem Zxf {tm:Array Value} (hR:R Mod F ρ w st tm) {r:ResultVar} {x:AV} (h:resA P st r=some x):
  ∃v,(resM tm r).run P w=.ok v w∧ARep F ρ w st x v:=by
 have hev:∀t,ARep F ρ w st (st.tm.getD t .top) (tm.getD t undef):=fun t=>by
  rw[List.getD_eq_getElem?_getD,Array.getD_eq_getD_getElem?]
  cases h:st.tm[t]? with
  | none=>exact .top _
  | some y=>
   obtain ⟨v,hv,ha⟩:=hR.tms t y h
   rw[hv]
   exact ha
 cases r with
 | tmp t=>
  simp only[resA,Option.some.injEq] at h
  subst h
  exact ⟨_,by simp[resM],hev t⟩
 | cell a T=>
  simp only[resA] at h
  split at h
  ·rename_i cs z hb ha hz
   split at h
   ·rename_i hle
    cases h
    obtain ⟨ad,vs,hv,hcs,hat⟩:=ZjZ hR hb (hev a)
    have hle':z≤vs.length:=by rw[←hcs.1];exact hle
    have hl:(vs.take z).length=z:=by simp[Nat.min_eq_left hle']
    have hload:=run_loadCells_list (P:=P) w ad (vs.take z) (fun j u hu=>hat j u (by
     rw[List.getElem?_take] at hu
     split at hu
     ·exact hu
     ·cases hu))
    rw[hl] at hload
    refine ⟨.agg (vs.take z).toArray,?_,.ag _ _ (by simp[hl,hcs.1,Nat.min_eq_left hle']) fun i c u h1 h2=>(hcs.take z).2 i c u h1 (by simpa using h2)⟩
    simp[resM,hv,asAddr,loadVar,Zg1 ha,ZP hz,hload]
   ·cases h
  ·rename_i cs z hb ha hz
   obtain ⟨ad,vs,hv,hcs,hat⟩:=ZjZ hR hb (hev a)
   have hlt:0 < vs.length:=by rw[←hcs.1];exact (List.getElem?_eq_some_iff.1 h).1
   have h0:=hat 0 vs[0] (by simp[hlt])
   have e0:ad.add 0=ad:=by simp[Addr.add]
   rw[e0] at h0
   refine ⟨vs[0],?_,hcs.2 0 x _ h (by simp[hlt])⟩
   simp[resM,hv,asAddr,loadVar,Zg1 ha,load,Sem.run,h0]
  ·cases h
theorem Zqu {tm:Array Value} (hR:R Mod F ρ w st tm):∀(rs:List ResultVar) (xs:List AV),resAll P st rs=some xs→
  ∃vs,(rs.mapM (resM tm)).run P w=.ok vs w∧CsRep F ρ w st xs vs
 | [],xs,h=>by
  simp only[resAll,Option.some.injEq] at h
  subst h
  exact ⟨[],by simp,.nil⟩
 | r :: rs,xs,h=>by
  simp only[resAll] at h
  obtain ⟨x,h1,h⟩:=Option.bind_eq_some_iff.1 h
  obtain ⟨ys,h2,rfl⟩:=Option.map_eq_some_iff.1 h
  obtain ⟨v,hv,ha⟩:=Zxf (P:=P) hR h1
  obtain ⟨vs,hvs,hc⟩:=Zqu hR rs ys h2
  refine ⟨v :: vs,?_,.cons ha hc⟩
  rw[List.mapM_cons]
  simp only[Sem.run_bind,hv,hvs,Result.andThen_ok,Sem.run_pure]
theorem TReps.fix {F:Nat→Prop} {w:World} {hints:List (Id×TypeId)} :∀(n:Nat) {xs:List AV} {vs:List Value} {L:List Nat},TReps F w xs vs L→∀(id:Id) (j:Nat),TReps F w (fixCs (fixA P hints n) id j xs) vs L
 | 0,_,_,_,h,id,j=>by
  have:∀(xs:List AV) (j:Nat),fixCs (fixA P hints 0) id j xs=xs:=by
   intro xs
   induction xs with
   | nil=>intro j;rfl
   | cons x r ih=>intro j;simp only[fixCs,ih];rfl
  rw[this]
  exact h
 | n+1,_,_,_,h,id,j=>by
  induction h generalizing id j with
  | nil=>exact .nil
  | top h ih=>exact .top (ih id (j+1))
  | @flat x v r vs L hx ha h ih=>
   have other:∀y,y=x→TReps F w (y :: fixCs (fixA P hints (n+1)) id (j+1) r) (v :: vs) L:=fun y e=>by subst e;exact .flat hx ha (ih id (j+1))
   cases x with
   | nil=>
    have hv:v=.slice none 0 0:=by cases ha;rfl
    subst hv
    simp only[fixCs,fixA]
    split
    ·cases Nat.beq _ 1 with
     | true=>
      simp only[cond_true]
      unfold nilData
      split
      ·exact .flat rfl (.d _ _ _ ⟨none,0,rfl,Nat.le_refl _,fun i x hx=>by simp at hx⟩) (ih id (j+1))
      ·exact .flat rfl ha (ih id (j+1))
     | false=>
      simp only[cond_false]
      unfold nilRow
      split
      ·rename_i E t _ _
       exact TReps.rw (E:=E) (t:=t) (l:=[]) (v:=.slice none 0 0) ⟨[],⟨by simp,.inl ⟨rfl,rfl⟩⟩,fun i x hx=>by simp at hx⟩ (ih id (j+1))
      ·exact .flat rfl ha (ih id (j+1))
    ·exact .flat rfl ha (ih id (j+1))
   | ag cs=>cases hx
   | tu cs=>cases hx
   | _=>exact other _ rfl
  | ag h1 h2 ih1 ih2=>exact .ag (TReps.fix n h1 _ 0) (ih2 id (j+1))
  | tu h1 h2 ih1 ih2=>exact .tu (TReps.fix n h1 _ 0) (ih2 id (j+1))
  | bx hb h1 h2 ih1 ih2=>exact .bx hb h1 (ih2 id (j+1))
  | rw h1 h2 ih=>exact .rw h1 (ih id (j+1))
  | mv h1 h2 ih=>exact .mv h1 (ih id (j+1))
  | dw h1 h2 h3 h4 ih=>exact .dw h1 h2 h3 (ih id (j+1))
theorem TReps.fixOne {F:Nat→Prop} {w:World} {x:AV} {v:Value} {L:List Nat} (h:TReps F w [x] [v] L):TReps F w [(match labOf tb hintK with | some lab=>fixA P lab.hints 6 (childId 0 0) x | none=>x)] [v] L:=by
 split
 ·exact TReps.fix 6 h 0 0
 ·exact h
theorem TReps.join {F:Nat→Prop} {w:World} {x:AV} {v:Value} {xs:List AV} {vs:List Value} {L1 L2:List Nat} (h1:TReps F w [x] [v] L1) (h2:TReps F w xs vs L2):TReps F w (x :: xs) (v :: vs) (L1++L2):=by
 cases h1 with
 | top h=>cases h;exact .top h2
 | flat hx ha h=>cases h;exact .flat hx ha h2
 | ag h h'=>cases h';rw[List.append_nil];exact .ag h h2
 | tu h h'=>cases h';rw[List.append_nil];exact .tu h h2
 | bx hb h h'=>cases h';rw[List.append_nil,List.cons_append];exact .bx hb h h2
 | rw h h'=>cases h';rw[List.append_nil];exact .rw h h2
 | mv h h'=>cases h';rw[List.append_nil];exact .mv h h2
 | dw h1 h3 h4 h'=>cases h';rw[List.append_nil];exact .dw h1 h3 h4 h2
theorem Zte {tm:Array Value} (hR:R Mod F ρ w st tm):∀(args:List AV) (j:Nat) (vals:List Value) (os:List AV) (ids:List Id),outsG st j args=some (os,ids)→args.length=vals.length→
  (∀k v,vals[k]? =some v→v=Orgs.org (j+k))→TReps F w os vals (blocks ρ ids)∧∀id∈ids,∃ver o,find id st.ob=some (ver,o)∧o.free=true
 | [],j,vals,os,ids,h,hl,_=>by
  simp only[outsG,Option.some.injEq,Prod.mk.injEq] at h
  obtain ⟨rfl,rfl⟩:=h
  have:vals=[]:=List.eq_nil_of_length_eq_zero hl.symm
  subst this
  exact ⟨.nil,fun id hi=>by simp at hi⟩
 | a :: r,j,v :: vals,os,ids,h,hl,hv=>by
  simp only[outsG] at h
  obtain ⟨⟨os1,ids1⟩,h1,h⟩:=Option.bind_eq_some_iff.1 h
  obtain ⟨t1,k1⟩:=Zte hR r (j+1) vals os1 ids1 h1 (by simpa using hl) (fun k u hk=>by rw[show j+1+k=j+(k+1) by omega];exact hv (k+1) u (by simpa using hk))
  have htop:∀ {os' ids'},some (AV.top :: os1,ids1)=some (os',ids')→TReps F w os' (v :: vals) (blocks ρ ids')∧∀id∈ids',∃ver o,find id st.ob=some (ver,o)∧o.free=true:=fun e=>by
   simp only[Option.some.injEq,Prod.mk.injEq] at e
   obtain ⟨rfl,rfl⟩:=e
   exact ⟨.top t1,k1⟩
  simp only at h
  split at h
  ·split at h
   ·rename_i id ver ht
    split at h
    ·rename_i T cs k ho
     cases hjk:Nat.beq j k with
     | false=>rw[hjk] at h;cases h
     | true=>
      rw[hjk] at h
      simp only[cond_true] at h
      obtain ⟨⟨o,is,i⟩,hg,h⟩:=Option.map_eq_some_iff.1 h
      simp only[Prod.mk.injEq] at h
      obtain ⟨rfl,rfl⟩:=h
      have hjk:=Nat.eq_of_beq_eq_true hjk
      subst hjk
      obtain ⟨htg,b,arr,hρ,hh,hsz,hc⟩:=hR.obs id ver _ (Zw.1 ho)
      have hvv:v=ρ id:=(hv 0 v rfl).trans (htg j rfl).symm
      have hx:ARep F ρ w st (.pt id ver 0) v:=.pt _ _ _ _ ⟨ver,_,Zw.1 ho,Nat.le_refl _⟩ (by rw[hvv,hρ];rfl) fun _ _=>⟨b,hρ,by rw[hvv,hρ]⟩
      obtain ⟨hT,hok⟩:=ZjS hR (fun _ h=>h) 6 true _ _ o is i hg (.inl rfl) hx
      refine ⟨?_,fun id' hi=>?_⟩
      ·have:=hT.join t1
       unfold blocks at this ⊢
       rw[List.flatMap_append]
       exact this
      ·rcases List.mem_append.1 hi with hi | hi
       ·exact hok.1 id' hi
       ·exact k1 id' hi
    ·cases h
   ·exact htop h
  ·exact htop h
theorem Zw6 {fn:Func} {args:List AV} {vals:List Value} {tm:Array Value} {w0:World} {L:List Nat} {ans:Ans} (hR:R Mod F ρ w st tm) (hMod:∀b,Mod b→ModC L w0 b) (hl:args.length=vals.length) (hv:∀k v,vals[k]? =some v→v=Orgs.org (0+k)) (h:finA P tb fn args st=some ans):
  ∃F2 v Lr Lo,Evo Mod F w F2 w∧(∀b,F2 b→b < w.heap.size)∧(results fn tm).run P w=.ok v w∧TReps F2 w [ans.1] [v] Lr∧TReps F2 w ans.2 vals Lo∧(Lr++Lo).Nodup∧∀b∈Lr++Lo,¬F2 b∧ModC L w0 b∧b < w.heap.size:=by
 unfold finA at h
 split at h
 ·cases h
 rename_i xs hxs
 split at h
 ·rename_i y is ids hg
  split at h
  case h_2=>cases h
  rename_i os oi hog
  cases hnd:nodupB (ids++oi) with
  | false=>rw[hnd] at h;cases h
  | true=>
   rw[hnd] at h
   simp only[cond_true,Option.some.injEq] at h
   subst h
   obtain ⟨vs,hvs,hc⟩:=Zqu (P:=P) hR _ _ hxs
   have hres:(results fn tm).run P w=.ok (if h:vs.length=1 then vs[0] else .tuple vs.toArray) w:=by
    rw[ZvW,Array.mapM_eq_mapM_toList]
    simp only[Sem.run_bind,Sem.run_map,hvs,Result.andThen_ok,Sem.run_pure]
    simp
   have hx:ARep F ρ w st (oneOrAll xs) (if h:vs.length=1 then vs[0] else .tuple vs.toArray):=by
    by_cases h1:vs.length=1
    ·rw[dif_pos h1]
     clear hvs hres
     obtain ⟨v,rfl⟩:∃v,vs=[v]:=List.length_eq_one_iff.1 h1
     obtain ⟨x,rfl⟩:∃x,xs=[x]:=List.length_eq_one_iff.1 hc.1
     exact hc.2 0 x v rfl rfl
    ·rw[dif_neg h1]
     have:oneOrAll xs=.tu xs:=by
      match xs,hc.1 with
      | [],_=>rfl
      | [x],e=>exact absurd e.symm h1
      | _ :: _ :: _,_=>rfl
     rw[this]
     exact .tu _ _ (by simpa using hc.1) fun i c u h1 h2=>hc.2 i c u h1 (by simpa using h2)
   have hlow:=hR.low
   obtain ⟨F2,hR,hE,href⟩:∃F2,R Mod F2 ρ w (lockRes tb (oneOrAll xs) st) tm∧Evo Mod F w F2 w∧Ref st ρ (lockRes tb (oneOrAll xs) st) ρ:=by
    unfold lockRes
    split
    ·obtain ⟨F2,h1,h2,h3,_⟩:=ZbO _ hR
     exact ⟨F2,h1,h2,h3⟩
    ·exact ⟨F,hR,Evo.refl _ _ _,Ref.refl⟩
   have hx:=hx.mono (hE.keeps hlow) href
   obtain ⟨hT,hok⟩:=ZjS hR (fun _ h=>h) 6 true _ _ y is ids hg (.inl rfl) hx
   obtain ⟨hTo,hoko⟩:=Zte hR args 0 vals os oi hog hl hv
   have hall:∀id∈ids++oi,∃ver o,find id (lockRes tb (oneOrAll xs) st).ob=some (ver,o)∧o.free=true:=fun id hi=>(List.mem_append.1 hi).elim (hok.1 id) (hoko id)
   have hbl:blocks ρ ids++blocks ρ oi=blocks ρ (ids++oi):=by unfold blocks;rw[List.flatMap_append]
   refine ⟨F2,_,_,_,hE,hR.low,hres,TReps.fixOne hT,hTo,by rw[hbl];exact Zeu hR (ZdW hnd) hall,fun b hb=>?_⟩
   rw[hbl] at hb
   obtain ⟨id,hid,hbi⟩:=Zfb.1 hb
   obtain ⟨ver,o,hf,hfr⟩:=hall id hid
   obtain ⟨s1,s2,s3,_⟩:=hR.sep _ _ _ _ hf hfr hbi
   exact ⟨s1,hMod b s2,s3⟩
 ·cases h
omit [Orgs] in
theorem Zlu (hcl:Spec P cl) (hdet:DetC cl) {f:FuncId} {fn:Func} {c:Code} {args:List AV} {n:Nat} {ans:Ans} (hf:P.funcs[f]? =some fn) (hb:fn.body=some c)
  (hnd:nodupB ((procsF P cl tb fn c args).map (·.1))=true) (h:evF P cl tb fn n args=some ans):CallOK P f args ans:=by
 refine ⟨?_,fun r e=>by
  subst e
  unfold evF at h
  rw[hb] at h
  simp only[entryA] at h
  have:initA ⟨[],[]⟩ 0 (.pt 0 0 1 :: r)=none:=rfl
  rw[this] at h
  cases h⟩
 intro F w vals L hT hL hLF hlow htab
 letI:Orgs:=⟨fun j=>vals.getD j undef⟩
 have hvo:∀k v,vals[k]? =some v→v=Orgs.org (0+k):=fun k v hk=>by
  rw[Nat.zero_add]
  show v=vals.getD k undef
  rw[List.getD_eq_getElem?_getD,hk];rfl
 refine calls_of_wp hf hb ?_
 unfold evF at h
 rw[hb] at h
 simp only[entryA] at h
 have hlen:=hT.length
 have hR0:R (ModC L w) F ρ0 w ⟨[],[]⟩ #[]:=⟨rfl,fun i x hx=>by simp at hx,fun id ver o hf=>by simp[find] at hf,fun id ver o b hf=>by simp[find] at hf,fun id ver E t l hf=>by simp[find] at hf,hlow,fun b hb=>.inr hb,htab⟩
 have hF0:Fr (ModC L w) F ρ0 w ⟨[],[]⟩ L:=⟨hL,fun b hb=>⟨(hLF b hb).1,.inl hb,(hLF b hb).2,fun ⟨id,ver,o,hf,_⟩=>by simp[find] at hf⟩⟩
 cases hi:initA ⟨[],[]⟩ 0 args with
 | none=>rw[hi] at h;cases h
 | some p=>
  obtain ⟨vs,st⟩:=p
  rw[hi] at h
  simp only at h
  obtain ⟨ρ1,r1,a1,c1⟩:=ZtR args 0 ⟨[],[]⟩ ρ0 vs vals st L hi hR0 hT hF0 hvo
  have hvl:vs.length=vals.length:=a1.1
  have hrel:Rel (ModC L w) F w { st with tm:=vs++tops (fn.ntmps - vs.length) } { tmps:=vals.toArray++Array.replicate (fn.ntmps - vals.toArray.size) undef,defers:=[] } w:=by
   refine ⟨rfl,F,ρ1,⟨?_,fun i x hx=>?_,fun id ver o hf=>?_,r1.sep,r1.data,r1.low,r1.hi,r1.tabs⟩,Evo.refl _ _ _⟩
   ·simp[ZfD,hvl]
   ·rw[List.getElem?_append] at hx
    split at hx
    ·rename_i hlt
     have hlt':i < vals.length:=by omega
     refine ⟨vals[i],by simp[Array.getElem?_append,hlt'],?_⟩
     exact ARep.of_ob (st:=st) (st':=⟨vs++tops (fn.ntmps - vs.length),st.ob⟩) rfl (a1.2 i x vals[i] hx (by simp[hlt']))
    ·rename_i hge
     have hlt:=(List.getElem?_eq_some_iff.1 hx).1
     obtain rfl:=ZqO _ _ _ hx
     rw[ZfD] at hlt
     refine ⟨undef,?_,.top _⟩
     have:¬i < vals.length:=by omega
     simp[Array.getElem?_append,this,Array.getElem?_replicate]
     omega
   ·exact ORep.mono (Keeps.refl _ _) (Ref.of_ob (st:=st) (st':=⟨vs++tops (fn.ntmps - vs.length),st.ob⟩) rfl) (fun _ _=>rfl) (r1.obs id ver o hf)
  have hwp:=ZcB (Mod:=ModC L w) (F0:=F) (w0:=w) (y:=ans) (tb:=tb) (ps:=procsF P cl tb fn c args) hcl hdet c 0 (fun _=>finA P tb fn args) (fun _ _ _=>none) (fun _=>finA P tb fn args) (Zyj hnd) n _ _ _ h hrel
  refine wp_mono hwp fun e a w' he=>?_
  have fin:Good (ModC L w) F w ans (procsF P cl tb fn c args) n (fun _=>finA P tb fn args) a w'→
    a.defers=[]∧∃v,(results fn a.tmps).run P w'=.ok v w'∧CallPost F w L vals ans v w':=by
   rintro ⟨m,st',_,⟨hd,F',ρ',hR,hE⟩,hk⟩
   obtain ⟨F2,v,Lr,Lo,hE2,hlow2,h1,h2,h3,h4,h5⟩:=Zw6 (L:=L) (w0:=w) hR (fun _ h=>h) hlen hvo hk
   exact ⟨hd,v,h1,F2,Lr,Lo,hE.trans hE2,hlow2,h2,h3,(List.perm_append_comm.nodup_iff).1 h4,fun b hb=>h5 b (by simp only[List.mem_append] at hb ⊢;exact hb.symm)⟩
  cases e with
  | normal=>exact fin he
  | ret=>exact fin he
  | exit j=>obtain ⟨m,st',_,_,hk⟩:=he;cases hk
  | _=>exact he.elim
end
end Go.Ev
namespace Go.Ev
instance (priority:=low) noOrgs:Orgs:=⟨fun _=>undef⟩
variable [Tabs]
def mkTm (n:Nat) (l:List (Nat×AV)):List AV:=l.foldl (fun tm p=>tm.set p.1 p.2) (tops n)
end Go.Ev
end

section
namespace Go.Ev
variable [Tabs]
open Go
abbrev Run:=List AV→M Ans
abbrev Tbl:=List (FuncId×Run)
def runOf:Tbl→FuncId→Run
 | [],_=>fun _=>fail
 | (g,r) :: t,f=>bif Nat.beq g f then r else runOf t f
def clOf (t:Tbl):Cl:=fun f xs=>runOf t f xs
def EntOK (P:Program) (f:FuncId) (r:Run):Prop:=Known P f∧∀xs,Det (r xs)∧Sat (r xs) (CallOK P f xs)
theorem ZoO {P:Program} :∀ {t:Tbl},(∀p∈t,EntOK P p.1 p.2)→Spec P (clOf t)∧DetC (clOf t)
 | [],_=>⟨fun f xs=>Sat.fail,fun f xs=>Det.fail⟩
 | (g,r) :: t,h=>by
  obtain ⟨h1,h2⟩:=ZoO (t:=t) fun p hp=>h p (by simp[hp])
  have h0:=h (g,r) (by simp)
  constructor
  ·intro f xs
   show Sat (runOf ((g,r) :: t) f xs) _
   unfold runOf
   cases hb:Nat.beq g f with
   | true=>
    have:=Nat.eq_of_beq_eq_true hb
    subst this
    exact (h0.2 xs).2.mono fun a ha=>⟨h0.1,ha⟩
   | false=>exact h1 f xs
  ·intro f xs
   show Det (runOf ((g,r) :: t) f xs)
   unfold runOf
   cases hb:Nat.beq g f with
   | true=>exact (h0.2 xs).1
   | false=>exact h2 f xs
abbrev Sig:=List (Bool×Ty)
@[reducible] def Args:Sig→Type
 | []=>Unit
 | p :: r=>El p.2×Args r
def ofForm (p:Bool×Ty) (x:AV):Option (El p.2):=
 match p.1,x with
 | true,.ag cs=>packAll p.2 cs
 | false,.ag _=>none
 | false,x=>packAll p.2 [x]
 | true,_=>none
def ofForms:(s:Sig)→List AV→Option (Args s)
 | [],[]=>some ()
 | p :: r,x :: xs=>(ofForm p x).bind fun a=>(ofForms r xs).map fun b=>(a,b)
 | _,_=>none
def toForm (p:Bool×Ty) (v:El p.2):AV:=match p.1 with | true=>.ag (flat p.2 v) | false=>(flat p.2 v).headD .top
def toForms:(s:Sig)→Args s→List AV
 | [],_=>[]
 | p :: r,a=>toForm p a.1 :: toForms r a.2
def typed (s:Sig) (run:Args s→M AV):Run:=fun xs=>match ofForms s xs with
 | none=>fail
 | some a=>M.bind (run a) fun r=>M.pure (r,xs.map fun _=>.top)
section
variable {F:Nat→Prop} {w:World}
theorem ZwJ:∀ {t:Ty} {cs:List AV} {v:El t} {r:List AV},pack t cs=some (v,r)→∃ds,cs=ds++r∧ds.all leafB=true:=by
 intro t
 induction t with
 | int k=>
  intro cs v r hp
  match cs,hp with
  |.d (.int k') v :: r',hp=>
   simp only[pack] at hp
   split at hp
   ·cases hp;exact ⟨[_],rfl,rfl⟩
   ·cases hp
 | bool=>
  intro cs v r hp
  match cs,hp with
  |.d .bool v :: r',hp=>simp only[pack] at hp;cases hp;exact ⟨[_],rfl,rfl⟩
 | str=>
  intro cs v r hp
  match cs,hp with
  |.d .str v :: r',hp=>simp only[pack] at hp;cases hp;exact ⟨[_],rfl,rfl⟩
 | sl t ih=>
  intro cs v r hp
  match cs,hp with
  |.nil :: r',hp=>simp only[pack] at hp;cases hp;exact ⟨[_],rfl,rfl⟩
  |.d (.sl t') v :: r',hp=>
   simp only[pack] at hp
   split at hp
   ·cases hp;exact ⟨[_],rfl,rfl⟩
   ·cases hp
 | pr a b iha ihb=>
  intro cs v r h
  simp only[pack] at h
  obtain ⟨⟨x,r1⟩,h1,h⟩:=Option.bind_eq_some_iff.1 h
  obtain ⟨⟨y,r2⟩,h2,h⟩:=Option.map_eq_some_iff.1 h
  simp only[Prod.mk.injEq] at h
  obtain ⟨_,rfl⟩:=h
  obtain ⟨d1,rfl,e1⟩:=iha h1
  obtain ⟨d2,rfl,e2⟩:=ihb h2
  exact ⟨d1++d2,by simp,by rw[List.all_append,e1,e2];rfl⟩
 | un=>
  intro cs v r h
  simp only[pack,Option.some.injEq,Prod.mk.injEq] at h
  obtain ⟨_,rfl⟩:=h
  exact ⟨[],rfl,rfl⟩
theorem ZiV {t:Ty} {cs:List AV} {v:El t} (h:packAll t cs=some v):cs.all leafB=true:=by
 unfold packAll at h
 split at h
 ·rename_i u hu
  obtain ⟨ds,e,hl⟩:=ZwJ hu
  rw[e,List.append_nil]
  exact hl
 ·cases h
theorem Zlg:∀ {t:Ty} {v:El t},(flat t v).all leafB=true
 |.int _,_=>rfl
 |.bool,_=>rfl
 |.str,_=>rfl
 |.sl _,_=>rfl
 |.pr a b,v=>by simp only[flat,List.all_append,Zlg,Bool.and_self]
 |.un,_=>rfl
theorem ZuB {x:AV} (h:leafB x=true):flatB x=true:=by cases x <;> simp only[leafB] at h <;> first | (cases h;done) | rfl
theorem Zqy:∀ {cs:List AV} {vs:List Value} {L:List Nat},TReps F w cs vs L→cs.all leafB=true→L=[]∧CsRep F ρ0 w st0 cs vs:=by
 intro cs vs L h
 induction h with
 | nil=>exact fun _=>⟨rfl,.nil⟩
 | flat hx ha _ ih=>
  intro hl
  simp only[List.all_cons,Bool.and_eq_true] at hl
  obtain ⟨rfl,hc⟩:=ih hl.2
  exact ⟨rfl,.cons ha hc⟩
 | top=>intro hl;simp[leafB] at hl
 | ag=>intro hl;simp[leafB] at hl
 | tu=>intro hl;simp[leafB] at hl
 | bx=>intro hl;simp[leafB] at hl
 | rw=>intro hl;simp[leafB] at hl
 | mv=>intro hl;simp[leafB] at hl
 | dw=>intro hl;simp[leafB] at hl
theorem ZjM:∀ {cs:List AV} {vs:List Value},CsRep F ρ0 w st0 cs vs→cs.all leafB=true→TReps F w cs vs []
 | [],vs,h,_=>by
  have:vs=[]:=List.length_eq_zero_iff.1 h.1.symm
  subst this
  exact .nil
 | c :: cs,[],h,_=>by have:=h.1;simp at this
 | c :: cs,v :: vs,h,hl=>by
  simp only[List.all_cons,Bool.and_eq_true] at hl
  exact .flat (ZuB hl.1) (h.2 0 c v rfl rfl) (ZjM ⟨by have:=h.1;simpa using this,fun i c u h1 h2=>h.2 (i+1) c u h1 h2⟩ hl.2)
theorem Zru {p:Bool×Ty} {x:AV} {a:El p.2} {v:Value} {L:List Nat} (h:ofForm p x=some a) (hT:TReps F w [x] [v] L):L=[]∧TReps F w [toForm p a] [v] []:=by
 obtain ⟨g,t⟩:=p
 cases g with
 | true=>
  cases x with
  | ag cs=>
   simp only[ofForm] at h
   cases hT with
   | flat hx=>cases hx
   | ag h1 hn=>
    cases hn
    obtain ⟨rfl,hc⟩:=Zqy h1 (ZiV h)
    have hl:=Za4 h hc
    have hf:CsRep F ρ0 w st0 (flat t a) _:=Zdx hl
    refine ⟨rfl,?_⟩
    have:=TReps.ag (ZjM hf Zlg) TReps.nil
    simpa[toForm] using this
  | _=>cases h
 | false=>
  have h':packAll t [x]=some a:=by
   cases x <;> first | (cases h;done) | exact h
  have hl0:=ZiV h'
  obtain ⟨rfl,hc⟩:=Zqy hT hl0
  have hl:=Za4 h' hc
  have hf:CsRep F ρ0 w st0 (flat t a) [v]:=Zdx hl
  have hq:=ZjM hf Zlg
  refine ⟨rfl,?_⟩
  have hlen:=hf.1
  simp only[toForm]
  match hm:flat t a,hlen with
  | [c],_=>rw[hm] at hq;simpa using hq
theorem Zuf:∀ {s:Sig} {xs:List AV} {a:Args s} {vs:List Value} {L:List Nat},ofForms s xs=some a→TReps F w xs vs L→L=[]∧TReps F w (toForms s a) vs []
 | [],[],a,vs,L,_,hT=>by cases hT;exact ⟨rfl,.nil⟩
 | [],_ :: _,a,vs,L,h,_=>by cases h
 | p :: s,[],a,vs,L,h,_=>by cases h
 | p :: s,x :: xs,a,vs,L,h,hT=>by
  simp only[ofForms] at h
  obtain ⟨b,h1,h⟩:=Option.bind_eq_some_iff.1 h
  obtain ⟨c,h2,rfl⟩:=Option.map_eq_some_iff.1 h
  obtain ⟨v,us,L1,L2,rfl,rfl,t1,t2⟩:=hT.split
  obtain ⟨rfl,q1⟩:=Zru h1 t1
  obtain ⟨rfl,q2⟩:=Zuf h2 t2
  refine ⟨rfl,?_⟩
  have:=q1.append q2
  simpa[toForms] using this
end
theorem Zkg:∀ {s:Sig} {xs:List AV} {a:Args s},ofForms s xs=some a→xs.length=(toForms s a).length
 | [],[],_,_=>rfl
 | [],_ :: _,_,h=>by cases h
 | _ :: _,[],_,h=>by cases h
 | p :: s,x :: xs,a,h=>by
  simp only[ofForms] at h
  obtain ⟨b,h1,h⟩:=Option.bind_eq_some_iff.1 h
  obtain ⟨c,h2,rfl⟩:=Option.map_eq_some_iff.1 h
  simp[toForms,Zkg h2]
theorem Zud {p:Bool×Ty} {i v o:Nat} :ofForm p (.pt i v o)=none:=by
 obtain ⟨g,t⟩:=p
 cases g with
 | true=>rfl
 | false=>
  cases h:ofForm (false,t) (.pt i v o) with
  | none=>rfl
  | some a=>
   have h':packAll t [.pt i v o]=some a:=h
   have:=ZiV h'
   exact (Bool.false_ne_true this).elim
theorem ZvF {i v o:Nat} {r:List AV} :∀ {s:Sig},ofForms s (.pt i v o :: r)=none
 | []=>rfl
 | p :: s=>by simp only[ofForms,Zud];rfl
theorem Zvn {P:Program} {f:FuncId} (hk:Known P f) {s:Sig} {run:Args s→M AV} (hd:∀a,Det (run a)) (h:∀a,Sat (run a) fun r=>CallOK P f (toForms s a) (r,(toForms s a).map fun _=>.top)):EntOK P f (typed s run):=by
 refine ⟨hk,fun xs=>⟨?_,?_⟩⟩
 ·unfold typed
  split
  ·exact Det.fail
  ·exact Det.bind (hd _) fun r=>Det.pure _
 ·unfold typed
  split
  ·exact Sat.fail
  ·rename_i a ha
   refine Sat.bind (h a) fun r hr=>Sat.pure ⟨?_,fun q e=>by rw[e,ZvF] at ha;cases ha⟩
   intro F w vals L hT hL hLF hlow htab
   obtain ⟨rfl,hT'⟩:=Zuf ha hT
   have:=hr.1 F w vals [] hT' hL hLF hlow htab
   have he:(toForms s a).map (fun _=>AV.top)=xs.map fun _=>AV.top:=by
    apply List.ext_getElem
    ·simp[Zkg ha]
    ·simp
   rw[he] at this
   exact this
theorem Zvf {P:Program} {t:Tbl} (ht:∀p∈t,EntOK P p.1 p.2) {tb:Tb} {f:FuncId} {fn:Func} {c:Code} (hf:P.funcs[f]? =some fn) (hname:(fn.name== "runtime.NumGoroutine")=false) (hb:fn.body=some c) {s:Sig} {run:Args s→M AV}
  (hd:∀a,Det (run a)) (hnd:∀a,nodupB ((procsF P (clOf t) tb fn c (toForms s a)).map (·.1))=true)
  (h:∀a,Sat (run a) fun r=>∃n,evF P (clOf t) tb fn n (toForms s a)=some (r,(toForms s a).map fun _=>.top)):EntOK P f (typed s run):=by
 obtain ⟨h1,h2⟩:=ZoO ht
 exact Zvn ⟨fn,c,hf,hname,hb⟩ hd fun a=>(h a).mono fun r ⟨n,hr⟩=>Zlu h1 h2 hf hb (hnd a) hr
end Go.Ev
end

section
namespace Go.Ev
variable [Tabs]
open Go
inductive DT (α:Type) where
 | leaf (a:α)
 | no
 | br (c:Bool) (t f:DT α)
def DT.run {α:Type} (k:α→Option Ans):DT α→Option Ans
 |.leaf a=>k a
 |.no=>none
 |.br c t f=>bif c then t.run k else f.run k
def DT.val {α:Type} (d:α):DT α→α
 |.leaf a=>a
 |.no=>d
 |.br c t f=>bif c then t.val d else f.val d
def DT.ok {α:Type} :DT α→Bool
 |.leaf _=>true
 |.no=>false
 |.br c t f=>bif c then t.ok else f.ok
def DT.all {α:Type} :DT α→Bool
 |.leaf _=>true
 |.no=>false
 |.br _ t f=>t.all&&f.all
def tps (l:List AV):List AV:=l.map fun _=>.top
def entT {α:Type} (s:Sig) (R:α→AV) (v:Args s→α):Run:=typed s fun a=>M.pure (R (v a))
def entG {α:Type} (s:Sig) (R:α→AV) (ok:Args s→Bool) (v:Args s→α):Run:=typed s fun a k=>bif ok a then k (R (v a)) else none
section
variable {P:Program} {t:Tbl} {tb:Tb} {f:FuncId} {fn:Func} {c:Code} {s:Sig} {α:Type} {R:α→AV}
theorem ZaF (ht:∀p∈t,EntOK P p.1 p.2) (hf:P.funcs[f]? =some fn) (hname:(fn.name== "runtime.NumGoroutine")=false) (hb:fn.body=some c)
  (hnd:∀a,nodupB ((procsF P (clOf t) tb fn c (toForms s a)).map (·.1))=true) {ok:Args s→Bool} {v:Args s→α}
  (h:∀a,ok a=true→∃n,evF P (clOf t) tb fn n (toForms s a)=some (R (v a),tps (toForms s a))):EntOK P f (entG s R ok v):=
 Zvf ht hf hname hb (fun a=>Det.guard (Det.pure _)) hnd fun a=>Sat.guard fun hok=>Sat.pure (h a hok)
theorem ZW (ht:∀p∈t,EntOK P p.1 p.2) (hf:P.funcs[f]? =some fn) (hname:(fn.name== "runtime.NumGoroutine")=false) (hb:fn.body=some c)
  (hnd:∀a,nodupB ((procsF P (clOf t) tb fn c (toForms s a)).map (·.1))=true) {v:Args s→α}
  (h:∀a,∃n,evF P (clOf t) tb fn n (toForms s a)=some (R (v a),tps (toForms s a))):EntOK P f (entT s R v):=
 Zvf ht hf hname hb (fun a=>Det.pure _) hnd fun a=>Sat.pure (h a)
end
end Go.Ev
namespace Go.Ev
variable [Tabs]
theorem Zv {P:Program} :∀p∈([]:Tbl),EntOK P p.1 p.2:=fun _ h=>nomatch h
theorem Zl {P:Program} {f:FuncId} {r:Run} {t:Tbl} (h:EntOK P f r) (ht:∀p∈t,EntOK P p.1 p.2):∀p∈(f,r) :: t,EntOK P p.1 p.2:=List.forall_mem_cons.2 ⟨h,ht⟩
end Go.Ev
end

section
namespace Go.Ev
variable [Tabs]
open Go
theorem Det.makeObj {st:St} {d:Option Nat} {o:Obj} {ref:Id→Nat→AV} :Det (makeObj st d o ref):=by
 unfold Go.Ev.makeObj
 split
 ·exact Det.pure _
 ·exact Det.fail
theorem Det.none {α:Type} :Det (fun _=>none:M α):=.inl fun _=>rfl
theorem Det.appendB {st:St} {d:Nat} {E:TypeId} {t:Ty} {bytes:Nat} {s:AV} {ys:List (El t)} :Det (appendB st d E t bytes s ys):=by
 unfold Go.Ev.appendB
 repeat' (first
  | exact Det.pure _
  | exact Det.fail
  | exact Det.guard (Det.pure _)
  | split)
theorem Det.appendA {P:Program} {st:St} {d:Nat} {T:TypeId} {s x:AV} :Det (appendA P st d T s x):=by
 unfold Go.Ev.appendA
 repeat' (first
  | exact Det.appendB
  | exact Det.fail
  | split)
theorem Det.appendZ {P:Program} {st:St} {d:Nat} {T:TypeId} {s:AV} {n:Int} :Det (appendZ P st d T s n):=by
 unfold Go.Ev.appendZ
 repeat' (first
  | exact Det.guard Det.appendB
  | exact Det.fail
  | split)
theorem Det.callA {cl:Cl} (hcl:DetC cl) {f:FuncId} {args:List AV} {d:Option Nat} {st:St} :Det (callA cl f args d st):=by
 unfold Go.Ev.callA
 split
 ·exact Det.fail
 ·refine Det.cond (Det.bind (hcl _ _) fun a=>?_) Det.fail
  repeat' (first
   | exact Det.pure _
   | exact Det.fail
   | split)
theorem Det.callX {cl:Cl} (hcl:DetC cl) {f:FuncId} {args:List AV} {d:Option Nat} {st:St} :Det (callX cl f args d st):=by
 unfold Go.Ev.callX
 split
 ·exact Det.callA fun f xs=>hcl f _
 ·exact Det.callA hcl
theorem Det.opt {st:St} {d:Option Nat} (x:Option AV):Det (match x with | Option.some v=>(M.pure (st.put d v):M St) | Option.none=>Go.Ev.fail):=by
 cases x
 ·exact Det.fail
 ·exact Det.pure _
theorem Det.elim {β:Type} {b:Option β} {x:St} {f:β→St} :Det (fun c=>Option.elim b ((M.pure x:M St) c) (fun v=>(M.pure (f v):M St) c)):=by
 cases b
 ·exact Det.pure _
 ·exact Det.pure _
theorem Zya {P:Program} {cl:Cl} (hcl:DetC cl) (o:Oper) (st:St):Det (opA P cl o st):=by
 unfold opA
 repeat' (first
  | exact Det.pure _
  | exact Det.fail
  | exact Det.opt _
  | exact Det.elim
  | exact Det.makeObj
  | exact Det.appendA
  | exact Det.appendZ
  | exact Det.callA hcl
  | exact Det.callX hcl
  | (refine Det.bind (by first | exact Det.toI | exact Det.toB | exact Det.branch | exact Det.unA | exact Det.binA | exact Det.lenA | exact Det.boundI | exact Det.caseNat | exact Det.upto) fun _=>?_)
  | exact Det.guard (Det.pure _)
  | exact Det.guard Det.makeObj
  | (refine Det.cond ?_ ?_)
  | split)
theorem ZjX {op:Oper→St→M St} (hop:∀o st,Det (op o st)) {ops:Array Oper} :∀(l:List Oper) (st:St),Det (opsG op ops l st)
 | [],st=>Det.pure _
 | o :: r,st=>by
  unfold opsG
  split
  ·exact Det.bind (hop o st) fun st=>ZjX hop r st
  ·split
   ·exact Det.fail
   ·split
    ·refine Det.bind Det.branch fun b=>?_
     simp only
     split
     ·exact Det.bind (hop o _) fun st=>ZjX hop r st
     ·exact Det.bind (hop o _) fun st=>ZjX hop r st
     ·exact ZjX hop r _
    ·exact Det.cond (ZjX hop r _) Det.fail
    ·exact Det.fail
theorem ZxJ {P:Program} {cl:Cl} (hcl:DetC cl) {ops:Array Oper} (l:List Oper) (st:St):Det (opsA P cl ops l st):=ZjX (Zya hcl) l st
theorem Zrm {P:Program} {cl:Cl} (hcl:DetC cl) (o:Oper) (st:St):Det (opD P cl o st):=by
 rcases Zwv (P:=P) hcl o st with h | ⟨v,h⟩
 ·exact .inl h
 ·exact .inr ⟨_,h⟩
theorem Zj1 {P:Program} {cl:Cl} (hcl:DetC cl) {ops:Array Oper} :∀(l:List Oper) (st:St),Det (opsD P cl ops l st)
 | [],st=>Det.pure _
 | o :: r,st=>by
  unfold opsD
  split
  ·exact Det.bind (Zrm hcl o st) fun st=>Zj1 hcl r st
  ·split
   ·exact Det.fail
   ·split
    ·refine Det.bind Det.branch fun b=>?_
     simp only
     split
     ·exact Det.bind (Zrm hcl o _) fun st=>Zj1 hcl r st
     ·exact Det.bind (Zrm hcl o _) fun st=>Zj1 hcl r st
     ·exact Zj1 hcl r _
    ·exact Det.cond (Zj1 hcl r _) Det.fail
    ·exact Det.fail
theorem Zq4 {P:Program} {cl:Cl} (hcl:DetC cl) (o:Oper) (st:St):Det (opE P cl o st):=by
 rcases Zwl (P:=P) hcl o st with h | ⟨u,_,h⟩
 ·exact .inl h
 ·exact .inr ⟨_,h⟩
theorem ZjI {P:Program} {cl:Cl} (hcl:DetC cl) {ops:Array Oper} :∀(l:List Oper) (st:St) (log:LogE),Det (opsE P cl ops l st log)
 | [],st,log=>Det.pure _
 | o :: r,st,log=>by
  unfold opsE
  split
  ·exact Det.bind (Zq4 hcl o st) fun st'=>ZjI hcl r st' _
  ·split
   ·exact Det.fail
   ·split
    ·refine Det.bind Det.branch fun b=>?_
     simp only
     split
     ·exact Det.bind (Zq4 hcl o _) fun st'=>ZjI hcl r st' _
     ·exact Det.bind (Zq4 hcl o _) fun st'=>ZjI hcl r st' _
     ·exact ZjI hcl r _ _
    ·exact Det.cond (ZjI hcl r _ _) Det.fail
    ·exact Det.fail
theorem Zxk {P:Program} {cl:Cl} (hcl:DetC cl) {ops:Array Oper} {st:St} :Det (runE P cl ops st):=
 Det.bind (ZjI hcl _ st []) fun p=>Det.cond (Det.pure _) Det.fail
def DK (g:(Ans→Option Ans)→Option Ans):Prop:=(∀f,g f=none)∨∃a,∀f,g f=f a
theorem DK.none:DK fun _=>Option.none:=.inl fun _=>rfl
theorem DK.of {m:M St} (h:Det m) {k:(Ans→Option Ans)→Kt} (hk:∀st,DK fun f=>k f st):DK fun f=>m (k f):=by
 rcases h with h | ⟨st,h⟩
 ·exact .inl fun f=>h _
 ·rcases hk st with h' | ⟨a,h'⟩
  ·exact .inl fun f=>(h _).trans (h' f)
  ·exact .inr ⟨a,fun f=>(h _).trans (h' f)⟩
theorem Zmb {P:Program} {cl:Cl} (hcl:DetC cl):∀(c:Code) (i:Nat) (k:(Ans→Option Ans)→Kt) (x:(Ans→Option Ans)→Nat→Kt) (r:(Ans→Option Ans)→Kt),(∀st,DK fun f=>k f st)→(∀j st,DK fun f=>x f j st)→(∀st,DK fun f=>r f st)→
  ∀st,DK fun f=>evC P cl [] (fun _ _=>none) c i (k f) (x f) (r f) st
 |.skip,i,k,x,r,hk,hx,hr,st=>by simpa only[evC] using hk st
 |.region id ops draw,i,k,x,r,hk,hx,hr,st=>by
  cases draw with
  | false=>simpa only[evC,cond_false,labOf] using DK.of (ZxJ hcl ops.toList st) hk
  | true=>
   simp only[evC,cond_true]
   cases (P.follows .mixedOrders&&drawOK ops) with
   | false=>exact DK.none
   | true=>
    simp only[cond_true]
    cases ops.toList.all (isD P) with
    | true=>exact DK.of (Zj1 hcl ops.toList st) hk
    | false=>exact DK.of (Zxk hcl) hk
 |.seq a b,i,k,x,r,hk,hx,hr,st=>by
  simp only[evC,labOf]
  exact Zmb hcl a (i+1) (fun f=>evC P cl [] (fun _ _=>none) b (i+1+nn a) (k f) (x f) (r f)) x r (Zmb hcl b _ k x r hk hx hr) hx hr st
 |.cond c a b,i,k,x,r,hk,hx,hr,st=>by
  simp only[evC]
  rcases (Det.bind Det.toB fun b=>Det.branch:Det (M.bind (toB (st.ev c)) branch)) with h | ⟨t,h⟩
  ·exact .inl fun f=>h _
  ·cases t with
   | true=>
    rcases Zmb hcl a i k x r hk hx hr st with h' | ⟨y,h'⟩
    ·exact .inl fun f=>(h _).trans (h' f)
    ·exact .inr ⟨y,fun f=>(h _).trans (h' f)⟩
   | false=>
    rcases Zmb hcl b (i+nn a) k x r hk hx hr st with h' | ⟨y,h'⟩
    ·exact .inl fun f=>(h _).trans (h' f)
    ·exact .inr ⟨y,fun f=>(h _).trans (h' f)⟩
 |.block id c,i,k,x,r,hk,hx,hr,st=>by
  simp only[evC]
  exact Zmb hcl c i k (fun f j st=>bif Nat.beq j id then k f st else x f j st) r hk (fun j st=>by
   cases Nat.beq j id
   ·exact hx j st
   ·exact hk st) hr st
 |.loop c,i,k,x,r,hk,hx,hr,st=>by simpa only[evC,labOf] using DK.none
 |.exit id,i,k,x,r,hk,hx,hr,st=>by simpa only[evC] using hx id st
 |.ret,i,k,x,r,hk,hx,hr,st=>by simpa only[evC] using hr st
 |.rangeFunc _ _ _ _,i,k,x,r,hk,hx,hr,st=>by simpa only[evC] using DK.none
 |.scope _,i,k,x,r,hk,hx,hr,st=>by simpa only[evC] using DK.none
 |.label _,i,k,x,r,hk,hx,hr,st=>by simpa only[evC] using DK.none
 |.refuse _,i,k,x,r,hk,hx,hr,st=>by simpa only[evC] using DK.none
 |.goto _,i,k,x,r,hk,hx,hr,st=>by simpa only[evC] using DK.none
def entE (P:Program) (t:Tbl) (fn:Func) (c:Code):Run:=fun xs f=>
 match initA ⟨[],[]⟩ 0 xs with
 | none=>none
 | some (vs,st)=>evC P (clOf t) [] (fun _ _=>none) c 0 (fun st=>(finA P [] fn xs st).bind f) (fun _ _=>none) (fun st=>(finA P [] fn xs st).bind f) { st with tm:=vs++tops (fn.ntmps - vs.length) }
theorem ZwV {P:Program} {t:Tbl} {f:FuncId} {fn:Func} {c:Code} (ht:∀p∈t,EntOK P p.1 p.2) (hf:P.funcs[f]? =some fn) (hname:(fn.name== "runtime.NumGoroutine")=false) (hb:fn.body=some c)
  (hnd:∀xs,nodupB ((procsF P (clOf t) [] fn c xs).map (·.1))=true):EntOK P f (entE P t fn c):=by
 obtain ⟨h1,h2⟩:=ZoO ht
 refine ⟨⟨fn,c,hf,hname,hb⟩,fun xs=>?_⟩
 have hfin:∀st,DK fun f=>(finA P [] fn xs st).bind f:=fun st=>by
  cases h:finA P [] fn xs st with
  | none=>exact .inl fun _=>rfl
  | some a=>exact .inr ⟨a,fun _=>rfl⟩
 have hd:DK (entE P t fn c xs):=by
  unfold entE
  cases hi:initA ⟨[],[]⟩ 0 xs with
  | none=>exact DK.none
  | some p=>exact Zmb h2 c 0 (fun f st=>(finA P [] fn xs st).bind f) (fun _ _ _=>none) _ hfin (fun _ _=>DK.none) hfin _
 have he:entE P t fn c xs some=evF P (clOf t) [] fn 0 xs:=by
  unfold entE evF
  rw[hb]
  simp only[entryA]
  have hs:(fun st=>(finA P [] fn xs st).bind some)=finA P [] fn xs:=by funext st;cases finA P [] fn xs st <;> rfl
  cases initA ⟨[],[]⟩ 0 xs with
  | none=>rfl
  | some p=>simp only[hs];rfl
 refine ⟨hd,fun k y hk=>?_⟩
 rcases hd with hn | ⟨a,ha⟩
 ·rw[hn] at hk;cases hk
 ·rw[ha] at he hk
  exact ⟨a,Zlu h1 h2 hf hb (hnd xs) he.symm,hk⟩
end Go.Ev
end

section
namespace Go.Ev
variable [Tabs]
open Go
inductive JT (J α:Type) where
 | leaf (a:α)
 | no
 | jmp (j:J)
 | br (c:Bool) (t f:JT J α)
def JT.run {J α:Type} (k:α→Option Ans) (g:J→Option Ans):JT J α→Option Ans
 |.leaf a=>k a
 |.no=>none
 |.jmp j=>g j
 |.br c t f=>bif c then t.run k g else f.run k g
inductive Goes {J α:Type} (T:J→JT J α):JT J α→α→Prop
 | leaf {a:α} :Goes T (.leaf a) a
 | jmp {j:J} {a:α} :Goes T (T j) a→Goes T (.jmp j) a
 | brt {t f:JT J α} {a:α} :Goes T t a→Goes T (.br true t f) a
 | brf {t f:JT J α} {a:α} :Goes T f a→Goes T (.br false t f) a
section
variable {J α:Type} {T:J→JT J α}
omit [Tabs]
theorem ZC {a b:α} :Goes T (.leaf b) a↔b=a:=⟨fun h=>(by cases h;rfl),fun h=>h▸ .leaf⟩
theorem Zq {j:J} {a:α} :Goes T (.jmp j) a↔Goes T (T j) a:=⟨fun h=>(by cases h;assumption),.jmp⟩
theorem Zs {c:Bool} {t f:JT J α} {a:α} :Goes T (.br c t f) a↔if c=true then Goes T t a else Goes T f a:=by
 cases c
 ·exact ⟨fun h=>(by cases h;simpa),fun h=>.brf (by simpa using h)⟩
 ·exact ⟨fun h=>(by cases h;simpa),fun h=>.brt (by simpa using h)⟩
theorem Goes.br {c:Bool} {t f:JT J α} {a b:α} (ht:Goes T t a) (hf:Goes T f b):Goes T (.br c t f) (bif c then a else b):=by
 cases c
 ·exact .brf hf
 ·exact .brt ht
theorem Goes.brk {c:Bool} {t f:JT J α} {a b:α} {k1 k2:Bool} (hk:(bif c then k1 else k2)=true) (ht:k1=true→Goes T t a) (hf:k2=true→Goes T f b):Goes T (.br c t f) (bif c then a else b):=by
 cases c
 ·exact .brf (hf hk)
 ·exact .brt (ht hk)
theorem Goes.nok {a:α} (hk:false=true):Goes T .no a:=by cases hk
end
section
variable {P:Program} {cl:Cl} {tb:Tb} {fn:Func} {c:Code} {J α:Type} {T:J→JT J α} {ps:List (Nat×(Lt→Kt))} {S:J→Nat×St} {K:α→Ans} {args:List AV}
omit [Tabs]
theorem ZxA (hl:∀L j,procOf ps (S j).1 L (S j).2=(T j).run (fun v=>some (K v)) fun j=>L (S j).1 (S j).2) {d:JT J α} {a:α} (h:Goes T d a):
  ∃n,d.run (fun v=>some (K v)) (fun j=>Ls ps n (S j).1 (S j).2)=some (K a):=by
 induction h with
 | leaf=>exact ⟨0,rfl⟩
 | @jmp j a _ ih=>
  obtain ⟨n,hn⟩:=ih
  refine ⟨n+1,?_⟩
  show Ls ps (n+1) (S j).1 (S j).2=some (K a)
  show procOf ps (S j).1 (Ls ps n) (S j).2=some (K a)
  rw[hl]
  exact hn
 | brt _ ih=>exact ih
 | brf _ ih=>exact ih
theorem Zo (hb:fn.body=some c) {d:JT J α} (he:∀L,entryA P cl tb fn c L args=d.run (fun v=>some (K v)) fun j=>L (S j).1 (S j).2)
  (hl:∀L j,procOf (procsF P cl tb fn c args) (S j).1 L (S j).2=(T j).run (fun v=>some (K v)) fun j=>L (S j).1 (S j).2) {a:α} (h:Goes T d a):
  ∃n,evF P cl tb fn n args=some (K a):=by
 obtain ⟨n,hn⟩:=ZxA hl h
 refine ⟨n,?_⟩
 unfold evF
 rw[hb]
 simp only
 rw[he]
 exact hn
end
def bs (l:List Nat):ByteArray:=⟨(l.map UInt8.ofNat).toArray⟩
@[reducible] def eqB (a b:ByteArray):Bool:=a.data.toList==b.data.toList
@[reducible] def ltB (a b:ByteArray):Bool:=lessB a.data.toList b.data.toList
@[reducible] def minI (a b:Int):Int:=if b < a then b else a
@[reducible] def maxI (a b:Int):Int:=if a < b then b else a
end Go.Ev
end

section
namespace Go.Ev
open Go Go.ChangeShapes Go.RowKit
variable [Tabs]
def fieldsC (chk:TypeId→Ty→Bool) (P:Program):List (TypeId×Nat)→Nat→Ty→Bool
 | [],_,.un=>true
 | [f],off,ty=>f.2==off&&(chk f.1 ty&&P.cellsOf f.1==ty.cells)
 | f :: r,off,.pr a b=>f.2==off&&(chk f.1 a&&(P.cellsOf f.1==a.cells&&fieldsC chk P r (off+a.cells) b))
 | _,_,_=>false
def tyC (P:Program):Nat→TypeId→Ty→Bool
 | 0,_,_=>false
 | n+1,t,ty=>match P.underlying t with
  | some (.int k)=>decide (ty=.int k)
  | some .bool=>decide (ty=.bool)
  | some .string=>decide (ty=.str)
  | some (.slice e)=>match ty with
   |.sl u=>tyC P n e u&&(P.cellsOf e==u.cells&&Nat.blt 0 u.cells)
   | _=>false
  | some (.struct fs)=>fieldsC (tyC P n) P (fs.toList.map fun f=>(f.type,f.offset)) 0 ty&&P.cellsOf t==ty.cells
  | some (.array k e)=>fieldsC (tyC P n) P ((List.range k).map fun i=>(e,i*P.cellsOf e)) 0 ty&&P.cellsOf t==ty.cells
  | _=>false
def small:(t:Ty)→El t→Prop
 |.int k,n=>k.min≤(show Int from n)∧(show Int from n)≤k.max
 |.str,s=>(show ByteArray from s).size≤maxLen
 |.sl t,l=>List.length (show List (El t) from l)≤maxLen∧∀x∈(show List (El t) from l),small t x
 |.pr a b,x=>small a x.1∧small b x.2
 | _,_=>True
section
variable {H:Type} {enc:TypeId×Value→H} {P:Program} {w:World} {base:Nat} {spare:Nat→Bool} {held:Bool}
theorem ZwL {a:Addr} {n:Nat} {cs:List Value} (h:w.cells? base a n=some cs):cs.length=n∧cellsAt w a cs:=by
 unfold World.cells? at h
 split at h
 ·have hl:cs.length=n:=by have:=mapM_some_length h;rw[List.length_range] at this;exact this
  refine ⟨hl,fun j v hv=>?_⟩
  have hj:j < cs.length:=(List.getElem?_eq_some_iff.1 hv).1
  have:=mapM_some_get h j j (by rw[List.getElem?_range (by omega)])
  rw[this];exact hv
 ·cases h
theorem Zl8 {chk:TypeId→Ty→Bool} {F:Nat→Prop} (hchk:∀t ty cs d,chk t ty=true→(∃n,DataW.trod enc P w base spare held n t cs=some d)→∃x:El ty,LRep F w ty x cs∧small ty x):
  ∀(fs:List (TypeId×Nat)) (off:Nat) (ty:Ty) (cs:List Value),fieldsC chk P fs off ty=true→(∀f∈fs,∃n d,DataW.trod enc P w base spare held n f.1 ((cs.drop f.2).take (P.cellsOf f.1))=some d)→off+ty.cells≤cs.length→
   ∃x:El ty,LRep F w ty x ((cs.drop off).take ty.cells)∧small ty x
 | [],off,ty,cs,h,_,_=>by
  cases ty <;> simp only[fieldsC] at h <;> first | (cases h;done) | skip
  exact ⟨(),by simp[LRep,Ty.cells],trivial⟩
 | [f],off,ty,cs,h,hf,hl=>by
  have h':(f.2==off&&(chk f.1 ty&&P.cellsOf f.1==ty.cells))=true:=by
   cases ty <;> exact h
  simp only[Bool.and_eq_true,beq_iff_eq] at h'
  obtain ⟨h1,h2,h3⟩:=h'
  obtain ⟨n,d,hd⟩:=hf f (by simp)
  rw[h1,h3] at hd
  exact hchk _ _ _ d h2 ⟨n,hd⟩
 | f :: g :: r,off,ty,cs,h,hf,hl=>by
  cases ty with
  | pr a b=>
   have h':(f.2==off&&(chk f.1 a&&(P.cellsOf f.1==a.cells&&fieldsC chk P (g :: r) (off+a.cells) b)))=true:=h
   simp only[Bool.and_eq_true,beq_iff_eq] at h'
   obtain ⟨h1,h2,h3,h4⟩:=h'
   obtain ⟨n,d,hd⟩:=hf f (by simp)
   rw[h1,h3] at hd
   obtain ⟨x,hx,sx⟩:=hchk _ _ _ d h2 ⟨n,hd⟩
   simp only[Ty.cells] at hl
   obtain ⟨y,hy,sy⟩:=Zl8 hchk (g :: r) (off+a.cells) b cs h4 (fun f' hf'=>hf f' (by simp only[List.mem_cons] at hf' ⊢;exact .inr hf')) (by omega)
   refine ⟨(x,y),?_,sx,sy⟩
   simp only[LRep]
   refine ⟨_,_,?_,hx,hy⟩
   simp only[Ty.cells]
   rw[List.take_add,List.drop_drop]
  | _=>simp[fieldsC] at h
theorem Zwq {α:Type} {Q:Nat→α→Prop} :∀ {n:Nat},(∀i,i < n→∃x,Q i x)→∃l:List α,l.length=n∧∀i x,l[i]? =some x→Q i x
 | 0,_=>⟨[],rfl,fun i x hx=>by simp at hx⟩
 | n+1,h=>by
  obtain ⟨l,hl,hall⟩:=Zwq (n:=n) fun i hi=>h i (by omega)
  obtain ⟨x,hx⟩:=h n (by omega)
  refine ⟨l++[x],by simp[hl],fun i y hy=>?_⟩
  by_cases hi:i < n
  ·rw[List.getElem?_append_left (by omega)] at hy
   exact hall i y hy
  ·rw[List.getElem?_append_right (by omega)] at hy
   have hik:i=n:=by
    have:=(List.getElem?_eq_some_iff.1 hy).1
    simp at this;omega
   subst hik
   simp[hl] at hy
   subst hy
   exact hx
theorem Zns:∀(m:Nat) (t:TypeId) (ty:Ty) (cs:List Value) (d:DataW H×List MemPlace),tyC P m t ty=true→(∃n,DataW.trod enc P w base spare held n t cs=some d)→
  ∃x:El ty,LRep (fun b=>b < w.heap.size) w ty x cs∧small ty x
 | 0,_,_,_,_,h,_=>by cases h
 | m+1,t,ty,cs,d,h,⟨n,hd⟩=>by
  unfold tyC at h
  split at h
  ·rename_i k hu
   obtain rfl:=of_decide_eq_true h
   obtain ⟨i,rfl,_,hw⟩:=DataW.trod_int hu hd
   exact ⟨i,rfl,(show k.min≤i∧i≤k.max by simpa[Lit.wf] using hw)⟩
  ·rename_i hu
   obtain rfl:=of_decide_eq_true h
   obtain ⟨b,rfl,_⟩:=DataW.trod_bool hu hd
   exact ⟨b,rfl,trivial⟩
  ·rename_i hu
   obtain rfl:=of_decide_eq_true h
   obtain ⟨s,rfl,_,hs⟩:=DataW.trod_string hu hd
   exact ⟨s,rfl,hs⟩
  ·rename_i e hu
   split at h
   ·rename_i u
    simp only[Bool.and_eq_true,beq_iff_eq] at h
    obtain ⟨h1,h2,h0⟩:=h
    have hz:0 < u.cells:=Nat.le_of_ble_eq_true h0
    rcases DataW.trod_slice hu hd with ⟨rfl,_⟩ | ⟨a,len,cap,elems,rest,n',_,rfl,_,hb,hlc,hcm,hel,hat,_,_⟩
    ·exact ⟨[],⟨none,0,rfl,Nat.le_refl _,fun i x hx=>by simp at hx⟩,by simp[small]⟩
    ·have each:∀i,i < len→∃x:El u,(∃cs,LRep (fun b=>b < w.heap.size) w u x cs∧cellsAt w (a.add (i*u.cells)) cs∧(0 < cs.length→a.block < w.heap.size))∧small u x:=by
      intro i hi
      have h3:=hat i hi
      rw[List.getElem?_eq_getElem (by omega)] at h3
      obtain ⟨cs,hc,ht⟩:=Option.bind_eq_some_iff.1 h3
      rw[h2] at hc
      obtain ⟨hl,hca⟩:=ZwL hc
      obtain ⟨x,hx,sx⟩:=Zns m e u cs _ h1 ⟨n',ht⟩
      refine ⟨x,⟨cs,hx,hca,fun hp=>?_⟩,sx⟩
      have h0:=hca 0 cs[0] (by simp[hp])
      have:=World.cells?_block hc (by omega)
      rwa[Addr.add_block] at this
     have:=Zwq each
     obtain ⟨l,hl,hall⟩:=this
     refine ⟨l,⟨some a,cap,by rw[hl],by rw[hl];exact hlc,fun i x hx=>?_⟩,?_,fun x hx=>?_⟩
     ·obtain ⟨⟨cs,c1,c2,c3⟩,_⟩:=hall i x hx
      exact ⟨a,cs,rfl,c3 (by rw[c1.length];omega),c1,c2⟩
     ·rw[hl];omega
     ·obtain ⟨i,hi⟩:=List.getElem?_of_mem hx
      exact (hall i x hi).2
   ·cases h
  ·rename_i fs hu
   simp only[Bool.and_eq_true,beq_iff_eq] at h
   obtain ⟨h1,h2⟩:=h
   obtain ⟨xs,n',_,_,hl,hxl,hxs⟩:=DataW.trod_struct hu hd
   obtain ⟨x,hx,sx⟩:=Zl8 (fun t ty cs d hc he=>Zns m t ty cs d hc he) (fs.toList.map fun f=>(f.type,f.offset)) 0 ty cs h1 (fun f hf=>by
    obtain ⟨g,hg,e⟩:=List.mem_map.1 hf
    subst e
    obtain ⟨i,hi⟩:=List.getElem?_of_mem hg
    have:=hxs i g (by simpa using hi)
    have hlt:i < xs.length:=by
     have:=(List.getElem?_eq_some_iff.1 hi).1
     simp at this;omega
    rw[List.getElem?_eq_getElem hlt] at this
    exact ⟨n',_,this⟩) (by omega)
   refine ⟨x,?_,sx⟩
   rw[List.drop_zero,List.take_of_length_le (by omega)] at hx
   exact hx
  ·rename_i k e hu
   simp only[Bool.and_eq_true,beq_iff_eq] at h
   obtain ⟨h1,h2⟩:=h
   obtain ⟨xs,n',_,_,hl,hxl,hxs⟩:=DataW.trod_array hu hd
   obtain ⟨x,hx,sx⟩:=Zl8 (fun t ty cs d hc he=>Zns m t ty cs d hc he) ((List.range k).map fun i=>(e,i*P.cellsOf e)) 0 ty cs h1 (fun f hf=>by
    obtain ⟨i,hi,rfl⟩:=List.mem_map.1 hf
    rw[List.mem_range] at hi
    have:=hxs i hi
    rw[List.getElem?_eq_getElem (by omega)] at this
    exact ⟨n',_,this⟩) (by omega)
   refine ⟨x,?_,sx⟩
   rw[List.drop_zero,List.take_of_length_le (by omega)] at hx
   exact hx
  ·cases h
theorem Zt5 {r:Reach} {b:Nat} {m:Nat} {t:TypeId} {ty:Ty} {v:Value} (hg:isAgg P t=some false) (ht:tyC P m t ty=true) (hv:Value.okWide P w r b t v):v.cells.toList=[v]:=by
 cases m with
 | zero=>cases ht
 | succ m=>
  unfold tyC at ht
  unfold isAgg at hg
  unfold Value.okWide at hv
  split at ht <;> rename_i hu
  case h_5=>rw[hu] at hg;simp at hg
  case h_6=>rw[hu] at hg;simp at hg
  case h_7=>cases ht
  all_goals
   rw[hu] at hv
   simp only[Cell.okWide,Cell.ok,hu] at hv
   cases v <;> first | rfl | (exact absurd hv (by simp))
def argsC (P:Program):List TypeId→Sig→Bool
 | [],[]=>true
 | t :: ts,(g,ty) :: s=>(match isAgg P t with | some g'=>g'==g | none=>false)&&(tyC P 12 t ty&&argsC P ts s)
 | _,_=>false
def smallArgs:(s:Sig)→Args s→Prop
 | [],_=>True
 | p :: r,a=>small p.2 a.1∧smallArgs r a.2
theorem Zvv {r:Reach} {b:Nat} :∀(ts:List TypeId) (s:Sig) (vs:List Value) (ds:List (DataW H)) (ps:List MemPlace),argsC P ts s=true→
  (∀(j:Nat) t v,ts[j]? =some t→vs[j]? =some v→Value.okWide P w r b t v)→DataW.TrodAll enc P w base spare held ts vs ds ps→
  ∃a:Args s,TReps (fun b=>b < w.heap.size) w (toForms s a) vs []∧smallArgs s a∧ds.length=ts.length
 | [],[],vs,ds,ps,_,_,h=>by
  obtain ⟨rfl,rfl,rfl⟩:=trodAll_nil h
  exact ⟨(),.nil,trivial,rfl⟩
 | [],_ :: _,_,_,_,h,_,_=>by cases h
 | _ :: _,[],_,_,_,h,_,_=>by cases h
 | t :: ts,(g,ty) :: s,vs,ds,ps,h,hv,hd=>by
  simp only[argsC,Bool.and_eq_true] at h
  obtain ⟨hg,ht,hr⟩:=h
  obtain ⟨v,vs1,d,ds1,p,q,rfl,rfl,rfl,h1,h2⟩:=trodAll_cons hd
  obtain ⟨a,ha,sa,la⟩:=Zvv ts s vs1 ds1 q hr (fun j t' v' e1 e2=>hv (j+1) t' v' e1 e2) h2
  obtain ⟨n,hn⟩:=h1
  obtain ⟨x,hx,sx⟩:=Zns 12 t ty v.cells.toList _ ht ⟨n,hn⟩
  have hok:=hv 0 t v rfl rfl
  have hf:CsRep (fun b=>b < w.heap.size) ρ0 w st0 (flat ty x) v.cells.toList:=Zdx hx
  have hT:=ZjM hf Zlg
  refine ⟨(x,a),?_,⟨sx,sa⟩,by simp[la]⟩
  cases hag:isAgg P t with
  | none=>rw[hag] at hg;cases hg
  | some g'=>
   rw[hag] at hg
   simp only[beq_iff_eq] at hg
   subst hg
   cases g' with
   | true=>
    have:∃cs,v=.agg cs:=by
     unfold isAgg at hag
     unfold Value.okWide at hok
     split at hok
     ·obtain ⟨cs,e,_⟩:=hok;exact ⟨cs,e⟩
     ·obtain ⟨cs,e,_⟩:=hok;exact ⟨cs,e⟩
     ·rename_i h1 h2
      split at hag
      ·rename_i fs hu;exact absurd hu (h1 fs)
      ·rename_i m e hu;exact absurd hu (h2 m e)
      ·cases hag
      ·cases hag
    obtain ⟨cs,rfl⟩:=this
    have:=TReps.ag hT ha
    simpa[toForms,toForm,Value.cells] using this
   | false=>
    have hs:=Zt5 hag ht hok
    rw[hs] at hT hf
    have hlen:=hf.1
    show TReps _ w ((flat ty x).headD .top :: toForms s a) (v :: vs1) []
    match hm:flat ty x,hlen with
    | [c],_=>
     rw[hm] at hT
     have:=hT.append ha
     simpa using this
theorem ZwM {f:Func} {s:ChangeSpec} {W W':World} {args:Array Value} {v:Value} {ds gs:List (DataW H)} {before pa pv:List MemPlace} {apart fresh handsOn again:Bool}
  (hW:DataW.Whole enc P f.params.toList s.vars apart W args.toList ds gs before)
  (hres:∀(b:Nat) (sp:Nat→Bool) (hd:Bool),DataW.TrodAll enc P W' b sp hd f.resultTypes.toList (v.resultList f.resultTypes.size) (s.fn H (ds++gs)).results [])
  (hargs:∀sp:Nat→Bool,(∀p∈before,sp p.block=true)→DataW.TrodAll enc P W' 0 sp true f.params.toList args.toList (s.fn H (ds++gs)).args pa)
  (hvars:∀sp:Nat→Bool,(∀p∈before,sp p.block=true)→DataW.TrodVars enc P W' sp s.vars (s.fn H (ds++gs)).vars pv)
  (hps:before=pa++pv) (hk:W.keptBut W' (· ∈before)) (hfz:∀a:Addr,a.block < W.heap.size→W'.frozen? a=W.frozen? a)
  (hok:∀(j:Nat) (t:TypeId) (r:Value),f.resultTypes[j]? =some t→(v.resultList f.resultTypes.size)[j]? =some r→Value.okWide P W' .any 0 t r):
  s.post enc P f apart fresh handsOn again W args v W':=by
 have hold:∀p∈before,(fun b=>decide (b < W.heap.size)) p.block=true:=fun p hp=>by simpa using hW.lt p hp
 refine ⟨ds,gs,before,[],pa,pv,hW,hres _ _ _,hargs _ hold,hvars _ hold,World.keptBut_mono (fun p hp=>⟨hp,?_⟩) hk,fun _=>?_⟩
 ·rw[hps,List.mem_append] at hp
  exact Or.inr hp
 ·have hlt:=hW.lt
  obtain ⟨_,_,_,_,_,hz,hn⟩:=hW
  refine ⟨hok,_,_,([]++pa)++pv,⟨[]++pa,pv,trodAll_append (hargs _ (fun _ _=>rfl)) (hres _ _ _),hvars _ (fun _ _=>rfl),rfl,?_,?_⟩,?_⟩
  ·intro b off hp
   have hb:MemPlace.cell b off∈before:=by rw[hps];simpa using hp
   rw[hfz _ (hlt _ hb)]
   exact hz b off hb
  ·intro ha
   have:=hn ha
   rw[hps] at this
   simpa using this
  ·intro p hp _
   rw[hps]
   simpa using hp
end
theorem Zli {H:Type} {enc:TypeId×Value→H} {P:Program} {W W':World} {sp:Nat→Bool} (hl:laidOutB P=true) (hb:Below W.heap.size W W'):
  ∀ {ts:List TypeId} {vs:List Value} {ds:List (DataW H)} {ps:List MemPlace},(∀t∈ts,P.readableRec t=true∧t < P.types.size)→(∀p∈ps,p.block < W.heap.size)→(∀p∈ps,sp p.block=true)→
   DataW.TrodAll enc P W 0 (fun _=>true) true ts vs ds ps→DataW.TrodAll enc P W' 0 sp true ts vs ds ps
 | [],_,_,_,_,_,_,h=>by
  obtain ⟨rfl,rfl,rfl⟩:=trodAll_nil h
  rfl
 | t :: ts,_,_,_,ht,hlt,hsp,h=>by
  obtain ⟨v,vs1,d,ds1,p,q,rfl,rfl,rfl,h1,h2⟩:=trodAll_cons h
  refine ⟨p,q,?_,Zli hl hb (fun t' ht'=>ht t' (List.mem_cons_of_mem _ ht')) (fun x hx=>hlt x (List.mem_append_right _ hx)) (fun x hx=>hsp x (List.mem_append_right _ hx)) h2,rfl⟩
  exact WideElems.Trod_stays hl (ht t (by simp)).1 (ht t (by simp)).2 h1 (fun x hx=>hb.same (hlt x (List.mem_append_left _ hx))) (fun x hx=>hsp x (List.mem_append_left _ hx))
theorem Zti {H:Type} {enc:TypeId×Value→H} {P:Program} {f:FuncId} {fn:Func} {s:ChangeSpec} {sg:Sig} {tb:TypeId} {fresh handsOn again:Bool} (hvars:s.vars=[]) (hres:fn.resultTypes= #[tb]) (hb:P.underlying tb=some .bool)
  (hl:laidOutB P=true) (hread:(fn.params.toList.all fun t=>P.readableRec t&&Nat.blt t P.types.size)=true) (hsg:argsC P fn.params.toList sg=true)
  (hs:∀ds:List (DataW H),ds.length=fn.params.toList.length→s.fn H ds= { results:=[.lit (.bool true)],args:=ds })
  {W:World} {base:Nat} {args:Array Value} {ds gs:List (DataW H)} {before:List MemPlace}
  (hval:∀(j:Nat) t v,fn.params[j]? =some t→args[j]? =some v→Value.okWide P W .any base t v)
  (hW:DataW.Whole enc P fn.params.toList s.vars false W args.toList ds gs before) (htab:Tabs.ok W) (hblocks:∀b∈Tabs.blocks,b < W.heap.size)
  (hcall:∀a:Args sg,smallArgs sg a→∃outs,CallOK P f (toForms sg a) (.d .bool true,outs)):
  Calls P f args W fun e W'=>∃v,e=.returned v∧s.post enc P fn false fresh handsOn again W args v W':=by
 have hW':=hW
 obtain ⟨p,q,hA,hV,rfl,_,_⟩:=hW
 rw[hvars] at hV
 obtain ⟨rfl,rfl⟩:=trodVars_none hV
 obtain ⟨a,hT,hsm,hlen⟩:=Zvv fn.params.toList sg args.toList ds p hsg (fun j t v h1 h2=>hval j t v (by simpa using h1) (by simpa using h2)) hA
 obtain ⟨outs,hc⟩:=hcall a hsm
 have hcl:=hc.1 (fun b=>b < W.heap.size) W args.toList [] hT List.nodup_nil (fun b hb=>by simp at hb) (fun b hb=>hb) ⟨hblocks,htab⟩
 rw[Array.toArray_toList] at hcl
 refine Calls.mono hcl ?_
 intro e W' he
 cases e with
 | returned v=>
  obtain ⟨F',Lr,Lo,hE,hlow,hTr,_,_,_⟩:=he
  have hv:v=.bool true:=by
   cases hTr with
   | flat h1 h2 h3=>cases h2 with | d _ _ _ h=>simpa[LRep] using h
  subst hv
  have hsame:∀i,i < W.heap.size→W'.heap[i]? =W.heap[i]?:=fun i hi=>hE.same i hi (.inl hi)
  have hbel:Below W.heap.size W W':=⟨hE.os,hE.tape,hE.output,hE.size,hsame⟩
  have hlt:=hW'.lt
  have hfn:s.fn H (ds++[])= { results:=[.lit (.bool true)],args:=ds } :=by rw[List.append_nil];exact hs ds hlen
  have hvs:(s.fn H (ds++[])).vars=[]:=by rw[hfn]
  refine ⟨_,rfl,ZwM (pa:=p) (pv:=[]) hW' (fun b sp hd=>?_) (fun sp hsp=>?_) (fun sp _=>?_) rfl ⟨hE.os,hE.output,fun i hi=>?_⟩ (fun x hx=>?_) (ok_one hres rfl (okWide_bool_mk hb true))⟩
  ·rw[hfn,hres]
   exact trodAll_mk1 (shut_bool hb _)
  ·rw[hfn]
   refine Zli hl hbel (fun t ht=>?_) (fun x hx=>hlt x (by simpa using hx)) (fun x hx=>hsp x (by simpa using hx)) hA
   have:=List.all_eq_true.1 hread t ht
   simp only[Bool.and_eq_true] at this
   exact ⟨this.1,Nat.le_of_ble_eq_true this.2⟩
  ·rw[hvars,hvs]
   rfl
  ·rw[hsame i hi]
   cases W.heap[i]? with
   | none=>rfl
   | some o=>
    cases o with
    | cells c t fr=>exact ⟨rfl,rfl,rfl,fun _ _=>rfl⟩
    | map es clock=>exact .inr ⟨rfl,rfl⟩
    | _=>rfl
  ·unfold World.frozen?
   rw[hsame _ hx]
 | _=>exact he.elim
end Go.Ev
end

section
namespace Go.Ev
variable [Tabs]
open Go
inductive CK where
 | d (t:Ty)
 | w (E:TypeId) (t:Ty)
 | m (kt vt:Ty)
 | q (E:TypeId) (e:DTy)
@[reducible] def CK.ty:CK→Ty
 |.d t=>t
 |.w _ t=>.sl t
 |.m kt vt=>.sl (.pr kt vt)
 |.q _ e=>.sl e.ty
@[reducible] def cksTy:List CK→Ty
 | []=>.un
 | [c]=>c.ty
 | c :: r=>.pr c.ty (cksTy r)
inductive PK where
 | dat (g:Bool) (t:Ty)
 | obj (T:TypeId) (cs:List CK)
 | ptr (T S:TypeId) (cs:List CK) -- a box that holds the address of such a box
 | nilp
 | row (E:TypeId) (t:Ty) -- a row of one's own,handed over whole
 | agg (cs:List CK) -- a struct with rows of one's own
@[reducible] def PK.ty:PK→Ty
 |.dat _ t=>t
 |.obj _ cs=>cksTy cs
 |.ptr _ _ cs=>cksTy cs
 |.nilp=>.un
 |.row _ t=>.sl t
 |.agg cs=>cksTy cs
abbrev PSig:=List PK
@[reducible] def PArgs:PSig→Type
 | []=>Unit
 | p :: r=>El p.ty×PArgs r
def ofCell:(c:CK)→AV→Option (El c.ty)
 |.d t,x=>ofForm (false,t) x
 |.w E t,.rw E' t' l=>if E'=E then (if h:t'=t then some (show List (El t) from h▸l) else none) else none
 |.w _ _,.nil=>some []
 |.m kt vt,.mv kt' vt' l=>if h:kt'=kt∧vt'=vt then some (show List (El kt×El vt) from h.1▸h.2▸l) else none
 |.q E d,.dw E' d' l=>if E'=E then (if h:d'=d then some (show List (El d.ty) from h▸l) else none) else none
 | _,_=>none
def toCell:(c:CK)→El c.ty→AV
 |.d t,v=>toForm (false,t) v
 |.w E t,l=>.rw E t l
 |.m kt vt,l=>.mv kt vt l
 |.q E d,l=>.dw E d l
def ofCells:(cs:List CK)→List AV→Option (El (cksTy cs))
 | [],[]=>some ()
 | [c],[x]=>ofCell c x
 | c :: d :: r,x :: xs=>(ofCell c x).bind fun a=>(ofCells (d :: r) xs).map fun b=>(a,b)
 | _,_=>none
def toCells:(cs:List CK)→El (cksTy cs)→List AV
 | [],_=>[]
 | [c],v=>[toCell c v]
 | c :: d :: r,v=>toCell c v.1 :: toCells (d :: r) v.2
def ofP:(p:PK)→AV→Option (El p.ty)
 |.dat g t,x=>ofForm (g,t) x
 |.obj T cs,.bx T' xs=>if T'=T then ofCells cs xs else none
 |.ptr T S cs,.bx T' [.bx S' xs]=>if T'=T∧S'=S then ofCells cs xs else none
 |.nilp,.cst (.pointer none)=>some ()
 |.row E t,x=>ofCell (.w E t) x
 |.agg cs,.ag xs=>ofCells cs xs
 | _,_=>none
def toP:(p:PK)→El p.ty→AV
 |.dat g t,v=>toForm (g,t) v
 |.obj T cs,v=>.bx T (toCells cs v)
 |.ptr T S cs,v=>.bx T [.bx S (toCells cs v)]
 |.nilp,_=>.cst (.pointer none)
 |.row E t,l=>.rw E t l
 |.agg cs,v=>.ag (toCells cs v)
def ofPs:(s:PSig)→List AV→Option (PArgs s)
 | [],[]=>some ()
 | p :: r,x :: xs=>(ofP p x).bind fun a=>(ofPs r xs).map fun b=>(a,b)
 | _,_=>none
def toPs:(s:PSig)→PArgs s→List AV
 | [],_=>[]
 | p :: r,a=>toP p a.1 :: toPs r a.2
section
variable {F:Nat→Prop} {w:World}
theorem Zr0 {c:CK} {x:AV} {a:El c.ty} {v:Value} {L:List Nat} (h:ofCell c x=some a) (hT:TReps F w [x] [v] L):TReps F w [toCell c a] [v] L:=by
 cases c with
 | d t=>
  obtain ⟨rfl,q⟩:=Zru (p:=(false,t)) h hT
  exact q
 | w E t=>
  by_cases hn:x=.nil
  ·subst hn
   simp only[ofCell,Option.some.injEq] at h
   subst h
   cases hT with
   | flat hx ha hr=>
    cases ha
    cases hr
    have:=TReps.rw (F:=F) (E:=E) (t:=t) (l:=[]) (v:=.slice none 0 0) ⟨[],⟨by simp,.inl ⟨rfl,rfl⟩⟩,fun i x hx=>by simp at hx⟩ (TReps.nil (w:=w))
    exact this
  cases x <;> simp only[ofCell] at h <;> first | (cases h;done) | (exact absurd rfl hn) | skip
  rename_i E' t' l
  split at h
  ·rename_i hE
   subst hE
   split at h
   ·rename_i ht
    subst ht
    cases h
    exact hT
   ·cases h
  ·cases h
 | m kt vt=>
  cases x <;> simp only[ofCell] at h <;> first | (cases h;done) | skip
  rename_i kt' vt' l
  split at h
  ·rename_i hk
   obtain ⟨h1,h2⟩:=hk
   subst h1
   subst h2
   cases h
   exact hT
  ·cases h
 | q E d=>
  cases x <;> simp only[ofCell] at h <;> first | (cases h;done) | skip
  rename_i E' d' l
  split at h
  ·rename_i hE
   subst hE
   split at h
   ·rename_i ht
    subst ht
    cases h
    exact hT
   ·cases h
  ·cases h
theorem Zly:∀ {cs:List CK} {xs:List AV} {a:El (cksTy cs)} {vs:List Value} {L:List Nat},ofCells cs xs=some a→TReps F w xs vs L→TReps F w (toCells cs a) vs L
 | [],[],a,vs,L,_,hT=>hT
 | [],_ :: _,a,vs,L,h,_=>by cases h
 | [c],[x],a,vs,L,h,hT=>by
  obtain ⟨v,us,L1,L2,rfl,rfl,t1,t2⟩:=hT.split
  cases t2
  have:=Zr0 (c:=c) h t1
  simpa[toCells] using this
 | [c],[],a,vs,L,h,_=>by cases h
 | [c],_ :: _ :: _,a,vs,L,h,_=>by cases h
 | c :: d :: r,[],a,vs,L,h,_=>by cases h
 | c :: d :: r,x :: xs,a,vs,L,h,hT=>by
  simp only[ofCells] at h
  obtain ⟨b,h1,h⟩:=Option.bind_eq_some_iff.1 h
  obtain ⟨e,h2,rfl⟩:=Option.map_eq_some_iff.1 h
  obtain ⟨v,us,L1,L2,rfl,rfl,t1,t2⟩:=hT.split
  have q1:=Zr0 h1 t1
  have q2:=Zly h2 t2
  have:=q1.append q2
  simpa[toCells] using this
theorem ZwE {p:PK} {x:AV} {a:El p.ty} {v:Value} {L:List Nat} (h:ofP p x=some a) (hT:TReps F w [x] [v] L):TReps F w [toP p a] [v] L:=by
 cases p with
 | dat g t=>
  obtain ⟨rfl,q⟩:=Zru (p:=(g,t)) h hT
  exact q
 | obj T cs=>
  cases x <;> simp only[ofP] at h <;> first | (cases h;done) | skip
  rename_i T' xs
  split at h
  ·rename_i hTT
   subst hTT
   cases hT with
   | flat hx=>cases hx
   | bx hb h1 h2=>exact .bx hb (Zly h h1) h2
  ·cases h
 | ptr T S cs=>
  match x,h with
  |.bx T' [.bx S' xs],h=>
   simp only[ofP] at h
   split at h
   ·rename_i hTT
    obtain ⟨rfl,rfl⟩:=hTT
    cases hT with
    | flat hx=>cases hx
    | bx hb h1 h2=>
     cases h1 with
     | flat hx=>cases hx
     | bx hb' h1' h2'=>exact .bx hb (.bx hb' (Zly h h1') h2') h2
   ·cases h
 | nilp=>
  match x,h with
  |.cst (.pointer none),h=>exact hT
 | row E t=>exact Zr0 (c:=.w E t) h hT
 | agg cs=>
  cases x <;> simp only[ofP] at h <;> first | (cases h;done) | skip
  cases hT with
  | flat hx=>cases hx
  | ag h1 h2=>exact .ag (Zly h h1) h2
theorem ZpO:∀ {s:PSig} {xs:List AV} {a:PArgs s} {vs:List Value} {L:List Nat},ofPs s xs=some a→TReps F w xs vs L→TReps F w (toPs s a) vs L
 | [],[],a,vs,L,_,hT=>hT
 | [],_ :: _,a,vs,L,h,_=>by cases h
 | p :: s,[],a,vs,L,h,_=>by cases h
 | p :: s,x :: xs,a,vs,L,h,hT=>by
  simp only[ofPs] at h
  obtain ⟨b,h1,h⟩:=Option.bind_eq_some_iff.1 h
  obtain ⟨c,h2,rfl⟩:=Option.map_eq_some_iff.1 h
  obtain ⟨v,us,L1,L2,rfl,rfl,t1,t2⟩:=hT.split
  have:=(ZwE h1 t1).append (ZpO h2 t2)
  simpa[toPs] using this
end
def typedO (s:PSig) (run:PArgs s→M Ans) (els:Run):Run:=fun xs=>match ofPs s xs with
 | none=>els xs
 | some a=>run a
def noRun:Run:=fun _=>fail
theorem Zxa {P:Program} {f:FuncId} (hk:Known P f):EntOK P f noRun:=⟨hk,fun xs=>⟨Det.fail,Sat.fail⟩⟩
theorem Zyp {p:PK} {i v o:Nat} :ofP p (.pt i v o)=none:=by
 cases p with
 | dat g t=>exact Zud
 | row E t=>rfl
 | _=>rfl
theorem Zyc {i v o:Nat} {r:List AV} :∀ {s:PSig},ofPs s (.pt i v o :: r)=none
 | []=>rfl
 | p :: s=>by simp only[ofPs,Zyp];rfl
theorem Zwo {P:Program} {f:FuncId} {s:PSig} {run:PArgs s→M Ans} {els:Run} (he:EntOK P f els) (hd:∀a,Det (run a)) (h:∀a,Sat (run a) (CallOK P f (toPs s a))):EntOK P f (typedO s run els):=by
 refine ⟨he.1,fun xs=>⟨?_,?_⟩⟩
 ·unfold typedO
  split
  ·exact (he.2 xs).1
  ·exact hd _
 ·unfold typedO
  split
  ·exact (he.2 xs).2
  ·rename_i a ha
   refine (h a).mono fun r hr=>⟨?_,fun q e=>by rw[e,Zyc] at ha;cases ha⟩
   intro F w vals L hT hL hLF hlow htab
   exact hr.1 F w vals L (ZpO ha hT) hL hLF hlow htab
def entO {α:Type} (s:PSig) (K:α→Ans) (ok:PArgs s→Bool) (v:PArgs s→α) (els:Run:=noRun):Run:=typedO s (fun a k=>bif ok a then k (K (v a)) else none) els
section
variable {P:Program} {t:Tbl} {tb:Tb} {f:FuncId} {fn:Func} {c:Code} {s:PSig} {α:Type} {K:α→Ans} {els:Run}
theorem Zyl (he:EntOK P f els) (ht:∀p∈t,EntOK P p.1 p.2) (hf:P.funcs[f]? =some fn) (hb:fn.body=some c)
  (hnd:∀a,nodupB ((procsF P (clOf t) tb fn c (toPs s a)).map (·.1))=true) {ok:PArgs s→Bool} {v:PArgs s→α}
  (h:∀a,ok a=true→∃n,evF P (clOf t) tb fn n (toPs s a)=some (K (v a))):EntOK P f (entO s K ok v els):=by
 obtain ⟨h1,h2⟩:=ZoO ht
 exact Zwo he (fun a=>Det.guard (Det.pure _)) fun a=>Sat.guard fun hok=>Sat.pure (by
  obtain ⟨n,hn⟩:=h a hok
  exact Zlu h1 h2 hf hb (hnd a) hn)
theorem Zxe (hf:P.funcs[f]? =some fn) (hname:(fn.name== "runtime.NumGoroutine")=false) (hb:fn.body=some c):Known P f:=⟨fn,c,hf,hname,hb⟩
end
end Go.Ev
end

section
namespace Go.Ev
variable [Tabs]
open Go
section
variable [Orgs] {P:Program} {Mod F0:Nat→Prop} {w0:World} {cl:Cl} {st st1:St} {a:Act} {w:World} {Q:Exit→Act→World→Prop}
end
theorem R.mod [Orgs] {Mod Mod' F:Nat→Prop} {ρ:Rho} {w:World} {st:St} {tm:Array Value} (h:R Mod F ρ w st tm) (hi:∀b,w.heap.size≤b→Mod' b)
  (hm:∀id ver o b,find id st.ob=some (ver,o)→o.free=true→b∈hb (ρ id)→Mod b→Mod' b):R Mod' F ρ w st tm:=
 ⟨h.size,h.tms,h.obs,fun id ver o b h1 h2 h3=>let ⟨k1,k2,k3,k4⟩:=h.sep id ver o b h1 h2 h3;⟨k1,hm id ver o b h1 h2 h3 k2,k3,k4⟩,h.data,h.low,hi,h.tabs⟩
theorem Evo.mod {Mod Mod' F F':Nat→Prop} {w w':World} (h:Evo Mod' F w F' w') (hm:∀b,Mod' b→Mod b):Evo Mod F w F' w':=
 ⟨h.os,h.tape,h.output,h.size,h.more,fun b hb=>(h.new b hb).imp id (hm b),fun b hlt hF=>h.same b hlt (hF.imp id fun hn hm'=>hn (hm b hm'))⟩
end Go.Ev
end

section
namespace Go.Ev
variable [Tabs]
open Go
structure RangeText where
 s1:Nat
 s2:Nat
 b0:Nat
 b1:Nat
 ops1:Array Oper
 ops2:Array Oper
 cr:Code
 tit:Nat
 tn:Nat
 tok:Nat
 td:Nat
 on:Oper
 en:Oper
@[reducible] def RangeText.code (X:RangeText):Code:=.block X.b0 (.loop (.seq (.region X.s1 X.ops1 false) (.seq (.cond (.tmp X.tok) .skip (.exit X.b0)) (.block X.b1 (.seq (.region X.s2 X.ops2 false) X.cr)))))
section
variable [Orgs] {P:Program} {Mod F0:Nat→Prop} {w0:World} {cl:Cl} {Q:Exit→Act→World→Prop}
theorem ZwZ {st:St} {F:Nat→Prop} {ρ:Rho} {w:World} {a:Act} (hR:R Mod F ρ w st a.tmps) {x:Operand} {y:AV} (h:st.ev x=y):ARep F ρ w st y (a.eval x):=h▸Zt hR x
end
@[reducible] def Orgs.at (O:Orgs) (J:Nat) (v:Value):Orgs:=⟨fun j=>if j=J then v else O.org j⟩
end Go.Ev
end

section
namespace Go.Ev
variable [Tabs]
open Go
@[reducible] def sorted (l:List Int):List Int:=l.mergeSort fun x y=>decide (x≤y)
end Go.Ev
end

section
namespace Go.Ev
open Go
variable [Tabs]
section
variable [Orgs] {P:Program} {Mod F0:Nat→Prop} {w0:World} {cl:Cl} {tb:Tb}
end
end Go.Ev
end

section
namespace Go.Ev
variable [Tabs]
open Go
section
variable [Orgs] {P:Program} {Mod F0:Nat→Prop} {w0:World} {cl:Cl} {st:St} {a:Act} {w:World}
end
end Go.Ev
end

section
namespace Go.Ev
open Go
theorem wrap_i64 {n:Int} (h0: -9223372036854775808≤n) (h1:n < 9223372036854775808):IntKind.i64.wrap n=n:=by
 have e:IntKind.i64.wrap n=if n % 18446744073709551616≥9223372036854775808 then n % 18446744073709551616 - 18446744073709551616 else n % 18446744073709551616:=by
  unfold IntKind.wrap
  simp[IntKind.signed,IntKind.bits]
 rw[e]
 split <;> omega
theorem ZF {k:Nat} (h:k < 4611686018427387904):IntKind.i64.wrap ((k:Int)+1)=((k+1:Nat):Int):=by
 rw[wrap_i64 (by omega) (by omega)];omega
theorem Zt6 {k:Nat} (h:k < 4611686018427387904) (h0:0 < k):IntKind.i64.wrap ((k:Int) - 1)=((k - 1:Nat):Int):=by
 rw[wrap_i64 (by omega) (by omega)];omega
theorem Zaz {k n:Nat} (h:k < n):decide ((k:Int) < Int.ofNat n)=true:=by simp;omega
theorem ZT {k n:Nat} (h:¬k < n):decide ((k:Int) < Int.ofNat n)=false:=by simp;omega
theorem ZlE {k n:Nat} (h:k < n):(decide ((0:Int)≤(k:Int))&&decide ((k:Int) < Int.ofNat n))=true:=by simp;omega
theorem nng {k:Nat} :decide ((0:Int)≤(k:Int))=true:=by simp
theorem ZV {α:Type} {l:List α} {k:Nat} {d:α} (h:k < l.length):List.getD l k d=l[k]:=by simp[List.getD,h]
theorem Zjg {a b:ByteArray} :eqB a b=true↔a=b:=by
 unfold eqB
 simp only[beq_iff_eq]
 constructor
 ·intro h;cases a;cases b;simp only[Array.toList_inj] at h;simp_all
 ·rintro rfl;rfl
theorem ZwS {a b:ByteArray} :eqB a b=decide (a=b):=by
 rw[Bool.eq_iff_iff,Zjg,decide_eq_true_iff]
instance elDec:(t:Ty)→DecidableEq (El t)
 |.int _=>inferInstanceAs (DecidableEq Int)
 |.bool=>inferInstanceAs (DecidableEq Bool)
 |.str=>inferInstanceAs (DecidableEq ByteArray)
 |.sl t=> @instDecidableEqList _ (elDec t)
 |.pr a b=> @instDecidableEqProd _ _ (elDec a) (elDec b)
 |.un=>inferInstanceAs (DecidableEq Unit)
def same (t:Ty) (a b:El t):Bool:= @decide (a=b) (elDec t a b)
def findFrom (s:ByteArray):List ByteArray→Nat→Option Nat
 | [],_=>none
 | x :: r,k=>if x=s then some k else findFrom s r (k+1)
theorem down {n:Nat} {P:Nat→Prop} (hend:P n) (hstep:∀k,k < n→P (k+1)→P k):∀k,k≤n→P k:=by
 intro k hk
 obtain ⟨m,rfl⟩:∃m,n=k+m:=⟨n - k,by omega⟩
 induction m generalizing k with
 | zero=>exact hend
 | succ m ih=>exact hstep k (by omega) (ih (k+1) (by rw[show k+1+m=k+(m+1) by omega];exact hend) (fun j hj h=>hstep j (by omega) h) (by omega))
theorem ZY {α:Type} {l:List α} {k:Nat} (h:k < l.length):l.drop k=l[k] :: l.drop (k+1):=List.drop_eq_getElem_cons h
end Go.Ev
end

section
namespace Go.Ev
variable [Tabs]
open Go
structure SE where
 key:Int
 b:Nat
 mb:Nat
 n:Int
 l:List (El (.int .i64)×El (.int .u64))
structure HS where
 m:Nat
 es:List SE
def SE.blocks (e:SE):List Nat:=[e.b,e.mb]
def HS.blocks (h:HS):List Nat:=h.m :: h.es.flatMap SE.blocks
def SetAt (T:TypeId) (w:World) (e:SE):Prop:=w.heap[e.b]? =some (.cells #[.int .i64 e.n,.map (some e.mb)] T (0,0))∧MapRep w (.int .i64) (.int .u64) e.l (.map (some e.mb))
def SE.ptr (e:SE):Value:=.pointer (some ⟨e.b,0,none⟩)
def Hold (T:TypeId) (w:World) (h:HS):Prop:=
 (∃es clock,w.heap[h.m]? =some (.map es clock)∧Stamps es clock∧es.toList.map (fun e=>(e.key,e.val))=h.es.map fun e=>(Value.int .i64 e.key,e.ptr))∧(h.es.map SE.key).Nodup∧∀e∈h.es,SetAt T w e
theorem SetAt.same {T:TypeId} {w w':World} {e:SE} (h:∀b∈e.blocks,w'.heap[b]? =w.heap[b]?) (hs:SetAt T w e):SetAt T w' e:=by
 obtain ⟨h1,r,es,clock,h2,h3,h4⟩:=hs
 cases h2
 exact ⟨by rw[h _ (by simp[SE.blocks])];exact h1,_,es,clock,rfl,by rw[h _ (by simp[SE.blocks])];exact h3,h4⟩
theorem Hold.same {T:TypeId} {w w':World} {h:HS} (hb:∀b∈h.blocks,w'.heap[b]? =w.heap[b]?) (hs:Hold T w h):Hold T w' h:=by
 obtain ⟨⟨es,clock,h1,h2,h3⟩,h4,h5⟩:=hs
 refine ⟨⟨es,clock,by rw[hb _ (by simp[HS.blocks])];exact h1,h2,h3⟩,h4,fun e he=>(h5 e he).same fun b hbb=>hb b ?_⟩
 simp only[HS.blocks,List.mem_cons,List.mem_flatMap]
 exact .inr ⟨e,he,hbb⟩
@[reducible] def Mh (Mod:Nat→Prop) (L:List Nat) (b:Nat):Prop:=Mod b∧b∉L
def RelH [Orgs] (T:TypeId) (Mod F0:Nat→Prop) (w0:World) (h:HS) (st:St) (a:Act) (w:World):Prop:=
 a.defers=[]∧h.blocks.Nodup∧∃F ρ,R (Mh Mod h.blocks) F ρ w st a.tmps∧Evo Mod F0 w0 F w∧Hold T w h∧∀b∈h.blocks,¬F b∧Mod b∧b < w.heap.size
section
variable [Orgs] {P:Program} {T:TypeId} {Mod F0:Nat→Prop} {w0:World} {cl:Cl} {h:HS} {st st1:St} {a:Act} {w:World} {Q:Exit→Act→World→Prop}
theorem RelH.out (hr:RelH T Mod F0 w0 h st a w):Rel Mod F0 w0 st a w:=by
 obtain ⟨hd,_,F,ρ,hR,hE,_,hb⟩:=hr
 exact ⟨hd,F,ρ,hR.mod (fun b hh=>(hR.hi b hh).1) fun _ _ _ _ _ _ _ h=>h.1,hE⟩
theorem RelH.next {st1:St} {a':Act} {w':World} {F:Nat→Prop} {ρ:Rho} (hn:h.blocks.Nodup) (hE:Evo Mod F0 w0 F w) (hH:Hold T w h) (hb:∀b∈h.blocks,¬F b∧Mod b∧b < w.heap.size)
  (hr:Rel (Mh Mod h.blocks) F w st1 a' w'):RelH T Mod F0 w0 h st1 a' w':=by
 obtain ⟨hd',F',ρ',hR',hE'⟩:=hr
 refine ⟨hd',hn,F',ρ',hR',hE.trans (hE'.mod fun b hb=>hb.1),hH.same fun b hbb=>hE'.same b (hb b hbb).2.2 (.inr fun hm=>hm.2 hbb),fun b hbb=>⟨fun hF=>(hE'.new b hF).elim (hb b hbb).1 fun hm=>hm.2 hbb,(hb b hbb).2.1,Nat.lt_of_lt_of_le (hb b hbb).2.2 hE'.size⟩⟩
theorem RelH.ev {x:Operand} {k:IntKind} {n:Int} (hr:RelH T Mod F0 w0 h st a w) (hx:st.ev x=.d (.int k) n):a.eval x=.int k n:=by
 obtain ⟨_,_,F,ρ,hR,_⟩:=hr
 exact Zaq (ZwZ hR hx)
theorem Rel.ev {x:Operand} {k:IntKind} {n:Int} (hr:Rel Mod F0 w0 st a w) (hx:st.ev x=.d (.int k) n):a.eval x=.int k n:=by
 obtain ⟨_,F,ρ,hR,_⟩:=hr
 exact Zaq (ZwZ hR hx)
end
end Go.Ev
end

section
namespace Go.Ev
variable [Tabs]
open Go
def rowRun (r:Run):Run:=fun xs=>match xs with
 | [.pt 0 0 0]=>fun k=>k (.top,[])
 | xs=>r xs
theorem ZwW {P:Program} {f:FuncId} {r:Run} (h:EntOK P f r):EntOK P f (rowRun r):=by
 refine ⟨h.1,fun xs=>?_⟩
 unfold rowRun
 split
 ·refine ⟨Det.pure _,Sat.pure ⟨fun F w vals L hT=>?_,fun _ e=>by cases e⟩⟩
  cases hT with
  | flat hx=>cases hx
 ·exact h.2 xs
section
variable {P:Program} {f:FuncId} {E:TypeId} {F:Nat→Prop} {w:World}
end
end Go.Ev
end

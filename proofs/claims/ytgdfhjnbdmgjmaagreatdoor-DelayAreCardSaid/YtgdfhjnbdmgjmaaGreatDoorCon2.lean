/- Part of the proof of: A delay is a store, and a load to which one comes from it, of one thread, neither of them locked; each once, in order; open are some of them: for every input the law answers true. -/
import Derived.Test.YtgdfhjnbdmgjmaaGreatDoorCon1
set_option maxRecDepth 100000
set_option linter.unusedSectionVars false
set_option linter.unusedVariables false
set_option linter.unusedSimpArgs false
section
open Go Go.Ev
namespace Go.Ev
noncomputable section
def sg_ref1_Spots:Sig:=[(false,.str)]
noncomputable def t_ref1_Spots:Tbl:=[]
theorem tk_ref1_Spots:∀p∈t_ref1_Spots,EntOK Go.Proofs.Tryz.prog p.1 p.2:=tbl_nil
noncomputable def c_ref1_Spots:Code:=Go.Proofs.Tryz.f84.body.getD .skip
def tb_ref1_Spots:Tb:=[(5,⟨[0,3,4,5,10],[(4,222)]⟩),(18,⟨[3,8],[]⟩)]
inductive J_ref1_Spots where | l5 (line:Int) (out:List (El T_ref1_Spot)) (pos:Nat) (col:Int) | l18 (out:List (El T_ref1_Spot)) (i:Int)
def T_ref1_Spots (s:ByteArray):J_ref1_Spots→JT J_ref1_Spots (List (El T_ref1_Spot)) |.l5 line out pos col=>.br (decide (pos < (ByteArray.size s))) (.br (decide ((Int.ofNat (List.length out)) > (0:Int))) (.br ((decide ((0:Int)≤(IntKind.i64.wrap ((Int.ofNat (List.length out)) - (1:Int)))))&&(decide ((IntKind.i64.wrap ((Int.ofNat (List.length out)) - (1:Int))) < (Int.ofNat (List.length out))))) (.br ((decide ((0:Int)≤(IntKind.i64.wrap ((Int.ofNat (List.length out)) - (1:Int)))))&&(decide ((IntKind.i64.wrap ((Int.ofNat (List.length out)) - (1:Int))) < (Int.ofNat (List.length out))))) (.br (Nat.ble (((List.length (List.set out (Int.toNat (IntKind.i64.wrap ((Int.ofNat (List.length out)) - (1:Int)))) ((List.getD out (Int.toNat (IntKind.i64.wrap ((Int.ofNat (List.length out)) - (1:Int)))) (dflt T_ref1_Spot)).1,((List.getD out (Int.toNat (IntKind.i64.wrap ((Int.ofNat (List.length out)) - (1:Int)))) (dflt T_ref1_Spot)).2.1,((IntKind.i64.wrap ((Int.ofNat pos) - (List.getD out (Int.toNat (IntKind.i64.wrap ((Int.ofNat (List.length out)) - (1:Int)))) (dflt T_ref1_Spot)).2.1)),(List.getD out (Int.toNat (IntKind.i64.wrap ((Int.ofNat (List.length out)) - (1:Int)))) (dflt T_ref1_Spot)).2.2.2)))))+1)*48) limit) (.br ((Int.ofNat (Utf8.decode s pos).1)==(10:Int)) (.jmp (.l5 (IntKind.i64.wrap (line+(1:Int))) ((List.set out (Int.toNat (IntKind.i64.wrap ((Int.ofNat (List.length out)) - (1:Int)))) ((List.getD out (Int.toNat (IntKind.i64.wrap ((Int.ofNat (List.length out)) - (1:Int)))) (dflt T_ref1_Spot)).1,((List.getD out (Int.toNat (IntKind.i64.wrap ((Int.ofNat (List.length out)) - (1:Int)))) (dflt T_ref1_Spot)).2.1,((IntKind.i64.wrap ((Int.ofNat pos) - (List.getD out (Int.toNat (IntKind.i64.wrap ((Int.ofNat (List.length out)) - (1:Int)))) (dflt T_ref1_Spot)).2.1)),(List.getD out (Int.toNat (IntKind.i64.wrap ((Int.ofNat (List.length out)) - (1:Int)))) (dflt T_ref1_Spot)).2.2.2))))++[((Int.ofNat (Utf8.decode s pos).1),((Int.ofNat pos),((0:Int),(line,(col,false)))))]) (pos+(Utf8.decode s pos).2) (1:Int))) (.jmp (.l5 line ((List.set out (Int.toNat (IntKind.i64.wrap ((Int.ofNat (List.length out)) - (1:Int)))) ((List.getD out (Int.toNat (IntKind.i64.wrap ((Int.ofNat (List.length out)) - (1:Int)))) (dflt T_ref1_Spot)).1,((List.getD out (Int.toNat (IntKind.i64.wrap ((Int.ofNat (List.length out)) - (1:Int)))) (dflt T_ref1_Spot)).2.1,((IntKind.i64.wrap ((Int.ofNat pos) - (List.getD out (Int.toNat (IntKind.i64.wrap ((Int.ofNat (List.length out)) - (1:Int)))) (dflt T_ref1_Spot)).2.1)),(List.getD out (Int.toNat (IntKind.i64.wrap ((Int.ofNat (List.length out)) - (1:Int)))) (dflt T_ref1_Spot)).2.2.2))))++[((Int.ofNat (Utf8.decode s pos).1),((Int.ofNat pos),((0:Int),(line,(col,false)))))]) (pos+(Utf8.decode s pos).2) (IntKind.i64.wrap (col+(1:Int)))))) (.no)) (.no)) (.no)) (.br (Nat.ble (((List.length out)+1)*48) limit) (.br ((Int.ofNat (Utf8.decode s pos).1)==(10:Int)) (.jmp (.l5 (IntKind.i64.wrap (line+(1:Int))) (out++[((Int.ofNat (Utf8.decode s pos).1),((Int.ofNat pos),((0:Int),(line,(col,false)))))]) (pos+(Utf8.decode s pos).2) (1:Int))) (.jmp (.l5 line (out++[((Int.ofNat (Utf8.decode s pos).1),((Int.ofNat pos),((0:Int),(line,(col,false)))))]) (pos+(Utf8.decode s pos).2) (IntKind.i64.wrap (col+(1:Int)))))) (.no))) (.br (decide ((Int.ofNat (List.length out)) > (0:Int))) (.br ((decide ((0:Int)≤(IntKind.i64.wrap ((Int.ofNat (List.length out)) - (1:Int)))))&&(decide ((IntKind.i64.wrap ((Int.ofNat (List.length out)) - (1:Int))) < (Int.ofNat (List.length out))))) (.br ((decide ((0:Int)≤(IntKind.i64.wrap ((Int.ofNat (List.length out)) - (1:Int)))))&&(decide ((IntKind.i64.wrap ((Int.ofNat (List.length out)) - (1:Int))) < (Int.ofNat (List.length out))))) (.jmp (.l18 (List.set out (Int.toNat (IntKind.i64.wrap ((Int.ofNat (List.length out)) - (1:Int)))) ((List.getD out (Int.toNat (IntKind.i64.wrap ((Int.ofNat (List.length out)) - (1:Int)))) (dflt T_ref1_Spot)).1,((List.getD out (Int.toNat (IntKind.i64.wrap ((Int.ofNat (List.length out)) - (1:Int)))) (dflt T_ref1_Spot)).2.1,((IntKind.i64.wrap ((Int.ofNat (ByteArray.size s)) - (List.getD out (Int.toNat (IntKind.i64.wrap ((Int.ofNat (List.length out)) - (1:Int)))) (dflt T_ref1_Spot)).2.1)),(List.getD out (Int.toNat (IntKind.i64.wrap ((Int.ofNat (List.length out)) - (1:Int)))) (dflt T_ref1_Spot)).2.2.2)))) (0:Int))) (.no)) (.no)) (.jmp (.l18 out (0:Int)))) |.l18 out i=>.br (decide (i < (Int.ofNat (List.length out)))) (.br ((decide ((0:Int)≤i))&&(decide (i < (Int.ofNat (List.length out))))) (.br ((List.getD out (Int.toNat i) (dflt T_ref1_Spot)).1==(65533:Int)) (.br ((decide ((0:Int)≤i))&&(decide (i < (Int.ofNat (List.length out))))) (.br ((decide ((0:Int)≤i))&&(decide (i < (Int.ofNat (List.length out))))) (.jmp (.l18 (List.set out (Int.toNat i) ((List.getD out (Int.toNat i) (dflt T_ref1_Spot)).1,((List.getD out (Int.toNat i) (dflt T_ref1_Spot)).2.1,((List.getD out (Int.toNat i) (dflt T_ref1_Spot)).2.2.1,((List.getD out (Int.toNat i) (dflt T_ref1_Spot)).2.2.2.1,((List.getD out (Int.toNat i) (dflt T_ref1_Spot)).2.2.2.2.1,((List.getD out (Int.toNat i) (dflt T_ref1_Spot)).2.2.1==(1:Int)))))))) (IntKind.i64.wrap (i+(1:Int))))) (.no)) (.no)) (.br ((decide ((0:Int)≤i))&&(decide (i < (Int.ofNat (List.length out))))) (.jmp (.l18 (List.set out (Int.toNat i) ((List.getD out (Int.toNat i) (dflt T_ref1_Spot)).1,((List.getD out (Int.toNat i) (dflt T_ref1_Spot)).2.1,((List.getD out (Int.toNat i) (dflt T_ref1_Spot)).2.2.1,((List.getD out (Int.toNat i) (dflt T_ref1_Spot)).2.2.2.1,((List.getD out (Int.toNat i) (dflt T_ref1_Spot)).2.2.2.2.1,false)))))) (IntKind.i64.wrap (i+(1:Int))))) (.no))) (.no)) (.leaf out)
def T0_ref1_Spots (s:ByteArray):JT J_ref1_Spots (List (El T_ref1_Spot)):=.jmp (.l5 (1:Int) [] 0 (1:Int))
def R_ref1_Spots:List (El T_ref1_Spot)→AV:=fun (r:List (El T_ref1_Spot))=>.rw 114 T_ref1_Spot r
def S_ref1_Spots (s:ByteArray):J_ref1_Spots→Nat×St |.l5 line out pos col=>(5,⟨mkTm 91 [(0,.d .str s),(3,.own 4 0 none),(4,.d (.int .i64) line),(5,.d (.int .i64) col),(10,.it 11 0)],[(4,0,.row 114 T_ref1_Spot out false),(11,0,.sit s pos)]⟩) |.l18 out i=>(18,⟨mkTm 91 [(3,.own 4 0 none),(8,.d (.int .i64) i)],[(4,0,.row 114 T_ref1_Spot out false)]⟩)
theorem en_ref1_Spots (s:ByteArray) (L:Lt):entryA Go.Proofs.Tryz.prog (clOf t_ref1_Spots) tb_ref1_Spots Go.Proofs.Tryz.f84 c_ref1_Spots L (toForms sg_ref1_Spots (s,()))=(T0_ref1_Spots s).run (fun v=>some (R_ref1_Spots v,tps (toForms sg_ref1_Spots (s,())))) fun j=>L (S_ref1_Spots s j).1 (S_ref1_Spots s j).2:=by kernel_rfl
theorem lp_ref1_Spots (s:ByteArray):∀(L:Lt) (j:J_ref1_Spots),procOf (procsF Go.Proofs.Tryz.prog (clOf t_ref1_Spots) tb_ref1_Spots Go.Proofs.Tryz.f84 c_ref1_Spots (toForms sg_ref1_Spots (s,()))) (S_ref1_Spots s j).1 L (S_ref1_Spots s j).2=(T_ref1_Spots s j).run (fun v=>some (R_ref1_Spots v,tps (toForms sg_ref1_Spots (s,())))) fun j=>L (S_ref1_Spots s j).1 (S_ref1_Spots s j).2 | L,.l5 line out pos col=>by kernel_rfl | L,.l18 out i=>by kernel_rfl
end
end Go.Ev
end

section
open Go
namespace Go.Ev
def rawFrom (s:ByteArray):Nat→Nat→Int→Int→List (El T_glyph_Spot)
 | 0,_,_,_=>[]
 | n+1,pos,line,col=>
  if pos < s.size then
   spotAt s pos line col false :: rawFrom s n (pos+(Utf8.decode s pos).2) (v_glyph_step line col (Int.ofNat (Utf8.decode s pos).1)).1 (v_glyph_step line col (Int.ofNat (Utf8.decode s pos).1)).2
  else []
def tellBad (x:El T_glyph_Spot):El T_glyph_Spot:=(x.1,x.2.1,x.2.2.1,x.2.2.2.1,x.2.2.2.2.1,x.1==(65533:Int)&&x.2.2.1==(1:Int))
def noSize (x:El T_glyph_Spot):El T_glyph_Spot:=(x.1,x.2.1,0,x.2.2.2.1,x.2.2.2.2.1,x.2.2.2.2.2)
theorem raw_spots (s:ByteArray):∀(n pos:Nat) (line col:Int),(rawFrom s n pos line col).map tellBad=spotsFrom s n pos line col
 | 0,_,_,_=>rfl
 | n+1,pos,line,col=>by
  unfold rawFrom spotsFrom
  split
  ·rw[List.map_cons,raw_spots s n]
   congr 1
   unfold tellBad spotAt badAt
   have e1:(Int.ofNat (Utf8.decode s pos).1==(65533:Int))=decide ((Utf8.decode s pos).1=65533):=by rw[Bool.eq_iff_iff];simp <;> omega
   have e2:(Int.ofNat (Utf8.decode s pos).2==(1:Int))=decide ((Utf8.decode s pos).2=1):=by rw[Bool.eq_iff_iff];simp <;> omega
   simp only[e1,e2]
  ·rfl
def v_ref1_Spots (s:ByteArray):List (El T_glyph_Spot):=spots s
def k_ref1_Spots (s:ByteArray):Bool:=smallText s
theorem g_ref1_Spots (s:ByteArray) (hk:k_ref1_Spots s=true):Goes (T_ref1_Spots s) (T0_ref1_Spots s) (v_ref1_Spots s):=by
 have hs:s.size < 549755813888:=of_decide_eq_true hk
 have loop2:∀(rest pre:List (El T_glyph_Spot)),pre.length+rest.length≤s.size→(∀x∈rest,x.2.2.2.2.2=false)→Goes (T_ref1_Spots s) (.jmp (.l18 (pre++rest) (pre.length:Int))) (pre++rest.map tellBad):=by
  intro rest
  induction rest with
  | nil=>
   intro pre _ _
   rw[goes_jmp]
   simp[T_ref1_Spots,goes_br,goes_leaf]
  | cons x rest ih=>
   intro pre hl hx
   rw[goes_jmp]
   have hk:pre.length < (pre++x :: rest).length:=by simp
   have hg:(pre++x :: rest).getD pre.length (dflt T_glyph_Spot)=x:=by simp[List.getD]
   have hset:∀y,(pre++x :: rest).set pre.length y=pre++y :: rest:=fun y=>by simp
   have hl':(pre++x :: rest).length≤s.size:=by simpa using hl
   simp only[T_ref1_Spots,goes_br,lt_len hk,nng,Bool.and_self,if_true,Int.toNat_natCast,hg,hset,wrap_succ (k:=pre.length) (by omega)]
   have hb:x.2.2.2.2.2=false:=hx x (by simp)
   have key:∀b,b=(x.1==(65533:Int)&&x.2.2.1==(1:Int))→Goes (T_ref1_Spots s) (.jmp (.l18 (pre++(x.1,x.2.1,x.2.2.1,x.2.2.2.1,x.2.2.2.2.1,b) :: rest) ((pre.length+1:Nat):Int))) (pre++(x :: rest).map tellBad):=by
    intro b e
    subst e
    have:=ih (pre++[tellBad x]) (by simp at hl ⊢;omega) (fun y hy=>hx y (by simp[hy]))
    simpa[tellBad] using this
   by_cases h:x.1=65533
   ·rw[if_pos (by simp[h])]
    exact key _ (by simp[h])
   ·rw[if_neg (by simp[h])]
    exact key _ (by simp[h])
 have raw_false:∀(n pos:Nat) (line col:Int),∀x∈rawFrom s n pos line col,x.2.2.2.2.2=false:=by
  intro n
  induction n with
  | zero=>intro pos line col x hx;simp[rawFrom] at hx
  | succ n ih=>
   intro pos line col x hx
   unfold rawFrom at hx
   split at hx
   ·rcases List.mem_cons.1 hx with rfl | hx
    ·rfl
    ·exact ih _ _ _ x hx
   ·simp at hx
 have loop1:∀(n pos:Nat) (line col:Int) (done:List (El T_glyph_Spot)) (out:List (El T_glyph_Spot)),s.size - pos < n→pos≤s.size→done.length≤pos→(∀x∈done,x.2.2.2.2.2=false)→
   ((done=[]∧out=[])∨∃ini x,done=ini++[x]∧out=ini++[noSize x]∧∃a m:Nat,x.2.1=(a:Int)∧x.2.2.1=(m:Int)∧a+m=pos)→
   Goes (T_ref1_Spots s) (.jmp (.l5 line out pos col)) ((done++rawFrom s n pos line col).map tellBad):=by
  intro n
  induction n with
  | zero=>intro pos line col done out h;omega
  | succ n ih=>
   intro pos line col done out hn hp hd hfalse hinv
   rw[goes_jmp]
   simp only[T_ref1_Spots,goes_br]
   by_cases h:pos < s.size
   ·have hle:=dec_le h
    have h1:=dec_ge (s:=s) (pos:=pos)
    have hraw:rawFrom s (n+1) pos line col=spotAt s pos line col false :: rawFrom s n (pos+(Utf8.decode s pos).2) (v_glyph_step line col (Int.ofNat (Utf8.decode s pos).1)).1 (v_glyph_step line col (Int.ofNat (Utf8.decode s pos).1)).2:=by
     rw[rawFrom,if_pos h]
    have hnext:∀(l c:Int),l=(v_glyph_step line col (Int.ofNat (Utf8.decode s pos).1)).1→c=(v_glyph_step line col (Int.ofNat (Utf8.decode s pos).1)).2→
      Goes (T_ref1_Spots s) (.jmp (.l5 l (done++[(Int.ofNat (Utf8.decode s pos).1,Int.ofNat pos,0,line,col,false)]) (pos+(Utf8.decode s pos).2) c)) ((done++rawFrom s (n+1) pos line col).map tellBad):=by
     intro l c el ec
     subst el;subst ec
     have e:∀(r:List (El T_glyph_Spot)),done++spotAt s pos line col false :: r=(done++[spotAt s pos line col false])++r:=fun r=>List.append_cons ..
     rw[hraw,e]
     refine ih (pos+(Utf8.decode s pos).2) _ _ (done++[spotAt s pos line col false]) _ (by omega) (by omega) (by simp <;> omega) ?_ (.inr ⟨done,spotAt s pos line col false,rfl,rfl,pos,(Utf8.decode s pos).2,rfl,rfl,rfl⟩)
     intro x hx
     rcases List.mem_append.1 hx with hx | hx
     ·exact hfalse x hx
     ·simp at hx;subst hx;rfl
    have hfin:if (Int.ofNat (Utf8.decode s pos).1==(10:Int))=true then
       Goes (T_ref1_Spots s) (.jmp (.l5 (IntKind.i64.wrap (line+1)) (done++[(Int.ofNat (Utf8.decode s pos).1,Int.ofNat pos,0,line,col,false)]) (pos+(Utf8.decode s pos).2) 1)) ((done++rawFrom s (n+1) pos line col).map tellBad)
      else Goes (T_ref1_Spots s) (.jmp (.l5 line (done++[(Int.ofNat (Utf8.decode s pos).1,Int.ofNat pos,0,line,col,false)]) (pos+(Utf8.decode s pos).2) (IntKind.i64.wrap (col+1)))) ((done++rawFrom s (n+1) pos line col).map tellBad):=by
     split
     ·rename_i hr
      exact hnext _ _ (by simp only[v_glyph_step,hr,cond_true]) (by simp only[v_glyph_step,hr,cond_true])
     ·rename_i hr
      rw[Bool.not_eq_true] at hr
      exact hnext _ _ (by simp only[v_glyph_step,hr,cond_false]) (by simp only[v_glyph_step,hr,cond_false])
    rcases hinv with ⟨rfl,rfl⟩ | ⟨ini,x,rfl,rfl,a,m,ha,hm,ham⟩
    ·have hb:Nat.ble ((([]:List (El T_glyph_Spot)).length+1)*48) limit=true:=by decide
     simp only[h,decide_true,if_true,hb]
     rw[if_neg (by simp)]
     exact hfin
    ·have hlen:(ini++[noSize x]).length=ini.length+1:=by simp
     have hd2:ini.length+1≤pos:=by simpa using hd
     have hw:IntKind.i64.wrap (Int.ofNat (ini++[noSize x]).length - 1)=(ini.length:Int):=by rw[hlen,wrap_i64 (by simp <;> omega) (by simp <;> omega)];simp
     have hg:(ini++[noSize x]).getD ini.length (dflt T_glyph_Spot)=noSize x:=by simp[List.getD]
     have hset:∀y,(ini++[noSize x]).set ini.length y=ini++[y]:=fun y=>by simp
     have hat:IntKind.i64.wrap (Int.ofNat pos - (noSize x).2.1)=x.2.2.1:=by
      show IntKind.i64.wrap (Int.ofNat pos - x.2.1)=_
      rw[ha,hm,wrap_i64 (by simp <;> omega) (by simp <;> omega)]
      simp;omega
     have hy:((noSize x).1,(noSize x).2.1,x.2.2.1,(noSize x).2.2.2)=x:=rfl
     have hgt:decide (Int.ofNat (ini++[noSize x]).length > 0)=true:=by rw[hlen];simp <;> omega
     have hb:Nat.ble (((ini++[x]).length+1)*48) limit=true:=by
      apply Nat.ble_eq_true_of_le;unfold limit;simp <;> omega
     have hlt:ini.length < (ini++[noSize x]).length:=by simp
     simp only[h,decide_true,if_true,hgt,hw,lt_len hlt,nng,Bool.and_self,Int.toNat_natCast,hg,hset,hat,hy,hb]
     exact hfin
   ·have hend:rawFrom s (n+1) pos line col=[]:=by rw[rawFrom,if_neg h]
    have hpos:pos=s.size:=by omega
    rw[hend,List.append_nil]
    simp only[h,decide_false]
    rw[if_neg (by simp)]
    rcases hinv with ⟨rfl,rfl⟩ | ⟨ini,x,rfl,rfl,a,m,ha,hm,ham⟩
    ·rw[if_neg (by simp)]
     exact loop2 [] [] (by simp) (by simp)
    ·have hlen:(ini++[noSize x]).length=ini.length+1:=by simp
     have hd2:ini.length+1≤pos:=by simpa using hd
     have hw:IntKind.i64.wrap (Int.ofNat (ini++[noSize x]).length - 1)=(ini.length:Int):=by rw[hlen,wrap_i64 (by simp <;> omega) (by simp <;> omega)];simp
     have hg:(ini++[noSize x]).getD ini.length (dflt T_glyph_Spot)=noSize x:=by simp[List.getD]
     have hset:∀y,(ini++[noSize x]).set ini.length y=ini++[y]:=fun y=>by simp
     have hat:IntKind.i64.wrap (Int.ofNat s.size - (noSize x).2.1)=x.2.2.1:=by
      show IntKind.i64.wrap (Int.ofNat s.size - x.2.1)=_
      rw[ha,hm,wrap_i64 (by simp <;> omega) (by simp <;> omega)]
      simp;omega
     have hy:((noSize x).1,(noSize x).2.1,x.2.2.1,(noSize x).2.2.2)=x:=rfl
     have hgt:decide (Int.ofNat (ini++[noSize x]).length > 0)=true:=by rw[hlen];simp <;> omega
     have hlt:ini.length < (ini++[noSize x]).length:=by simp
     simp only[if_true,hgt,hw,lt_len hlt,nng,Bool.and_self,Int.toNat_natCast,hg,hset,hat,hy]
     exact loop2 (ini++[x]) [] (by simp <;> omega) hfalse
 unfold T0_ref1_Spots v_ref1_Spots spots
 have:=loop1 (s.size+1) 0 1 1 [] [] (by omega) (by omega) (by simp) (by simp) (.inl ⟨rfl,rfl⟩)
 rw[List.nil_append,raw_spots] at this
 exact this
end Go.Ev
end

section
open Go Go.Ev
namespace Go.Ev
noncomputable section
noncomputable def e_ref1_Spots:Run:=entG sg_ref1_Spots R_ref1_Spots (fun a=>k_ref1_Spots a.1) (fun a=>v_ref1_Spots a.1)
theorem ok_ref1_Spots:EntOK Go.Proofs.Tryz.prog 84 e_ref1_Spots:=entG_ok (tb:=tb_ref1_Spots) (c:=c_ref1_Spots) tk_ref1_Spots (by kernel_rfl) (by kernel_rfl) (by kernel_rfl) (fun a=>by kernel_rfl) fun ⟨s,_⟩ hk=>evF_goes (c:=c_ref1_Spots) (K:=fun v=>(R_ref1_Spots v,tps (toForms sg_ref1_Spots (s,())))) (S:=S_ref1_Spots s) (by kernel_rfl) (en_ref1_Spots s) (lp_ref1_Spots s) (g_ref1_Spots s hk)
end
end Go.Ev
end

section
open Go Go.Ev
namespace Go.Ev
noncomputable section
def sg_ref1_Regs:Sig:=[]
noncomputable def t_ref1_Regs:Tbl:=[]
theorem tk_ref1_Regs:∀p∈t_ref1_Regs,EntOK Go.Proofs.Tryz.prog p.1 p.2:=tbl_nil
noncomputable def c_ref1_Regs:Code:=Go.Proofs.Tryz.f112.body.getD .skip
def tb_ref1_Regs:Tb:=[]
def T_ref1_Regs:Empty→JT Empty (List ByteArray):=fun j=>nomatch j
def T0_ref1_Regs:JT Empty (List ByteArray):=.leaf ([(bs [114,97,120]),(bs [114,98,120]),(bs [114,99,120]),(bs [114,100,120]),(bs [114,115,105]),(bs [114,100,105]),(bs [114,56]),(bs [114,57])])
def v_ref1_Regs:List ByteArray:=([(bs [114,97,120]),(bs [114,98,120]),(bs [114,99,120]),(bs [114,100,120]),(bs [114,115,105]),(bs [114,100,105]),(bs [114,56]),(bs [114,57])])
theorem g_ref1_Regs:Goes (T_ref1_Regs) (T0_ref1_Regs) (v_ref1_Regs):=Goes.leaf
def R_ref1_Regs:List ByteArray→AV:=fun (r:List ByteArray)=>.rw 9 .str r
def S_ref1_Regs:Empty→Nat×St:=fun j=>nomatch j
theorem en_ref1_Regs (L:Lt):entryA Go.Proofs.Tryz.prog (clOf t_ref1_Regs) tb_ref1_Regs Go.Proofs.Tryz.f112 c_ref1_Regs L (toForms sg_ref1_Regs (()))=(T0_ref1_Regs).run (fun v=>some (R_ref1_Regs v,tps (toForms sg_ref1_Regs (())))) fun j=>L (S_ref1_Regs j).1 (S_ref1_Regs j).2:=by kernel_rfl
theorem lp_ref1_Regs:∀(L:Lt) (j:Empty),procOf (procsF Go.Proofs.Tryz.prog (clOf t_ref1_Regs) tb_ref1_Regs Go.Proofs.Tryz.f112 c_ref1_Regs (toForms sg_ref1_Regs (()))) (S_ref1_Regs j).1 L (S_ref1_Regs j).2=(T_ref1_Regs j).run (fun v=>some (R_ref1_Regs v,tps (toForms sg_ref1_Regs (())))) fun j=>L (S_ref1_Regs j).1 (S_ref1_Regs j).2:=fun L j=>nomatch j
noncomputable def e_ref1_Regs:Run:=entT sg_ref1_Regs R_ref1_Regs (fun a=>v_ref1_Regs)
theorem ok_ref1_Regs:EntOK Go.Proofs.Tryz.prog 112 e_ref1_Regs:=entT_ok (tb:=tb_ref1_Regs) (c:=c_ref1_Regs) tk_ref1_Regs (by kernel_rfl) (by kernel_rfl) (by kernel_rfl) (fun a=>by kernel_rfl) fun _=>evF_goes (c:=c_ref1_Regs) (K:=fun v=>(R_ref1_Regs v,tps (toForms sg_ref1_Regs (())))) (S:=S_ref1_Regs) (by kernel_rfl) (en_ref1_Regs) (lp_ref1_Regs) (g_ref1_Regs)
end
end Go.Ev
end

section
open Go Go.Ev
namespace Go.Ev
noncomputable section
def sg_ref1_ops:Sig:=[]
noncomputable def t_ref1_ops:Tbl:=[]
theorem tk_ref1_ops:∀p∈t_ref1_ops,EntOK Go.Proofs.Tryz.prog p.1 p.2:=tbl_nil
noncomputable def c_ref1_ops:Code:=Go.Proofs.Tryz.f113.body.getD .skip
def tb_ref1_ops:Tb:=[]
def T_ref1_ops:Empty→JT Empty (List ByteArray):=fun j=>nomatch j
def T0_ref1_ops:JT Empty (List ByteArray):=.leaf ([(bs []),(bs [109,111,118]),(bs [97,100,100]),(bs [115,117,98]),(bs [97,110,100]),(bs [111,114]),(bs [120,111,114]),(bs [99,109,112]),(bs [120,99,104,103]),(bs [99,109,112,120,99,104,103]),(bs [106,109,112]),(bs []),(bs [109,102,101,110,99,101]),(bs [110,111,112]),(bs [104,108,116])])
def v_ref1_ops:List ByteArray:=([(bs []),(bs [109,111,118]),(bs [97,100,100]),(bs [115,117,98]),(bs [97,110,100]),(bs [111,114]),(bs [120,111,114]),(bs [99,109,112]),(bs [120,99,104,103]),(bs [99,109,112,120,99,104,103]),(bs [106,109,112]),(bs []),(bs [109,102,101,110,99,101]),(bs [110,111,112]),(bs [104,108,116])])
theorem g_ref1_ops:Goes (T_ref1_ops) (T0_ref1_ops) (v_ref1_ops):=Goes.leaf
def R_ref1_ops:List ByteArray→AV:=fun (r:List ByteArray)=>.rw 9 .str r
def S_ref1_ops:Empty→Nat×St:=fun j=>nomatch j
theorem en_ref1_ops (L:Lt):entryA Go.Proofs.Tryz.prog (clOf t_ref1_ops) tb_ref1_ops Go.Proofs.Tryz.f113 c_ref1_ops L (toForms sg_ref1_ops (()))=(T0_ref1_ops).run (fun v=>some (R_ref1_ops v,tps (toForms sg_ref1_ops (())))) fun j=>L (S_ref1_ops j).1 (S_ref1_ops j).2:=by kernel_rfl
theorem lp_ref1_ops:∀(L:Lt) (j:Empty),procOf (procsF Go.Proofs.Tryz.prog (clOf t_ref1_ops) tb_ref1_ops Go.Proofs.Tryz.f113 c_ref1_ops (toForms sg_ref1_ops (()))) (S_ref1_ops j).1 L (S_ref1_ops j).2=(T_ref1_ops j).run (fun v=>some (R_ref1_ops v,tps (toForms sg_ref1_ops (())))) fun j=>L (S_ref1_ops j).1 (S_ref1_ops j).2:=fun L j=>nomatch j
noncomputable def e_ref1_ops:Run:=entT sg_ref1_ops R_ref1_ops (fun a=>v_ref1_ops)
theorem ok_ref1_ops:EntOK Go.Proofs.Tryz.prog 113 e_ref1_ops:=entT_ok (tb:=tb_ref1_ops) (c:=c_ref1_ops) tk_ref1_ops (by kernel_rfl) (by kernel_rfl) (by kernel_rfl) (fun a=>by kernel_rfl) fun _=>evF_goes (c:=c_ref1_ops) (K:=fun v=>(R_ref1_ops v,tps (toForms sg_ref1_ops (())))) (S:=S_ref1_ops) (by kernel_rfl) (en_ref1_ops) (lp_ref1_ops) (g_ref1_ops)
end
end Go.Ev
end

section
open Go Go.Ev
namespace Go.Ev
noncomputable section
def sg_ref1_conds:Sig:=[]
noncomputable def t_ref1_conds:Tbl:=[]
theorem tk_ref1_conds:∀p∈t_ref1_conds,EntOK Go.Proofs.Tryz.prog p.1 p.2:=tbl_nil
noncomputable def c_ref1_conds:Code:=Go.Proofs.Tryz.f114.body.getD .skip
def tb_ref1_conds:Tb:=[]
def T_ref1_conds:Empty→JT Empty (List ByteArray):=fun j=>nomatch j
def T0_ref1_conds:JT Empty (List ByteArray):=.leaf ([(bs []),(bs [106,101]),(bs [106,110,101]),(bs [106,108]),(bs [106,108,101]),(bs [106,103]),(bs [106,103,101]),(bs [106,98]),(bs [106,98,101]),(bs [106,97]),(bs [106,97,101])])
def v_ref1_conds:List ByteArray:=([(bs []),(bs [106,101]),(bs [106,110,101]),(bs [106,108]),(bs [106,108,101]),(bs [106,103]),(bs [106,103,101]),(bs [106,98]),(bs [106,98,101]),(bs [106,97]),(bs [106,97,101])])
theorem g_ref1_conds:Goes (T_ref1_conds) (T0_ref1_conds) (v_ref1_conds):=Goes.leaf
def R_ref1_conds:List ByteArray→AV:=fun (r:List ByteArray)=>.rw 9 .str r
def S_ref1_conds:Empty→Nat×St:=fun j=>nomatch j
theorem en_ref1_conds (L:Lt):entryA Go.Proofs.Tryz.prog (clOf t_ref1_conds) tb_ref1_conds Go.Proofs.Tryz.f114 c_ref1_conds L (toForms sg_ref1_conds (()))=(T0_ref1_conds).run (fun v=>some (R_ref1_conds v,tps (toForms sg_ref1_conds (())))) fun j=>L (S_ref1_conds j).1 (S_ref1_conds j).2:=by kernel_rfl
theorem lp_ref1_conds:∀(L:Lt) (j:Empty),procOf (procsF Go.Proofs.Tryz.prog (clOf t_ref1_conds) tb_ref1_conds Go.Proofs.Tryz.f114 c_ref1_conds (toForms sg_ref1_conds (()))) (S_ref1_conds j).1 L (S_ref1_conds j).2=(T_ref1_conds j).run (fun v=>some (R_ref1_conds v,tps (toForms sg_ref1_conds (())))) fun j=>L (S_ref1_conds j).1 (S_ref1_conds j).2:=fun L j=>nomatch j
noncomputable def e_ref1_conds:Run:=entT sg_ref1_conds R_ref1_conds (fun a=>v_ref1_conds)
theorem ok_ref1_conds:EntOK Go.Proofs.Tryz.prog 114 e_ref1_conds:=entT_ok (tb:=tb_ref1_conds) (c:=c_ref1_conds) tk_ref1_conds (by kernel_rfl) (by kernel_rfl) (by kernel_rfl) (fun a=>by kernel_rfl) fun _=>evF_goes (c:=c_ref1_conds) (K:=fun v=>(R_ref1_conds v,tps (toForms sg_ref1_conds (())))) (S:=S_ref1_conds) (by kernel_rfl) (en_ref1_conds) (lp_ref1_conds) (g_ref1_conds)
end
end Go.Ev
end

section
open Go Go.Ev
namespace Go.Ev
noncomputable section
def sg_ref1_Word:Sig:=[(false,.str)]
noncomputable def t_ref1_Word:Tbl:=[(112,e_ref1_Regs),(89,e_ref1_index),(113,e_ref1_ops),(114,e_ref1_conds)]
theorem tk_ref1_Word:∀p∈t_ref1_Word,EntOK Go.Proofs.Tryz.prog p.1 p.2:=tbl_cons ok_ref1_Regs (tbl_cons ok_ref1_index (tbl_cons ok_ref1_ops (tbl_cons ok_ref1_conds (tbl_nil))))
noncomputable def c_ref1_Word:Code:=Go.Proofs.Tryz.f85.body.getD .skip
def tb_ref1_Word:Tb:=[]
def T_ref1_Word (s:ByteArray):Empty→JT Empty (Bool):=fun j=>nomatch j
def T0_ref1_Word (s:ByteArray):JT Empty (Bool):=.br (! (eqB s (bs []))) (.br (eqB s (bs [115,121,109])) (.leaf true) (.br (eqB s (bs [116,104,114,101,97,100])) (.leaf true) (.br (eqB s (bs [108,111,99,107])) (.leaf true) (.br (k_ref1_index v_ref1_Regs s) (.br (decide ((v_ref1_index v_ref1_Regs s)≥(0:Int))) (.leaf true) (.br (k_ref1_index v_ref1_ops s) (.br (decide ((v_ref1_index v_ref1_ops s) > (0:Int))) (.leaf true) (.br (k_ref1_index v_ref1_conds s) (.leaf (decide ((v_ref1_index v_ref1_conds s) > (0:Int)))) (.no))) (.no))) (.no))))) (.leaf false)
def u_ref1_Word (s:ByteArray):Bool:=bif (! (eqB s (bs []))) then bif (eqB s (bs [115,121,109])) then true else bif (eqB s (bs [116,104,114,101,97,100])) then true else bif (eqB s (bs [108,111,99,107])) then true else bif (k_ref1_index v_ref1_Regs s) then bif (decide ((v_ref1_index v_ref1_Regs s)≥(0:Int))) then true else bif (k_ref1_index v_ref1_ops s) then bif (decide ((v_ref1_index v_ref1_ops s) > (0:Int))) then true else bif (k_ref1_index v_ref1_conds s) then (decide ((v_ref1_index v_ref1_conds s) > (0:Int))) else false else false else false else false
def ku_ref1_Word (s:ByteArray):Bool:=bif (! (eqB s (bs []))) then bif (eqB s (bs [115,121,109])) then true else bif (eqB s (bs [116,104,114,101,97,100])) then true else bif (eqB s (bs [108,111,99,107])) then true else bif (k_ref1_index v_ref1_Regs s) then bif (decide ((v_ref1_index v_ref1_Regs s)≥(0:Int))) then true else bif (k_ref1_index v_ref1_ops s) then bif (decide ((v_ref1_index v_ref1_ops s) > (0:Int))) then true else bif (k_ref1_index v_ref1_conds s) then true else false else false else false else true
theorem gu_ref1_Word (s:ByteArray) (hk:ku_ref1_Word s=true):Goes (T_ref1_Word s) (T0_ref1_Word s) (u_ref1_Word s):=Goes.brk hk (fun hk=>Goes.brk hk (fun hk=>Goes.leaf) (fun hk=>Goes.brk hk (fun hk=>Goes.leaf) (fun hk=>Goes.brk hk (fun hk=>Goes.leaf) (fun hk=>Goes.brk hk (fun hk=>Goes.brk hk (fun hk=>Goes.leaf) (fun hk=>Goes.brk hk (fun hk=>Goes.brk hk (fun hk=>Goes.leaf) (fun hk=>Goes.brk hk (fun hk=>Goes.leaf) (fun hk=>Goes.nok hk))) (fun hk=>Goes.nok hk))) (fun hk=>Goes.nok hk))))) (fun hk=>Goes.leaf)
def R_ref1_Word:Bool→AV:=fun (r:Bool)=>.d .bool r
def S_ref1_Word (s:ByteArray):Empty→Nat×St:=fun j=>nomatch j
theorem en_ref1_Word (s:ByteArray) (L:Lt):entryA Go.Proofs.Tryz.prog (clOf t_ref1_Word) tb_ref1_Word Go.Proofs.Tryz.f85 c_ref1_Word L (toForms sg_ref1_Word (s,()))=(T0_ref1_Word s).run (fun v=>some (R_ref1_Word v,tps (toForms sg_ref1_Word (s,())))) fun j=>L (S_ref1_Word s j).1 (S_ref1_Word s j).2:=by kernel_rfl
theorem lp_ref1_Word (s:ByteArray):∀(L:Lt) (j:Empty),procOf (procsF Go.Proofs.Tryz.prog (clOf t_ref1_Word) tb_ref1_Word Go.Proofs.Tryz.f85 c_ref1_Word (toForms sg_ref1_Word (s,()))) (S_ref1_Word s j).1 L (S_ref1_Word s j).2=(T_ref1_Word s j).run (fun v=>some (R_ref1_Word v,tps (toForms sg_ref1_Word (s,())))) fun j=>L (S_ref1_Word s j).1 (S_ref1_Word s j).2:=fun L j=>nomatch j
end
end Go.Ev
end

section
open Go
namespace Go.Ev
def v_ref1_Word (s:ByteArray):Bool:=v_names_Word s
theorem g_ref1_Word (s:ByteArray):Goes (T_ref1_Word s) (T0_ref1_Word s) (v_ref1_Word s):=by
 have hk:∀l:List ByteArray,l.length < 100→k_ref1_index l s=true:=fun l h=>decide_eq_true (by omega)
 have h1:k_ref1_index v_ref1_Regs s=true:=hk _ (by decide)
 have h2:k_ref1_index v_ref1_ops s=true:=hk _ (by decide)
 have h3:k_ref1_index v_ref1_conds s=true:=hk _ (by decide)
 have hku:ku_ref1_Word s=true:=by
  unfold ku_ref1_Word
  simp only[h1,h2,h3,cond_true]
  cases eqB s (bs []) <;> cases eqB s (bs [115,121,109]) <;> cases eqB s (bs [116,104,114,101,97,100]) <;> cases eqB s (bs [108,111,99,107]) <;> cases decide (v_ref1_index v_ref1_Regs s≥0) <;> cases decide (v_ref1_index v_ref1_ops s > 0) <;> rfl
 have hv:v_ref1_Word s=u_ref1_Word s:=by
  unfold v_ref1_Word u_ref1_Word v_names_Word
  simp only[h1,h2,h3,cond_true,eqB_eq]
  have hr:decide (v_ref1_index v_ref1_Regs s≥0)=(findFrom s v_names_regs 0).isSome:=by
   unfold v_ref1_index
   rw[show v_ref1_Regs=v_names_regs from rfl]
   cases findFrom s v_names_regs 0 <;> simp
  have hR:(v_names_Reg s).2=(findFrom s v_names_regs 0).isSome:=by
   unfold v_names_Reg
   cases findFrom s v_names_regs 0 <;> rfl
  rw[hr,hR]
  by_cases h0:s=bs []
  ·subst h0
   decide
  have hidx:∀l:List ByteArray,decide (v_ref1_index (bs [] :: l) s > 0)=(findFrom s l 0).isSome:=by
   intro l
   unfold v_ref1_index
   rw[show findFrom s (bs [] :: l) 0=findFrom s l (0+1) by rw[findFrom,if_neg (fun e=>h0 e.symm)],findFrom_shift (k:=0) (j:=0+1)]
   cases h:findFrom s l (0+1) with
   | none=>simp
   | some n=>have:=findFrom_some h;simp;omega
  have ho:=hidx v_names_ops
  have hj:=hidx v_names_jumps
  rw[show v_ref1_ops=bs [] :: v_names_ops from rfl,ho,show v_ref1_conds=bs [] :: v_names_jumps from rfl,hj]
  have hO:(v_names_Op s).2.2=((findFrom s v_names_ops 0).isSome || (findFrom s v_names_jumps 0).isSome):=by
   unfold v_names_Op
   rw[if_neg h0]
   cases findFrom s v_names_ops 0 with
   | some k=>rfl
   | none=>cases findFrom s v_names_jumps 0 <;> rfl
  rw[hO]
  simp only[h0,decide_false,Bool.not_false,cond_true]
  cases (findFrom s v_names_ops 0).isSome <;> cases (findFrom s v_names_jumps 0).isSome <;> rfl
 rw[hv]
 exact gu_ref1_Word s hku
end Go.Ev
end

section
open Go Go.Ev
namespace Go.Ev
noncomputable section
noncomputable def e_ref1_Word:Run:=entT sg_ref1_Word R_ref1_Word (fun a=>v_ref1_Word a.1)
theorem ok_ref1_Word:EntOK Go.Proofs.Tryz.prog 85 e_ref1_Word:=entT_ok (tb:=tb_ref1_Word) (c:=c_ref1_Word) tk_ref1_Word (by kernel_rfl) (by kernel_rfl) (by kernel_rfl) (fun a=>by kernel_rfl) fun ⟨s,_⟩=>evF_goes (c:=c_ref1_Word) (K:=fun v=>(R_ref1_Word v,tps (toForms sg_ref1_Word (s,())))) (S:=S_ref1_Word s) (by kernel_rfl) (en_ref1_Word s) (lp_ref1_Word s) (g_ref1_Word s)
end
end Go.Ev
end

section
open Go Go.Ev
namespace Go.Ev
noncomputable section
def sg_ref1_Letter:Sig:=[(false,(.int .i32))]
noncomputable def t_ref1_Letter:Tbl:=[]
theorem tk_ref1_Letter:∀p∈t_ref1_Letter,EntOK Go.Proofs.Tryz.prog p.1 p.2:=tbl_nil
noncomputable def c_ref1_Letter:Code:=Go.Proofs.Tryz.f86.body.getD .skip
def tb_ref1_Letter:Tb:=[]
def T_ref1_Letter (r:Int):Empty→JT Empty (Bool):=fun j=>nomatch j
def T0_ref1_Letter (r:Int):JT Empty (Bool):=.br (decide (r≥(97:Int))) (.br (decide (r≤(122:Int))) (.leaf true) (.br (decide (r≥(65:Int))) (.br (decide (r≤(90:Int))) (.leaf true) (.br (r==(95:Int)) (.leaf true) (.br (decide (r≥(161:Int))) (.leaf (decide (r≤(1114111:Int)))) (.leaf false)))) (.br (r==(95:Int)) (.leaf true) (.br (decide (r≥(161:Int))) (.leaf (decide (r≤(1114111:Int)))) (.leaf false))))) (.br (decide (r≥(65:Int))) (.br (decide (r≤(90:Int))) (.leaf true) (.br (r==(95:Int)) (.leaf true) (.br (decide (r≥(161:Int))) (.leaf (decide (r≤(1114111:Int)))) (.leaf false)))) (.br (r==(95:Int)) (.leaf true) (.br (decide (r≥(161:Int))) (.leaf (decide (r≤(1114111:Int)))) (.leaf false))))
def v_ref1_Letter (r:Int):Bool:=bif (decide (r≥(97:Int))) then bif (decide (r≤(122:Int))) then true else bif (decide (r≥(65:Int))) then bif (decide (r≤(90:Int))) then true else bif (r==(95:Int)) then true else bif (decide (r≥(161:Int))) then (decide (r≤(1114111:Int))) else false else bif (r==(95:Int)) then true else bif (decide (r≥(161:Int))) then (decide (r≤(1114111:Int))) else false else bif (decide (r≥(65:Int))) then bif (decide (r≤(90:Int))) then true else bif (r==(95:Int)) then true else bif (decide (r≥(161:Int))) then (decide (r≤(1114111:Int))) else false else bif (r==(95:Int)) then true else bif (decide (r≥(161:Int))) then (decide (r≤(1114111:Int))) else false
theorem g_ref1_Letter (r:Int):Goes (T_ref1_Letter r) (T0_ref1_Letter r) (v_ref1_Letter r):=Goes.br (Goes.br (Goes.leaf) (Goes.br (Goes.br (Goes.leaf) (Goes.br (Goes.leaf) (Goes.br (Goes.leaf) (Goes.leaf)))) (Goes.br (Goes.leaf) (Goes.br (Goes.leaf) (Goes.leaf))))) (Goes.br (Goes.br (Goes.leaf) (Goes.br (Goes.leaf) (Goes.br (Goes.leaf) (Goes.leaf)))) (Goes.br (Goes.leaf) (Goes.br (Goes.leaf) (Goes.leaf))))
def R_ref1_Letter:Bool→AV:=fun (r:Bool)=>.d .bool r
def S_ref1_Letter (r:Int):Empty→Nat×St:=fun j=>nomatch j
theorem en_ref1_Letter (r:Int) (L:Lt):entryA Go.Proofs.Tryz.prog (clOf t_ref1_Letter) tb_ref1_Letter Go.Proofs.Tryz.f86 c_ref1_Letter L (toForms sg_ref1_Letter (r,()))=(T0_ref1_Letter r).run (fun v=>some (R_ref1_Letter v,tps (toForms sg_ref1_Letter (r,())))) fun j=>L (S_ref1_Letter r j).1 (S_ref1_Letter r j).2:=by kernel_rfl
theorem lp_ref1_Letter (r:Int):∀(L:Lt) (j:Empty),procOf (procsF Go.Proofs.Tryz.prog (clOf t_ref1_Letter) tb_ref1_Letter Go.Proofs.Tryz.f86 c_ref1_Letter (toForms sg_ref1_Letter (r,()))) (S_ref1_Letter r j).1 L (S_ref1_Letter r j).2=(T_ref1_Letter r j).run (fun v=>some (R_ref1_Letter v,tps (toForms sg_ref1_Letter (r,())))) fun j=>L (S_ref1_Letter r j).1 (S_ref1_Letter r j).2:=fun L j=>nomatch j
noncomputable def e_ref1_Letter:Run:=entT sg_ref1_Letter R_ref1_Letter (fun a=>v_ref1_Letter a.1)
theorem ok_ref1_Letter:EntOK Go.Proofs.Tryz.prog 86 e_ref1_Letter:=entT_ok (tb:=tb_ref1_Letter) (c:=c_ref1_Letter) tk_ref1_Letter (by kernel_rfl) (by kernel_rfl) (by kernel_rfl) (fun a=>by kernel_rfl) fun ⟨r,_⟩=>evF_goes (c:=c_ref1_Letter) (K:=fun v=>(R_ref1_Letter v,tps (toForms sg_ref1_Letter (r,())))) (S:=S_ref1_Letter r) (by kernel_rfl) (en_ref1_Letter r) (lp_ref1_Letter r) (g_ref1_Letter r)
end
end Go.Ev
end

section
open Go Go.Ev
namespace Go.Ev
noncomputable section
def sg_ref1_Digit:Sig:=[(false,(.int .i32))]
noncomputable def t_ref1_Digit:Tbl:=[]
theorem tk_ref1_Digit:∀p∈t_ref1_Digit,EntOK Go.Proofs.Tryz.prog p.1 p.2:=tbl_nil
noncomputable def c_ref1_Digit:Code:=Go.Proofs.Tryz.f87.body.getD .skip
def tb_ref1_Digit:Tb:=[]
def T_ref1_Digit (r:Int):Empty→JT Empty (Bool):=fun j=>nomatch j
def T0_ref1_Digit (r:Int):JT Empty (Bool):=.br (decide (r≥(48:Int))) (.leaf (decide (r≤(57:Int)))) (.leaf false)
def v_ref1_Digit (r:Int):Bool:=bif (decide (r≥(48:Int))) then (decide (r≤(57:Int))) else false
theorem g_ref1_Digit (r:Int):Goes (T_ref1_Digit r) (T0_ref1_Digit r) (v_ref1_Digit r):=Goes.br (Goes.leaf) (Goes.leaf)
def R_ref1_Digit:Bool→AV:=fun (r:Bool)=>.d .bool r
def S_ref1_Digit (r:Int):Empty→Nat×St:=fun j=>nomatch j
theorem en_ref1_Digit (r:Int) (L:Lt):entryA Go.Proofs.Tryz.prog (clOf t_ref1_Digit) tb_ref1_Digit Go.Proofs.Tryz.f87 c_ref1_Digit L (toForms sg_ref1_Digit (r,()))=(T0_ref1_Digit r).run (fun v=>some (R_ref1_Digit v,tps (toForms sg_ref1_Digit (r,())))) fun j=>L (S_ref1_Digit r j).1 (S_ref1_Digit r j).2:=by kernel_rfl
theorem lp_ref1_Digit (r:Int):∀(L:Lt) (j:Empty),procOf (procsF Go.Proofs.Tryz.prog (clOf t_ref1_Digit) tb_ref1_Digit Go.Proofs.Tryz.f87 c_ref1_Digit (toForms sg_ref1_Digit (r,()))) (S_ref1_Digit r j).1 L (S_ref1_Digit r j).2=(T_ref1_Digit r j).run (fun v=>some (R_ref1_Digit v,tps (toForms sg_ref1_Digit (r,())))) fun j=>L (S_ref1_Digit r j).1 (S_ref1_Digit r j).2:=fun L j=>nomatch j
noncomputable def e_ref1_Digit:Run:=entT sg_ref1_Digit R_ref1_Digit (fun a=>v_ref1_Digit a.1)
theorem ok_ref1_Digit:EntOK Go.Proofs.Tryz.prog 87 e_ref1_Digit:=entT_ok (tb:=tb_ref1_Digit) (c:=c_ref1_Digit) tk_ref1_Digit (by kernel_rfl) (by kernel_rfl) (by kernel_rfl) (fun a=>by kernel_rfl) fun ⟨r,_⟩=>evF_goes (c:=c_ref1_Digit) (K:=fun v=>(R_ref1_Digit v,tps (toForms sg_ref1_Digit (r,())))) (S:=S_ref1_Digit r) (by kernel_rfl) (en_ref1_Digit r) (lp_ref1_Digit r) (g_ref1_Digit r)
end
end Go.Ev
end

section
open Go Go.Ev
namespace Go.Ev
noncomputable section
def sg_ref1_Right:Sig:=[(false,.str)]
noncomputable def t_ref1_Right:Tbl:=[(84,e_ref1_Spots),(85,e_ref1_Word),(86,e_ref1_Letter),(87,e_ref1_Digit)]
theorem tk_ref1_Right:∀p∈t_ref1_Right,EntOK Go.Proofs.Tryz.prog p.1 p.2:=tbl_cons ok_ref1_Spots (tbl_cons ok_ref1_Word (tbl_cons ok_ref1_Letter (tbl_cons ok_ref1_Digit (tbl_nil))))
noncomputable def c_ref1_Right:Code:=Go.Proofs.Tryz.f68.body.getD .skip
def tb_ref1_Right:Tb:=[(7,⟨[3,4],[]⟩)]
inductive J_ref1_Right where | l7 (i:Int)
def T_ref1_Right (s:ByteArray):J_ref1_Right→JT J_ref1_Right (Bool) |.l7 i=>.br (decide (i < (Int.ofNat (List.length (v_ref1_Spots s))))) (.br ((decide ((0:Int)≤i))&&(decide (i < (Int.ofNat (List.length (v_ref1_Spots s)))))) (.br (List.getD (v_ref1_Spots s) (Int.toNat i) (dflt T_ref1_Spot)).2.2.2.2.2 (.leaf false) (.br ((decide ((0:Int)≤i))&&(decide (i < (Int.ofNat (List.length (v_ref1_Spots s)))))) (.br (! (v_ref1_Letter (List.getD (v_ref1_Spots s) (Int.toNat i) (dflt T_ref1_Spot)).1)) (.br (i==(0:Int)) (.leaf false) (.br ((decide ((0:Int)≤i))&&(decide (i < (Int.ofNat (List.length (v_ref1_Spots s)))))) (.br (! (v_ref1_Digit (List.getD (v_ref1_Spots s) (Int.toNat i) (dflt T_ref1_Spot)).1)) (.leaf false) (.jmp (.l7 (IntKind.i64.wrap (i+(1:Int)))))) (.no))) (.jmp (.l7 (IntKind.i64.wrap (i+(1:Int)))))) (.no))) (.no)) (.leaf true)
def T0_ref1_Right (s:ByteArray):JT J_ref1_Right (Bool):=.br (k_ref1_Spots s) (.br (decide ((Int.ofNat (List.length (v_ref1_Spots s))) < (1:Int))) (.leaf false) (.br (decide ((Int.ofNat (List.length (v_ref1_Spots s))) > (16:Int))) (.leaf false) (.br (v_ref1_Word s) (.leaf false) (.jmp (.l7 (0:Int)))))) (.no)
def R_ref1_Right:Bool→AV:=fun (r:Bool)=>.d .bool r
def S_ref1_Right (s:ByteArray):J_ref1_Right→Nat×St |.l7 i=>(7,⟨mkTm 52 [(3,.own 4 0 none),(4,.d (.int .i64) i)],[(4,0,.row 114 T_ref1_Spot (v_ref1_Spots s) false)]⟩)
theorem en_ref1_Right (s:ByteArray) (L:Lt):entryA Go.Proofs.Tryz.prog (clOf t_ref1_Right) tb_ref1_Right Go.Proofs.Tryz.f68 c_ref1_Right L (toForms sg_ref1_Right (s,()))=(T0_ref1_Right s).run (fun v=>some (R_ref1_Right v,tps (toForms sg_ref1_Right (s,())))) fun j=>L (S_ref1_Right s j).1 (S_ref1_Right s j).2:=by kernel_rfl
theorem lp_ref1_Right (s:ByteArray):∀(L:Lt) (j:J_ref1_Right),procOf (procsF Go.Proofs.Tryz.prog (clOf t_ref1_Right) tb_ref1_Right Go.Proofs.Tryz.f68 c_ref1_Right (toForms sg_ref1_Right (s,()))) (S_ref1_Right s j).1 L (S_ref1_Right s j).2=(T_ref1_Right s j).run (fun v=>some (R_ref1_Right v,tps (toForms sg_ref1_Right (s,())))) fun j=>L (S_ref1_Right s j).1 (S_ref1_Right s j).2 | L,.l7 i=>by kernel_rfl
end
end Go.Ev
end

section
open Go
namespace Go.Ev
def v_ref1_Right (s:ByteArray):Bool:=nameRight s
def k_ref1_Right (s:ByteArray):Bool:=smallText s
theorem g_ref1_Right (s:ByteArray) (hk:k_ref1_Right s=true):Goes (T_ref1_Right s) (T0_ref1_Right s) (v_ref1_Right s):=by
 have hs:s.size < 549755813888:=of_decide_eq_true hk
 have hl:(v_ref1_Spots s).length≤s.size:=spots_length s
 have loop:∀k,k≤(v_ref1_Spots s).length→Goes (T_ref1_Right s) (.jmp (.l7 (k:Int))) (spotsOK k ((v_ref1_Spots s).drop k)):=by
  refine down ?_ fun k hk ih=>?_
  ·rw[goes_jmp]
   simp[T_ref1_Right,goes_br,goes_leaf,spotsOK]
  ·rw[goes_jmp]
   dsimp only[T_ref1_Right]
   simp only[goes_br,goes_leaf,lt_len hk,nng,Bool.and_self,if_true,Int.toNat_natCast,getD_lt hk,wrap_succ (k:=k) (by omega)]
   rw[drop_cons hk,spotsOK]
   generalize (v_ref1_Spots s)[k]=x at*
   unfold spotOK
   rw[show v_ref1_Letter=v_glyph_Letter from rfl,show v_ref1_Digit=v_glyph_Digit from rfl]
   cases x.2.2.2.2.2
   ·cases v_glyph_Letter x.1
    ·by_cases h0:k=0
     ·subst h0;simp
     ·have e1:((k:Int)==0)=false:=by rw[Bool.eq_false_iff];simp;omega
      have e2:(k==0)=false:=by rw[Bool.eq_false_iff];simpa using h0
      cases v_glyph_Digit x.1
      ·simp[e1,e2]
      ·simpa[e1,e2] using ih
    ·simpa using ih
   ·simp
 have hv:v_ref1_Right s=(spotsOK 0 (v_ref1_Spots s)&&(decide (1≤(v_ref1_Spots s).length)&&(decide ((v_ref1_Spots s).length≤16)&& !v_names_Word s))):=rfl
 rw[hv]
 unfold T0_ref1_Right
 simp only[goes_br,show k_ref1_Spots s=true from hk,if_true,v_ref1_Word,goes_leaf]
 by_cases h1:1≤(v_ref1_Spots s).length
 ·by_cases h2:(v_ref1_Spots s).length≤16
  ·cases v_names_Word s
   ·rw[if_neg (by simp <;> omega),if_neg (by simp <;> omega)]
    simpa[h1,h2] using loop 0 (Nat.zero_le _)
   ·rw[if_neg (by simp <;> omega),if_neg (by simp <;> omega)]
    simp
  ·rw[if_neg (by simp <;> omega),if_pos (by simp <;> omega)]
   simp[h2]
 ·rw[if_pos (by simp <;> omega)]
  simp[h1]
end Go.Ev
end

section
open Go Go.Ev
namespace Go.Ev
noncomputable section
noncomputable def e_ref1_Right:Run:=entG sg_ref1_Right R_ref1_Right (fun a=>k_ref1_Right a.1) (fun a=>v_ref1_Right a.1)
theorem ok_ref1_Right:EntOK Go.Proofs.Tryz.prog 68 e_ref1_Right:=entG_ok (tb:=tb_ref1_Right) (c:=c_ref1_Right) tk_ref1_Right (by kernel_rfl) (by kernel_rfl) (by kernel_rfl) (fun a=>by kernel_rfl) fun ⟨s,_⟩ hk=>evF_goes (c:=c_ref1_Right) (K:=fun v=>(R_ref1_Right v,tps (toForms sg_ref1_Right (s,())))) (S:=S_ref1_Right s) (by kernel_rfl) (en_ref1_Right s) (lp_ref1_Right s) (g_ref1_Right s hk)
end
end Go.Ev
end

section
open Go Go.Ev
namespace Go.Ev
noncomputable section
def sg_ref1_Count:Sig:=[(true,(.sl T_api_Ins))]
noncomputable def t_ref1_Count:Tbl:=[]
theorem tk_ref1_Count:∀p∈t_ref1_Count,EntOK Go.Proofs.Tryz.prog p.1 p.2:=tbl_nil
noncomputable def c_ref1_Count:Code:=Go.Proofs.Tryz.f88.body.getD .skip
def tb_ref1_Count:Tb:=[(4,⟨[1,3,4],[]⟩)]
inductive J_ref1_Count where | l4 (n:Int) (i:Int)
def T_ref1_Count (t:List (El T_api_Ins)):J_ref1_Count→JT J_ref1_Count (Int) |.l4 n i=>.br (decide (i < (Int.ofNat (List.length t)))) (.br ((decide ((0:Int)≤i))&&(decide (i < (Int.ofNat (List.length t))))) (.br ((List.getD t (Int.toNat i) (dflt T_api_Ins)).1 !=(12:Int)) (.jmp (.l4 (IntKind.i64.wrap (n+(1:Int))) (IntKind.i64.wrap (i+(1:Int))))) (.jmp (.l4 n (IntKind.i64.wrap (i+(1:Int)))))) (.no)) (.leaf n)
def T0_ref1_Count (t:List (El T_api_Ins)):JT J_ref1_Count (Int):=.jmp (.l4 (0:Int) (0:Int))
def R_ref1_Count:Int→AV:=fun (r:Int)=>.d (.int .i64) r
def S_ref1_Count (t:List (El T_api_Ins)):J_ref1_Count→Nat×St |.l4 n i=>(4,⟨mkTm 22 [(1,.pt 2 0 0),(3,.d (.int .i64) n),(4,.d (.int .i64) i)],[(2,0,.box 48 [.d (.sl T_api_Ins) t] none)]⟩)
theorem en_ref1_Count (t:List (El T_api_Ins)) (L:Lt):entryA Go.Proofs.Tryz.prog (clOf t_ref1_Count) tb_ref1_Count Go.Proofs.Tryz.f88 c_ref1_Count L (toForms sg_ref1_Count (t,()))=(T0_ref1_Count t).run (fun v=>some (R_ref1_Count v,tps (toForms sg_ref1_Count (t,())))) fun j=>L (S_ref1_Count t j).1 (S_ref1_Count t j).2:=by kernel_rfl
theorem lp_ref1_Count (t:List (El T_api_Ins)):∀(L:Lt) (j:J_ref1_Count),procOf (procsF Go.Proofs.Tryz.prog (clOf t_ref1_Count) tb_ref1_Count Go.Proofs.Tryz.f88 c_ref1_Count (toForms sg_ref1_Count (t,()))) (S_ref1_Count t j).1 L (S_ref1_Count t j).2=(T_ref1_Count t j).run (fun v=>some (R_ref1_Count v,tps (toForms sg_ref1_Count (t,())))) fun j=>L (S_ref1_Count t j).1 (S_ref1_Count t j).2 | L,.l4 n i=>by kernel_rfl
end
end Go.Ev
end

section
open Go
namespace Go.Ev
def v_ref1_Count (t:List (El T_api_Ins)):Int:=(countM t:Int)
def k_ref1_Count (t:List (El T_api_Ins)):Bool:=decide (t.length < 1099511627776)
theorem g_ref1_Count (t:List (El T_api_Ins)) (hk:k_ref1_Count t=true):Goes (T_ref1_Count t) (T0_ref1_Count t) (v_ref1_Count t):=by
 have hn:t.length < 1099511627776:=of_decide_eq_true hk
 have loop:∀k,k≤t.length→∀n:Nat,n≤k→Goes (T_ref1_Count t) (.jmp (.l4 (n:Int) (k:Int))) ((n+countM (t.drop k):Nat):Int):=by
  refine down ?_ fun k hk ih=>?_
  ·intro n hnk
   rw[goes_jmp]
   simp only[T_ref1_Count,goes_br,lt_len_not (Nat.lt_irrefl _),goes_leaf,List.drop_length]
   simp[countM]
  ·intro n hnk
   rw[goes_jmp]
   simp only[T_ref1_Count,goes_br,lt_len hk,nng,Bool.and_self,if_true,Int.toNat_natCast,getD_lt hk,wrap_succ (k:=k) (by omega),wrap_succ (k:=n) (by omega)]
   rw[drop_cons hk]
   unfold countM
   rw[List.filter_cons]
   split
   ·rename_i h
    have:=ih (n+1) (by omega)
    unfold countM at this
    rw[List.length_cons,show n+((List.filter (fun i=>i.1 !=(12:Int)) (List.drop (k+1) t)).length+1)=n+1+(List.filter (fun i=>i.1 !=(12:Int)) (List.drop (k+1) t)).length by omega]
    exact this
   ·exact ih n (by omega)
 have:=loop 0 (Nat.zero_le _) 0 (Nat.le_refl _)
 unfold T0_ref1_Count v_ref1_Count
 simpa using this
end Go.Ev
end

section
open Go Go.Ev
namespace Go.Ev
noncomputable section
noncomputable def e_ref1_Count:Run:=entG sg_ref1_Count R_ref1_Count (fun a=>k_ref1_Count a.1) (fun a=>v_ref1_Count a.1)
theorem ok_ref1_Count:EntOK Go.Proofs.Tryz.prog 88 e_ref1_Count:=entG_ok (tb:=tb_ref1_Count) (c:=c_ref1_Count) tk_ref1_Count (by kernel_rfl) (by kernel_rfl) (by kernel_rfl) (fun a=>by kernel_rfl) fun ⟨t,_⟩ hk=>evF_goes (c:=c_ref1_Count) (K:=fun v=>(R_ref1_Count v,tps (toForms sg_ref1_Count (t,())))) (S:=S_ref1_Count t) (by kernel_rfl) (en_ref1_Count t) (lp_ref1_Count t) (g_ref1_Count t hk)
end
end Go.Ev
end

section
open Go Go.Ev
namespace Go.Ev
noncomputable section
def sg_ref1_InsRight:Sig:=[(true,T_api_Ins)]
noncomputable def t_ref1_InsRight:Tbl:=[(78,e_ref1_row),(79,e_ref1_Jumps),(68,e_ref1_Right)]
theorem tk_ref1_InsRight:∀p∈t_ref1_InsRight,EntOK Go.Proofs.Tryz.prog p.1 p.2:=tbl_cons ok_ref1_row (tbl_cons ok_ref1_Jumps (tbl_cons ok_ref1_Right (tbl_nil)))
noncomputable def c_ref1_InsRight:Code:=Go.Proofs.Tryz.f57.body.getD .skip
def tb_ref1_InsRight:Tb:=[(2,⟨[1,26,34,37,44,47],[]⟩),(5,⟨[1,49],[]⟩)]
inductive J_ref1_InsRight where | l2 (h:Bool) | l5 (h:Bool)
def T_ref1_InsRight (i:El T_api_Ins):J_ref1_InsRight→JT J_ref1_InsRight (Int) |.l2 h=>.br h (.leaf (4:Int)) (.br (i.1==(11:Int)) (.br (decide (i.2.2.1 < (1:Int))) (.jmp (.l5 true)) (.br (decide (i.2.2.1 > (10:Int))) (.jmp (.l5 true)) (.br (i.1 !=(11:Int)) (.jmp (.l5 (i.2.2.1 !=(0:Int)))) (.jmp (.l5 false))))) (.br (i.1 !=(11:Int)) (.jmp (.l5 (i.2.2.1 !=(0:Int)))) (.jmp (.l5 false)))) |.l5 h=>.br h (.leaf (4:Int)) (.br (v_ref1_Jumps i.1) (.br (k_ref1_Right i.2.2.2.2.2.1) (.br (! (v_ref1_Right i.2.2.2.2.2.1)) (.leaf (3:Int)) (.leaf (0:Int))) (.no)) (.leaf (0:Int)))
def T0_ref1_InsRight (i:El T_api_Ins):JT J_ref1_InsRight (Int):=.br (decide (i.1 < (1:Int))) (.jmp (.l2 true)) (.br (decide (i.1 > (14:Int))) (.jmp (.l2 true)) (.br (! (v_ref1_row i)) (.jmp (.l2 true)) (.br (! (v_ref1_Jumps i.1)) (.jmp (.l2 (! (eqB i.2.2.2.2.2.1 (bs []))))) (.jmp (.l2 false)))))
def v_ref1_InsRight_l5 (i:El T_api_Ins) (h:Bool):Int:=bif h then (4:Int) else bif (v_ref1_Jumps i.1) then bif (k_ref1_Right i.2.2.2.2.2.1) then bif (! (v_ref1_Right i.2.2.2.2.2.1)) then (3:Int) else (0:Int) else (0:Int) else (0:Int)
def k_ref1_InsRight_l5 (i:El T_api_Ins) (h:Bool):Bool:=bif h then true else bif (v_ref1_Jumps i.1) then bif (k_ref1_Right i.2.2.2.2.2.1) then bif (! (v_ref1_Right i.2.2.2.2.2.1)) then true else true else false else true
theorem g_ref1_InsRight_l5 (i:El T_api_Ins) (h:Bool) (hk:k_ref1_InsRight_l5 i h=true):Goes (T_ref1_InsRight i) (.jmp (.l5 h)) (v_ref1_InsRight_l5 i h):=Goes.jmp (Goes.brk hk (fun hk=>Goes.leaf) (fun hk=>Goes.brk hk (fun hk=>Goes.brk hk (fun hk=>Goes.brk hk (fun hk=>Goes.leaf) (fun hk=>Goes.leaf)) (fun hk=>Goes.nok hk)) (fun hk=>Goes.leaf)))
def v_ref1_InsRight_l2 (i:El T_api_Ins) (h:Bool):Int:=bif h then (4:Int) else bif (i.1==(11:Int)) then bif (decide (i.2.2.1 < (1:Int))) then v_ref1_InsRight_l5 i true else bif (decide (i.2.2.1 > (10:Int))) then v_ref1_InsRight_l5 i true else bif (i.1 !=(11:Int)) then v_ref1_InsRight_l5 i (i.2.2.1 !=(0:Int)) else v_ref1_InsRight_l5 i false else bif (i.1 !=(11:Int)) then v_ref1_InsRight_l5 i (i.2.2.1 !=(0:Int)) else v_ref1_InsRight_l5 i false
def k_ref1_InsRight_l2 (i:El T_api_Ins) (h:Bool):Bool:=bif h then true else bif (i.1==(11:Int)) then bif (decide (i.2.2.1 < (1:Int))) then k_ref1_InsRight_l5 i true else bif (decide (i.2.2.1 > (10:Int))) then k_ref1_InsRight_l5 i true else bif (i.1 !=(11:Int)) then k_ref1_InsRight_l5 i (i.2.2.1 !=(0:Int)) else k_ref1_InsRight_l5 i false else bif (i.1 !=(11:Int)) then k_ref1_InsRight_l5 i (i.2.2.1 !=(0:Int)) else k_ref1_InsRight_l5 i false
theorem g_ref1_InsRight_l2 (i:El T_api_Ins) (h:Bool) (hk:k_ref1_InsRight_l2 i h=true):Goes (T_ref1_InsRight i) (.jmp (.l2 h)) (v_ref1_InsRight_l2 i h):=Goes.jmp (Goes.brk hk (fun hk=>Goes.leaf) (fun hk=>Goes.brk hk (fun hk=>Goes.brk hk (fun hk=>g_ref1_InsRight_l5 i true hk) (fun hk=>Goes.brk hk (fun hk=>g_ref1_InsRight_l5 i true hk) (fun hk=>Goes.brk hk (fun hk=>g_ref1_InsRight_l5 i (i.2.2.1 !=(0:Int)) hk) (fun hk=>g_ref1_InsRight_l5 i false hk)))) (fun hk=>Goes.brk hk (fun hk=>g_ref1_InsRight_l5 i (i.2.2.1 !=(0:Int)) hk) (fun hk=>g_ref1_InsRight_l5 i false hk))))
def u_ref1_InsRight (i:El T_api_Ins):Int:=bif (decide (i.1 < (1:Int))) then v_ref1_InsRight_l2 i true else bif (decide (i.1 > (14:Int))) then v_ref1_InsRight_l2 i true else bif (! (v_ref1_row i)) then v_ref1_InsRight_l2 i true else bif (! (v_ref1_Jumps i.1)) then v_ref1_InsRight_l2 i (! (eqB i.2.2.2.2.2.1 (bs []))) else v_ref1_InsRight_l2 i false
def ku_ref1_InsRight (i:El T_api_Ins):Bool:=bif (decide (i.1 < (1:Int))) then k_ref1_InsRight_l2 i true else bif (decide (i.1 > (14:Int))) then k_ref1_InsRight_l2 i true else bif (! (v_ref1_row i)) then k_ref1_InsRight_l2 i true else bif (! (v_ref1_Jumps i.1)) then k_ref1_InsRight_l2 i (! (eqB i.2.2.2.2.2.1 (bs []))) else k_ref1_InsRight_l2 i false
theorem gu_ref1_InsRight (i:El T_api_Ins) (hk:ku_ref1_InsRight i=true):Goes (T_ref1_InsRight i) (T0_ref1_InsRight i) (u_ref1_InsRight i):=Goes.brk hk (fun hk=>g_ref1_InsRight_l2 i true hk) (fun hk=>Goes.brk hk (fun hk=>g_ref1_InsRight_l2 i true hk) (fun hk=>Goes.brk hk (fun hk=>g_ref1_InsRight_l2 i true hk) (fun hk=>Goes.brk hk (fun hk=>g_ref1_InsRight_l2 i (! (eqB i.2.2.2.2.2.1 (bs []))) hk) (fun hk=>g_ref1_InsRight_l2 i false hk))))
def R_ref1_InsRight:Int→AV:=fun (r:Int)=>.d (.int .i64) r
def S_ref1_InsRight (i:El T_api_Ins):J_ref1_InsRight→Nat×St |.l2 h=>(2,⟨mkTm 59 [(1,.pt 2 0 0),(26,.d .bool h)],[(2,0,.box 61 [.d (.int .i64) i.1,.d .bool i.2.1,.d (.int .i64) i.2.2.1,.d (.int .i64) i.2.2.2.1.1,.d (.int .i64) i.2.2.2.1.2.1,.d (.int .i64) i.2.2.2.1.2.2.1,.d (.int .i64) i.2.2.2.1.2.2.2,.d (.int .i64) i.2.2.2.2.1.1,.d (.int .i64) i.2.2.2.2.1.2.1,.d (.int .i64) i.2.2.2.2.1.2.2.1,.d (.int .i64) i.2.2.2.2.1.2.2.2,.d .str i.2.2.2.2.2.1,.d (.sl .str) i.2.2.2.2.2.2] none)]⟩) |.l5 h=>(5,⟨mkTm 59 [(1,.pt 2 0 0),(49,.d .bool h)],[(2,0,.box 61 [.d (.int .i64) i.1,.d .bool i.2.1,.d (.int .i64) i.2.2.1,.d (.int .i64) i.2.2.2.1.1,.d (.int .i64) i.2.2.2.1.2.1,.d (.int .i64) i.2.2.2.1.2.2.1,.d (.int .i64) i.2.2.2.1.2.2.2,.d (.int .i64) i.2.2.2.2.1.1,.d (.int .i64) i.2.2.2.2.1.2.1,.d (.int .i64) i.2.2.2.2.1.2.2.1,.d (.int .i64) i.2.2.2.2.1.2.2.2,.d .str i.2.2.2.2.2.1,.d (.sl .str) i.2.2.2.2.2.2] none)]⟩)
theorem en_ref1_InsRight (i:El T_api_Ins) (L:Lt):entryA Go.Proofs.Tryz.prog (clOf t_ref1_InsRight) tb_ref1_InsRight Go.Proofs.Tryz.f57 c_ref1_InsRight L (toForms sg_ref1_InsRight (i,()))=(T0_ref1_InsRight i).run (fun v=>some (R_ref1_InsRight v,tps (toForms sg_ref1_InsRight (i,())))) fun j=>L (S_ref1_InsRight i j).1 (S_ref1_InsRight i j).2:=by kernel_rfl
theorem lp_ref1_InsRight (i:El T_api_Ins):∀(L:Lt) (j:J_ref1_InsRight),procOf (procsF Go.Proofs.Tryz.prog (clOf t_ref1_InsRight) tb_ref1_InsRight Go.Proofs.Tryz.f57 c_ref1_InsRight (toForms sg_ref1_InsRight (i,()))) (S_ref1_InsRight i j).1 L (S_ref1_InsRight i j).2=(T_ref1_InsRight i j).run (fun v=>some (R_ref1_InsRight v,tps (toForms sg_ref1_InsRight (i,())))) fun j=>L (S_ref1_InsRight i j).1 (S_ref1_InsRight i j).2 | L,.l2 h=>by kernel_rfl | L,.l5 h=>by kernel_rfl
end
end Go.Ev
end

section
open Go
namespace Go.Ev
def refRB_l5 (op cond:Int) (row nm te:Bool) (h:Bool):Int:=
 bif h then
  (4:Int)
 else bif (bif (op==(10:Int)) then true else (op==(11:Int))) then
  bif true then
   bif (! nm) then
    (3:Int)
   else (0:Int)
  else (0:Int)
 else (0:Int)
def refRB_l2 (op cond:Int) (row nm te:Bool) (h:Bool):Int:=
 bif h then
  (4:Int)
 else bif (op==(11:Int)) then
  bif (decide (cond < (1:Int))) then
   refRB_l5 op cond row nm te true
  else bif (decide (cond > (10:Int))) then
   refRB_l5 op cond row nm te true
  else bif (op !=(11:Int)) then
   refRB_l5 op cond row nm te (cond !=(0:Int))
  else refRB_l5 op cond row nm te false
 else bif (op !=(11:Int)) then
  refRB_l5 op cond row nm te (cond !=(0:Int))
 else refRB_l5 op cond row nm te false
def refRB (op cond:Int) (row nm te:Bool):Int:=
 bif (decide (op < (1:Int))) then
  refRB_l2 op cond row nm te true
 else bif (decide (op > (14:Int))) then
  refRB_l2 op cond row nm te true
 else bif (! row) then
  refRB_l2 op cond row nm te true
 else bif (! (bif (op==(10:Int)) then true else (op==(11:Int)))) then
  refRB_l2 op cond row nm te (! te)
 else refRB_l2 op cond row nm te false
def insRB (op cond:Int) (row nm te:Bool):Int:=
 bif (op==(10:Int)) then
  bif (! (decide (1≤op)&&(decide (op≤14)&&(row&&condOK op cond)))) then
   (4:Int)
  else bif true then
   bif (! nm) then
    (3:Int)
   else (0:Int)
  else (0:Int)
 else bif (! (decide (1≤op)&&(decide (op≤14)&&(row&&condOK op cond)))) then
  (4:Int)
 else bif (! (op==(11:Int))) then
  bif (! te) then
   (4:Int)
  else bif (op==(11:Int)) then
   bif true then
    bif (! nm) then
     (3:Int)
    else (0:Int)
   else (0:Int)
  else (0:Int)
 else bif (op==(11:Int)) then
  bif true then
   bif (! nm) then
    (3:Int)
   else (0:Int)
  else (0:Int)
 else (0:Int)
theorem rightB (op cond:Int) (row nm te:Bool):refRB op cond row nm te=insRB op cond row nm te:=by
 unfold refRB refRB_l2 refRB_l5 insRB condOK
 have beqs:∀(k c:Int),(k==c)=decide (k=c):=fun k c=>by rw[Bool.eq_iff_iff];simp
 have bnes:∀(k c:Int),(k !=c)=!decide (k=c):=fun k c=>by rw[Bool.eq_iff_iff];simp
 simp only[beqs,bnes]
 by_cases h1:op < 1
 ·have e1:decide (op=10)=false:=by simp;omega
  have e2:decide (op=11)=false:=by simp;omega
  have e3:decide (1≤op)=false:=by simp;omega
  simp[h1,e1,e2,e3]
 by_cases h2:op > 14
 ·have e1:decide (op=10)=false:=by simp;omega
  have e2:decide (op=11)=false:=by simp;omega
  have e3:decide (op≤14)=false:=by simp;omega
  simp[h1,h2,e1,e2,e3]
 have e3:decide (1≤op)=true:=by simp;omega
 have e4:decide (op≤14)=true:=by simp;omega
 by_cases h10:op=10
 ·subst h10
  by_cases hc:cond=0 <;> cases row <;> cases nm <;> simp[hc]
 by_cases h11:op=11
 ·subst h11
  have f1:decide (1≤cond)=!decide (cond < 1):=by by_cases h:cond < 1 <;> simp[h] <;> omega
  have f2:decide (cond≤10)=!decide (cond > 10):=by by_cases h:cond > 10 <;> simp[h] <;> omega
  rw[f1,f2]
  by_cases hc:cond < 1 <;> by_cases hd:cond > 10 <;> cases row <;> cases nm <;> simp[hc,hd]
 by_cases hc:cond=0 <;> cases row <;> cases te <;> simp[h1,h2,h10,h11,e3,e4,hc]
def v_ref1_InsRight (i:El T_api_Ins):Int:=v_ins_Right i
def k_ref1_InsRight (i:El T_api_Ins):Bool:=smallText i.2.2.2.2.2.1
theorem g_ref1_InsRight (i:El T_api_Ins) (hk:k_ref1_InsRight i=true):Goes (T_ref1_InsRight i) (T0_ref1_InsRight i) (v_ref1_InsRight i):=by
 have h1:k_ref1_Right i.2.2.2.2.2.1=true:=hk
 have h2:k_names_Right i.2.2.2.2.2.1=true:=hk
 have hku:ku_ref1_InsRight i=true:=by
  unfold ku_ref1_InsRight k_ref1_InsRight_l2 k_ref1_InsRight_l5
  simp only[h1,cond_true,Bool.cond_self]
 have hr:u_ref1_InsRight i=refRB i.1 i.2.2.1 (v_ref1_row i) (nameRight i.2.2.2.2.2.1) (eqB i.2.2.2.2.2.1 (bs [])):=by
  unfold u_ref1_InsRight v_ref1_InsRight_l2 v_ref1_InsRight_l5
  simp only[h1]
  rfl
 have hp:u_ins_Right i=insRB i.1 i.2.2.1 (v_ref1_row i) (nameRight i.2.2.2.2.2.1) (eqB i.2.2.2.2.2.1 (bs [])):=by
  unfold u_ins_Right
  simp only[h2,fits_row]
  rfl
 have e:v_ref1_InsRight i=u_ref1_InsRight i:=by
  rw[hr,rightB,←hp]
  rfl
 rw[e]
 exact gu_ref1_InsRight i hku
end Go.Ev
end

section
open Go Go.Ev
namespace Go.Ev
noncomputable section
noncomputable def e_ref1_InsRight:Run:=entG sg_ref1_InsRight R_ref1_InsRight (fun a=>k_ref1_InsRight a.1) (fun a=>v_ref1_InsRight a.1)
theorem ok_ref1_InsRight:EntOK Go.Proofs.Tryz.prog 57 e_ref1_InsRight:=entG_ok (tb:=tb_ref1_InsRight) (c:=c_ref1_InsRight) tk_ref1_InsRight (by kernel_rfl) (by kernel_rfl) (by kernel_rfl) (fun a=>by kernel_rfl) fun ⟨i,_⟩ hk=>evF_goes (c:=c_ref1_InsRight) (K:=fun v=>(R_ref1_InsRight v,tps (toForms sg_ref1_InsRight (i,())))) (S:=S_ref1_InsRight i) (by kernel_rfl) (en_ref1_InsRight i) (lp_ref1_InsRight i) (g_ref1_InsRight i hk)
end
end Go.Ev
end

section
open Go Go.Ev
namespace Go.Ev
noncomputable section
def sg_ref1_operand:Sig:=[(true,T_api_Prog),(true,T_api_Opd)]
noncomputable def t_ref1_operand:Tbl:=[(58,e_ref1_Memory)]
theorem tk_ref1_operand:∀p∈t_ref1_operand,EntOK Go.Proofs.Tryz.prog p.1 p.2:=tbl_cons ok_ref1_Memory (tbl_nil)
noncomputable def c_ref1_operand:Code:=Go.Proofs.Tryz.f90.body.getD .skip
def tb_ref1_operand:Tb:=[]
def T_ref1_operand (p:El T_api_Prog) (o:El T_api_Opd):Empty→JT Empty (Int):=fun j=>nomatch j
def T0_ref1_operand (p:El T_api_Prog) (o:El T_api_Opd):JT Empty (Int):=.br (! (v_ref1_Memory o)) (.leaf (0:Int)) (.br (decide (o.2.2.1≥(Int.ofNat (List.length p.1)))) (.leaf (7:Int)) (.br (o.1==(3:Int)) (.br ((decide ((0:Int)≤o.2.2.1))&&(decide (o.2.2.1 < (Int.ofNat (List.length p.1))))) (.br (decide (o.2.2.2≥(List.getD p.1 (Int.toNat o.2.2.1) (dflt T_api_Sym)).2.1)) (.leaf (8:Int)) (.leaf (0:Int))) (.no)) (.leaf (0:Int))))
def v_ref1_operand (p:El T_api_Prog) (o:El T_api_Opd):Int:=bif (! (v_ref1_Memory o)) then (0:Int) else bif (decide (o.2.2.1≥(Int.ofNat (List.length p.1)))) then (7:Int) else bif (o.1==(3:Int)) then bif ((decide ((0:Int)≤o.2.2.1))&&(decide (o.2.2.1 < (Int.ofNat (List.length p.1))))) then bif (decide (o.2.2.2≥(List.getD p.1 (Int.toNat o.2.2.1) (dflt T_api_Sym)).2.1)) then (8:Int) else (0:Int) else (0:Int) else (0:Int)
def k_ref1_operand (p:El T_api_Prog) (o:El T_api_Opd):Bool:=bif (! (v_ref1_Memory o)) then true else bif (decide (o.2.2.1≥(Int.ofNat (List.length p.1)))) then true else bif (o.1==(3:Int)) then bif ((decide ((0:Int)≤o.2.2.1))&&(decide (o.2.2.1 < (Int.ofNat (List.length p.1))))) then bif (decide (o.2.2.2≥(List.getD p.1 (Int.toNat o.2.2.1) (dflt T_api_Sym)).2.1)) then true else true else false else true
theorem g_ref1_operand (p:El T_api_Prog) (o:El T_api_Opd) (hk:k_ref1_operand p o=true):Goes (T_ref1_operand p o) (T0_ref1_operand p o) (v_ref1_operand p o):=Goes.brk hk (fun hk=>Goes.leaf) (fun hk=>Goes.brk hk (fun hk=>Goes.leaf) (fun hk=>Goes.brk hk (fun hk=>Goes.brk hk (fun hk=>Goes.brk hk (fun hk=>Goes.leaf) (fun hk=>Goes.leaf)) (fun hk=>Goes.nok hk)) (fun hk=>Goes.leaf)))
def R_ref1_operand:Int→AV:=fun (r:Int)=>.d (.int .i64) r
def S_ref1_operand (p:El T_api_Prog) (o:El T_api_Opd):Empty→Nat×St:=fun j=>nomatch j
theorem en_ref1_operand (p:El T_api_Prog) (o:El T_api_Opd) (L:Lt):entryA Go.Proofs.Tryz.prog (clOf t_ref1_operand) tb_ref1_operand Go.Proofs.Tryz.f90 c_ref1_operand L (toForms sg_ref1_operand (p,o,()))=(T0_ref1_operand p o).run (fun v=>some (R_ref1_operand v,tps (toForms sg_ref1_operand (p,o,())))) fun j=>L (S_ref1_operand p o j).1 (S_ref1_operand p o j).2:=by kernel_rfl
theorem lp_ref1_operand (p:El T_api_Prog) (o:El T_api_Opd):∀(L:Lt) (j:Empty),procOf (procsF Go.Proofs.Tryz.prog (clOf t_ref1_operand) tb_ref1_operand Go.Proofs.Tryz.f90 c_ref1_operand (toForms sg_ref1_operand (p,o,()))) (S_ref1_operand p o j).1 L (S_ref1_operand p o j).2=(T_ref1_operand p o j).run (fun v=>some (R_ref1_operand v,tps (toForms sg_ref1_operand (p,o,())))) fun j=>L (S_ref1_operand p o j).1 (S_ref1_operand p o j).2:=fun L j=>nomatch j
noncomputable def e_ref1_operand:Run:=entG sg_ref1_operand R_ref1_operand (fun a=>k_ref1_operand a.1 a.2.1) (fun a=>v_ref1_operand a.1 a.2.1)
theorem ok_ref1_operand:EntOK Go.Proofs.Tryz.prog 90 e_ref1_operand:=entG_ok (tb:=tb_ref1_operand) (c:=c_ref1_operand) tk_ref1_operand (by kernel_rfl) (by kernel_rfl) (by kernel_rfl) (fun a=>by kernel_rfl) fun ⟨p,o,_⟩ hk=>evF_goes (c:=c_ref1_operand) (K:=fun v=>(R_ref1_operand v,tps (toForms sg_ref1_operand (p,o,())))) (S:=S_ref1_operand p o) (by kernel_rfl) (en_ref1_operand p o) (lp_ref1_operand p o) (g_ref1_operand p o hk)
end
end Go.Ev
end

section
open Go Go.Ev
namespace Go.Ev
noncomputable section
def sg_ref1_Find:Sig:=[(true,(.sl T_api_Ins)),(false,.str)]
noncomputable def t_ref1_Find:Tbl:=[(89,e_ref1_index)]
theorem tk_ref1_Find:∀p∈t_ref1_Find,EntOK Go.Proofs.Tryz.prog p.1 p.2:=tbl_cons ok_ref1_index (tbl_nil)
noncomputable def c_ref1_Find:Code:=Go.Proofs.Tryz.f91.body.getD .skip
def tb_ref1_Find:Tb:=[(3,⟨[1,2,5],[]⟩)]
inductive J_ref1_Find where | l3 (i:Int)
def T_ref1_Find (t:List (El T_api_Ins)) (label:ByteArray):J_ref1_Find→JT J_ref1_Find (Int) |.l3 i=>.br (decide (i < (Int.ofNat (List.length t)))) (.br ((decide ((0:Int)≤i))&&(decide (i < (Int.ofNat (List.length t))))) (.br (k_ref1_index (List.getD t (Int.toNat i) (dflt T_api_Ins)).2.2.2.2.2.2 label) (.br (decide ((v_ref1_index (List.getD t (Int.toNat i) (dflt T_api_Ins)).2.2.2.2.2.2 label)≥(0:Int))) (.leaf i) (.jmp (.l3 (IntKind.i64.wrap (i+(1:Int)))))) (.no)) (.no)) (.leaf (-1:Int))
def T0_ref1_Find (t:List (El T_api_Ins)) (label:ByteArray):JT J_ref1_Find (Int):=.jmp (.l3 (0:Int))
def R_ref1_Find:Int→AV:=fun (r:Int)=>.d (.int .i64) r
def S_ref1_Find (t:List (El T_api_Ins)) (label:ByteArray):J_ref1_Find→Nat×St |.l3 i=>(3,⟨mkTm 23 [(1,.d .str label),(2,.pt 3 0 0),(5,.d (.int .i64) i)],[(3,0,.box 48 [.d (.sl T_api_Ins) t] none)]⟩)
theorem en_ref1_Find (t:List (El T_api_Ins)) (label:ByteArray) (L:Lt):entryA Go.Proofs.Tryz.prog (clOf t_ref1_Find) tb_ref1_Find Go.Proofs.Tryz.f91 c_ref1_Find L (toForms sg_ref1_Find (t,label,()))=(T0_ref1_Find t label).run (fun v=>some (R_ref1_Find v,tps (toForms sg_ref1_Find (t,label,())))) fun j=>L (S_ref1_Find t label j).1 (S_ref1_Find t label j).2:=by kernel_rfl
theorem lp_ref1_Find (t:List (El T_api_Ins)) (label:ByteArray):∀(L:Lt) (j:J_ref1_Find),procOf (procsF Go.Proofs.Tryz.prog (clOf t_ref1_Find) tb_ref1_Find Go.Proofs.Tryz.f91 c_ref1_Find (toForms sg_ref1_Find (t,label,()))) (S_ref1_Find t label j).1 L (S_ref1_Find t label j).2=(T_ref1_Find t label j).run (fun v=>some (R_ref1_Find v,tps (toForms sg_ref1_Find (t,label,())))) fun j=>L (S_ref1_Find t label j).1 (S_ref1_Find t label j).2 | L,.l3 i=>by kernel_rfl
end
end Go.Ev
end

section
open Go
namespace Go.Ev
def v_ref1_Find (t:List (El T_api_Ins)) (label:ByteArray):Int:=findI label t 0
def k_ref1_Find (t:List (El T_api_Ins)) (label:ByteArray):Bool:=decide (t.length < 1099511627776)&&t.all fun i=>decide (i.2.2.2.2.2.2.length < 1099511627776)
theorem g_ref1_Find (t:List (El T_api_Ins)) (label:ByteArray) (hk:k_ref1_Find t label=true):Goes (T_ref1_Find t label) (T0_ref1_Find t label) (v_ref1_Find t label):=by
 unfold k_ref1_Find at hk
 simp only[Bool.and_eq_true,decide_eq_true_eq,List.all_eq_true] at hk
 obtain ⟨hn,hl⟩:=hk
 have loop:∀k,k≤t.length→Goes (T_ref1_Find t label) (.jmp (.l3 (k:Int))) (findI label (t.drop k) k):=by
  refine down ?_ fun k hk ih=>?_
  ·rw[goes_jmp]
   simp only[T_ref1_Find,goes_br,lt_len_not (Nat.lt_irrefl _),goes_leaf,List.drop_length]
   simp[findI]
  ·have hli:=hl t[k] (List.getElem_mem hk)
   have hki:k_ref1_index t[k].2.2.2.2.2.2 label=true:=decide_eq_true (by omega)
   rw[goes_jmp]
   simp only[T_ref1_Find,goes_br,lt_len hk,nng,Bool.and_self,if_true,Int.toNat_natCast,getD_lt hk,wrap_succ (k:=k) (by omega),hki]
   rw[drop_cons hk]
   unfold findI
   have hi:decide (v_ref1_index t[k].2.2.2.2.2.2 label≥0)=t[k].2.2.2.2.2.2.contains label:=by
    rw[←findFrom_contains (k:=0)]
    unfold v_ref1_index
    cases h:findFrom label t[k].2.2.2.2.2.2 0 with
    | none=>rfl
    | some n=>simp
   rw[hi]
   split
   ·exact .leaf
   ·exact ih
 unfold T0_ref1_Find v_ref1_Find
 simpa using loop 0 (Nat.zero_le _)
end Go.Ev
end

section
open Go Go.Ev
namespace Go.Ev
noncomputable section
noncomputable def e_ref1_Find:Run:=entG sg_ref1_Find R_ref1_Find (fun a=>k_ref1_Find a.1 a.2.1) (fun a=>v_ref1_Find a.1 a.2.1)
theorem ok_ref1_Find:EntOK Go.Proofs.Tryz.prog 91 e_ref1_Find:=entG_ok (tb:=tb_ref1_Find) (c:=c_ref1_Find) tk_ref1_Find (by kernel_rfl) (by kernel_rfl) (by kernel_rfl) (fun a=>by kernel_rfl) fun ⟨t,label,_⟩ hk=>evF_goes (c:=c_ref1_Find) (K:=fun v=>(R_ref1_Find v,tps (toForms sg_ref1_Find (t,label,())))) (S:=S_ref1_Find t label) (by kernel_rfl) (en_ref1_Find t label) (lp_ref1_Find t label) (g_ref1_Find t label hk)
end
end Go.Ev
end

section
open Go Go.Ev
namespace Go.Ev
noncomputable section
def sg_ref1_thread:Sig:=[(true,T_api_Prog),(true,(.sl T_api_Ins))]
noncomputable def t_ref1_thread:Tbl:=[(88,e_ref1_Count),(68,e_ref1_Right),(89,e_ref1_index),(57,e_ref1_InsRight),(90,e_ref1_operand),(79,e_ref1_Jumps),(91,e_ref1_Find)]
theorem tk_ref1_thread:∀p∈t_ref1_thread,EntOK Go.Proofs.Tryz.prog p.1 p.2:=tbl_cons ok_ref1_Count (tbl_cons ok_ref1_Right (tbl_cons ok_ref1_index (tbl_cons ok_ref1_InsRight (tbl_cons ok_ref1_operand (tbl_cons ok_ref1_Jumps (tbl_cons ok_ref1_Find (tbl_nil)))))))
noncomputable def c_ref1_thread:Code:=Go.Proofs.Tryz.f69.body.getD .skip
def tb_ref1_thread:Tb:=[(7,⟨[2,3,5,6],[(6,118)]⟩),(14,⟨[2,3,5,6,7,8],[(6,118)]⟩),(44,⟨[3,13],[]⟩)]
inductive J_ref1_thread where | l7 (i:Int) (seen:List ByteArray) | l14 (x:Int) (x1:Bool) (x2:Int) (x3:Int) (x4:Int) (x5:Int) (x6:Int) (x7:Int) (x8:Int) (x9:Int) (x10:Int) (x11:ByteArray) (x12:List ByteArray) (k:Int) (seen:List ByteArray) (i:Int) | l44 (i:Int)
def T_ref1_thread (p:El T_api_Prog) (t:List (El T_api_Ins)):J_ref1_thread→JT J_ref1_thread (Int) |.l7 i seen=>.br (decide (i < (Int.ofNat (List.length t)))) (.br ((decide ((0:Int)≤i))&&(decide (i < (Int.ofNat (List.length t))))) (.jmp (.l14 (List.getD t (Int.toNat i) (dflt T_api_Ins)).1 (List.getD t (Int.toNat i) (dflt T_api_Ins)).2.1 (List.getD t (Int.toNat i) (dflt T_api_Ins)).2.2.1 (List.getD t (Int.toNat i) (dflt T_api_Ins)).2.2.2.1.1 (List.getD t (Int.toNat i) (dflt T_api_Ins)).2.2.2.1.2.1 (List.getD t (Int.toNat i) (dflt T_api_Ins)).2.2.2.1.2.2.1 (List.getD t (Int.toNat i) (dflt T_api_Ins)).2.2.2.1.2.2.2 (List.getD t (Int.toNat i) (dflt T_api_Ins)).2.2.2.2.1.1 (List.getD t (Int.toNat i) (dflt T_api_Ins)).2.2.2.2.1.2.1 (List.getD t (Int.toNat i) (dflt T_api_Ins)).2.2.2.2.1.2.2.1 (List.getD t (Int.toNat i) (dflt T_api_Ins)).2.2.2.2.1.2.2.2 (List.getD t (Int.toNat i) (dflt T_api_Ins)).2.2.2.2.2.1 (List.getD t (Int.toNat i) (dflt T_api_Ins)).2.2.2.2.2.2 (0:Int) seen i)) (.no)) (.br ((Int.ofNat (List.length t))==(0:Int)) (.leaf (9:Int)) (.br ((decide ((0:Int)≤(IntKind.i64.wrap ((Int.ofNat (List.length t)) - (1:Int)))))&&(decide ((IntKind.i64.wrap ((Int.ofNat (List.length t)) - (1:Int))) < (Int.ofNat (List.length t))))) (.br ((List.getD t (Int.toNat (IntKind.i64.wrap ((Int.ofNat (List.length t)) - (1:Int)))) (dflt T_api_Ins)).1 !=(10:Int)) (.br ((List.getD t (Int.toNat (IntKind.i64.wrap ((Int.ofNat (List.length t)) - (1:Int)))) (dflt T_api_Ins)).1 !=(14:Int)) (.leaf (9:Int)) (.jmp (.l44 (0:Int)))) (.jmp (.l44 (0:Int)))) (.no))) |.l14 x x1 x2 x3 x4 x5 x6 x7 x8 x9 x10 x11 x12 k seen i=>.br (decide (k < (Int.ofNat (List.length x12)))) (.br ((decide ((0:Int)≤k))&&(decide (k < (Int.ofNat (List.length x12))))) (.br (k_ref1_Right (List.getD x12 (Int.toNat k) (dflt .str))) (.br (! (v_ref1_Right (List.getD x12 (Int.toNat k) (dflt .str)))) (.leaf (3:Int)) (.br ((decide ((0:Int)≤k))&&(decide (k < (Int.ofNat (List.length x12))))) (.br (k_ref1_index seen (List.getD x12 (Int.toNat k) (dflt .str))) (.br (decide ((v_ref1_index seen (List.getD x12 (Int.toNat k) (dflt .str)))≥(0:Int))) (.leaf (6:Int)) (.br ((decide ((0:Int)≤k))&&(decide (k < (Int.ofNat (List.length x12))))) (.br (Nat.ble (((List.length seen)+1)*16) limit) (.jmp (.l14 x x1 x2 x3 x4 x5 x6 x7 x8 x9 x10 x11 x12 (IntKind.i64.wrap (k+(1:Int))) (seen++[(List.getD x12 (Int.toNat k) (dflt .str))]) i)) (.no)) (.no))) (.no)) (.no))) (.no)) (.no)) (.br (k_ref1_InsRight (x,(x1,(x2,((x3,(x4,(x5,x6))),((x7,(x8,(x9,x10))),(x11,x12))))))) (.br ((v_ref1_InsRight (x,(x1,(x2,((x3,(x4,(x5,x6))),((x7,(x8,(x9,x10))),(x11,x12))))))) !=(0:Int)) (.leaf (v_ref1_InsRight (x,(x1,(x2,((x3,(x4,(x5,x6))),((x7,(x8,(x9,x10))),(x11,x12)))))))) (.br (k_ref1_operand p (x3,(x4,(x5,x6)))) (.br ((v_ref1_operand p (x3,(x4,(x5,x6)))) !=(0:Int)) (.leaf (v_ref1_operand p (x3,(x4,(x5,x6))))) (.br (k_ref1_operand p (x7,(x8,(x9,x10)))) (.br ((v_ref1_operand p (x7,(x8,(x9,x10)))) !=(0:Int)) (.leaf (v_ref1_operand p (x7,(x8,(x9,x10))))) (.jmp (.l7 (IntKind.i64.wrap (i+(1:Int))) seen))) (.no))) (.no))) (.no)) |.l44 i=>.br (decide (i < (Int.ofNat (List.length t)))) (.br ((decide ((0:Int)≤i))&&(decide (i < (Int.ofNat (List.length t))))) (.br (v_ref1_Jumps (List.getD t (Int.toNat i) (dflt T_api_Ins)).1) (.br ((decide ((0:Int)≤i))&&(decide (i < (Int.ofNat (List.length t))))) (.br (k_ref1_Find t (List.getD t (Int.toNat i) (dflt T_api_Ins)).2.2.2.2.2.1) (.br (decide ((v_ref1_Find t (List.getD t (Int.toNat i) (dflt T_api_Ins)).2.2.2.2.2.1) < (0:Int))) (.leaf (7:Int)) (.jmp (.l44 (IntKind.i64.wrap (i+(1:Int)))))) (.no)) (.no)) (.jmp (.l44 (IntKind.i64.wrap (i+(1:Int)))))) (.no)) (.leaf (0:Int))
def T0_ref1_thread (p:El T_api_Prog) (t:List (El T_api_Ins)):JT J_ref1_thread (Int):=.br (k_ref1_Count t) (.br (decide ((v_ref1_Count t) > (4096:Int))) (.leaf (10:Int)) (.jmp (.l7 (0:Int) []))) (.no)
def R_ref1_thread:Int→AV:=fun (r:Int)=>.d (.int .i64) r
def S_ref1_thread (p:El T_api_Prog) (t:List (El T_api_Ins)):J_ref1_thread→Nat×St |.l7 i seen=>(7,⟨mkTm 122 [(2,.pt 3 0 0),(3,.pt 4 0 0),(5,.own 6 0 none),(6,.d (.int .i64) i)],[(3,0,.box 26 [.d (.sl T_api_Sym) p.1,.d (.sl (.sl T_api_Ins)) p.2] none),(4,0,.box 48 [.d (.sl T_api_Ins) t] none),(6,0,.row 9 .str seen false)]⟩) |.l14 x x1 x2 x3 x4 x5 x6 x7 x8 x9 x10 x11 x12 k seen i=>(14,⟨mkTm 122 [(2,.pt 3 0 0),(3,.pt 4 0 0),(5,.own 6 0 none),(6,.d (.int .i64) i),(7,.pt 8 0 0),(8,.d (.int .i64) k)],[(3,0,.box 26 [.d (.sl T_api_Sym) p.1,.d (.sl (.sl T_api_Ins)) p.2] none),(4,0,.box 48 [.d (.sl T_api_Ins) t] none),(6,0,.row 9 .str seen false),(8,0,.box 61 [.d (.int .i64) x,.d .bool x1,.d (.int .i64) x2,.d (.int .i64) x3,.d (.int .i64) x4,.d (.int .i64) x5,.d (.int .i64) x6,.d (.int .i64) x7,.d (.int .i64) x8,.d (.int .i64) x9,.d (.int .i64) x10,.d .str x11,.d (.sl .str) x12] none)]⟩) |.l44 i=>(44,⟨mkTm 122 [(3,.pt 4 0 0),(13,.d (.int .i64) i)],[(4,0,.box 48 [.d (.sl T_api_Ins) t] none)]⟩)
theorem en_ref1_thread (p:El T_api_Prog) (t:List (El T_api_Ins)) (L:Lt):entryA Go.Proofs.Tryz.prog (clOf t_ref1_thread) tb_ref1_thread Go.Proofs.Tryz.f69 c_ref1_thread L (toForms sg_ref1_thread (p,t,()))=(T0_ref1_thread p t).run (fun v=>some (R_ref1_thread v,tps (toForms sg_ref1_thread (p,t,())))) fun j=>L (S_ref1_thread p t j).1 (S_ref1_thread p t j).2:=by kernel_rfl
theorem lp_ref1_thread (p:El T_api_Prog) (t:List (El T_api_Ins)):∀(L:Lt) (j:J_ref1_thread),procOf (procsF Go.Proofs.Tryz.prog (clOf t_ref1_thread) tb_ref1_thread Go.Proofs.Tryz.f69 c_ref1_thread (toForms sg_ref1_thread (p,t,()))) (S_ref1_thread p t j).1 L (S_ref1_thread p t j).2=(T_ref1_thread p t j).run (fun v=>some (R_ref1_thread v,tps (toForms sg_ref1_thread (p,t,())))) fun j=>L (S_ref1_thread p t j).1 (S_ref1_thread p t j).2 | L,.l7 i seen=>by kernel_rfl | L,.l14 x x1 x2 x3 x4 x5 x6 x7 x8 x9 x10 x11 x12 k seen i=>by kernel_rfl | L,.l44 i=>by kernel_rfl
end
end Go.Ev
end

section
open Go
namespace Go.Ev
def v_ref1_thread (p:El T_api_Prog) (t:List (El T_api_Ins)):Int:=threadC p t
def k_ref1_thread (p:El T_api_Prog) (t:List (El T_api_Ins)):Bool:=smallThread t
theorem operand_eq' (len:Nat) (size:Int→Int) (k s n:Int) (h:(k=3∨k=4)→0≤s):
 (bif (! (decide (k=3) || decide (k=4))) then
  (0:Int)
 else bif (decide (s≥(Int.ofNat len))) then
  (7:Int)
 else bif (k==(3:Int)) then
  bif ((decide ((0:Int)≤s))&&(decide (s < (Int.ofNat len)))) then
   bif (decide (n≥size s)) then
    (8:Int)
   else (0:Int)
  else (0:Int)
 else (0:Int))=placeN len size k s n∧
 (bif (! (decide (k=3) || decide (k=4))) then
  true
 else bif (decide (s≥(Int.ofNat len))) then
  true
 else bif (k==(3:Int)) then
  bif ((decide ((0:Int)≤s))&&(decide (s < (Int.ofNat len)))) then
   bif (decide (n≥size s)) then
    true
   else true
  else false
 else true)=true:=by
 unfold placeN
 by_cases h3:k=3
 ·have h0:=h (.inl h3)
  subst h3
  by_cases hl:(len:Int)≤s
  ·simp[hl]
  have h2:s < (len:Int):=by omega
  have h1:¬s < 0:=by omega
  by_cases hn:size s≤n
  ·simp[hl,hn,h0,h1,h2]
  ·simp[hl,hn,h0,h1,h2]
 by_cases h4:k=4
 ·have h0:=h (.inr h4)
  subst h4
  have h1:¬s < 0:=by omega
  by_cases hl:(len:Int)≤s
  ·simp[hl]
  simp[hl,h1]
 simp[h3,h4]
theorem operand_eq (p:El T_api_Prog) (o:El T_api_Opd) (h:∀k s:Int,o.1=k→o.2.2.1=s→(k=3∨k=4)→0≤s):v_ref1_operand p o=placeC p o∧k_ref1_operand p o=true:=by
 have:=operand_eq' p.1.length (fun s=>(List.getD p.1 s.toNat (dflt T_api_Sym)).2.1) o.1 o.2.2.1 o.2.2.2 (h _ _ rfl rfl)
 unfold v_ref1_operand k_ref1_operand
 rw[refMemory_eq]
 exact this
theorem right_sym' {k r s n:Int} (h:v_opnd_Right (k,r,s,n)=true) (hk:k=3∨k=4):0≤s:=by
 unfold v_opnd_Right at h
 rcases hk with rfl | rfl
 ·by_cases hs:0≤s
  ·exact hs
  ·simp[hs] at h
 ·by_cases hs:0≤s
  ·exact hs
  ·simp[hs] at h
theorem opds_ok {i:El T_api_Ins} (hr:v_ins_Right i=0):(∀k s:Int,i.2.2.2.1.1=k→i.2.2.2.1.2.2.1=s→(k=3∨k=4)→0≤s)∧∀k s:Int,i.2.2.2.2.1.1=k→i.2.2.2.2.1.2.2.1=s→(k=3∨k=4)→0≤s:=by
 obtain ⟨h1,h14,hrow⟩:=right0_row hr
 rcases nine i.1 with ⟨h9,_⟩ | ⟨h9,_⟩
 ·obtain ⟨a,b⟩:=row_low hrow h1 h9
  exact ⟨fun k s hk hs h=>hs▸right_sym' (k:=i.2.2.2.1.1) (r:=i.2.2.2.1.2.1) (s:=i.2.2.2.1.2.2.1) (n:=i.2.2.2.1.2.2.2) a (hk▸h),fun k s hk hs h=>hs▸right_sym' (k:=i.2.2.2.2.1.1) (r:=i.2.2.2.2.1.2.1) (s:=i.2.2.2.2.1.2.2.1) (n:=i.2.2.2.2.1.2.2.2) b (hk▸h)⟩
 ·obtain ⟨a,b⟩:=row_high hrow h9
  refine ⟨fun k s hk hs h=>?_,fun k s hk hs h=>?_⟩
  ·have:k=0:=hk▸a
   omega
  ·have:k=0:=hk▸b
   omega
theorem g_ref1_thread (p:El T_api_Prog) (t:List (El T_api_Ins)) (hk:k_ref1_thread p t=true):Goes (T_ref1_thread p t) (T0_ref1_thread p t) (v_ref1_thread p t):=by
 have hS:=smallT hk
 have hn:=hS.len
 have hkf:∀l,k_ref1_Find t l=true:=fun l=>by
  unfold k_ref1_Find
  simp only[Bool.and_eq_true,decide_eq_true_eq,List.all_eq_true]
  exact ⟨hn,fun i hi=>Nat.lt_of_le_of_lt (labels_mem hi) hS.labs⟩
 have jmps:∀k,k≤t.length→Goes (T_ref1_thread p t) (.jmp (.l44 (k:Int))) (jumpC (labels t) (t.drop k)):=by
  refine down ?_ fun k hk ih=>?_
  ·rw[goes_jmp]
   simp only[T_ref1_thread,goes_br,lt_len_not (Nat.lt_irrefl _),goes_leaf,List.drop_length]
   simp[jumpC]
  ·rw[goes_jmp]
   simp only[T_ref1_thread,goes_br,lt_len hk,nng,Bool.and_self,if_true,Int.toNat_natCast,getD_lt hk,wrap_succ (k:=k) (by omega),hkf,jumps_eq]
   have hfi:decide (v_ref1_Find t t[k].2.2.2.2.2.1 < 0)=! (labels t).contains t[k].2.2.2.2.2.1:=findI_neg
   rw[hfi,drop_cons hk]
   unfold jumpC
   by_cases h1:((t[k].1==(10:Int)) || (t[k].1==(11:Int)))=true
   ·rw[if_pos h1,if_pos h1]
    by_cases h2:(labels t).contains t[k].2.2.2.2.2.1=true
    ·rw[if_pos h2,if_neg (by rw[h2];decide)];exact ih
    ·rw[if_neg h2,if_pos (by rw[Bool.eq_false_iff.2 h2];rfl)];exact .leaf
   ·rw[if_neg h1,if_neg h1];exact ih
 have main:∀k,k≤t.length→Goes (T_ref1_thread p t) (.jmp (.l7 (k:Int) (labels (t.take k)))) (scanI p (fun seen=>endC t (jumpC seen t)) (labels (t.take k)) (t.drop k)):=by
  refine down ?_ fun k hk ih=>?_
  ·have hj:=jmps 0 (Nat.zero_le _)
   rw[List.drop_zero] at hj
   rw[goes_jmp,List.drop_length,List.take_length]
   unfold scanI
   simp only[T_ref1_thread,goes_br,lt_len_not (Nat.lt_irrefl _)]
   rw[if_neg (by decide)]
   by_cases h0:t.length=0
   ·have:t=[]:=List.eq_nil_of_length_eq_zero h0
    rw[this];simp[goes_leaf,endC]
   ·have hp:0 < t.length:=by omega
    rw[if_neg (by simp;exact fun e=>h0 (by rw[e];rfl)),endC_eq hp]
    rw[show Int.ofNat t.length=(t.length:Int) from rfl,wrap_pred (k:=t.length) (by omega) hp]
    have hb:(decide (0≤((t.length - 1:Nat):Int))&&decide (((t.length - 1:Nat):Int) < (t.length:Int)))=true:=by simp;omega
    simp only[hb,if_true,Int.toNat_natCast,getD_lt (show t.length - 1 < t.length by omega)]
    unfold bne
    cases h10:(t[t.length - 1].1==(10:Int)) with
    | true=>simpa using hj
    | false=>
     cases h14:(t[t.length - 1].1==(14:Int)) with
     | true=>simpa using hj
     | false=>simp[goes_leaf]
  ·have hmem:t[k]∈t:=List.getElem_mem hk
   have hto:=hS.to _ hmem
   have hlab:=hS.lab _ hmem
   have hlen:=Nat.lt_of_le_of_lt (labels_mem hmem) hS.labs
   have htk:labels (t.take (k+1))=labels (t.take k)++t[k].2.2.2.2.2.2:=by
    unfold labels
    rw[List.take_add_one,List.getElem?_eq_getElem hk,List.flatMap_append]
    simp
   have hall:labels t=labels (t.take (k+1))++labels (t.drop (k+1)):=by
    unfold labels
    rw[←List.flatMap_append,List.take_append_drop]
   have hlt:(labels (t.take (k+1))).length < 1099511627776:=by
    have:=hS.labs
    rw[hall,List.length_append] at this
    omega
   rw[goes_jmp]
   simp only[T_ref1_thread,goes_br,lt_len hk,nng,Bool.and_self,if_true,Int.toNat_natCast,getD_lt hk]
   rw[drop_cons hk]
   unfold scanI
   rw[htk] at ih hlt
   generalize t[k]=i at hto hlab hlen htk ih hlt
   obtain ⟨op,lock,cond,⟨ak,ar,ay,an⟩,⟨bk,br,bz,bn⟩,to,ls⟩:=i
   dsimp only at hto hlab hlen htk ih hlt ⊢
   have inner:∀j,j≤ls.length→Goes (T_ref1_thread p t) (.jmp (.l14 op lock cond ak ar ay an bk br bz bn to ls (j:Int) (labels (t.take k)++ls.take j) (k:Int))) (scanL (labels (t.take k)++ls.take j) (fun seen=>if insC p (op,(lock,(cond,((ak,(ar,(ay,an))),((bk,(br,(bz,bn))),(to,ls))))))≠0 then insC p (op,(lock,(cond,((ak,(ar,(ay,an))),((bk,(br,(bz,bn))),(to,ls)))))) else scanI p (fun seen=>endC t (jumpC seen t)) seen (t.drop (k+1))) (ls.drop j)):=by
    refine down ?_ fun j hj ihj=>?_
    ·rw[goes_jmp,List.drop_length,List.take_length]
     unfold scanL
     have hkr:k_ref1_InsRight (op,(lock,(cond,((ak,(ar,(ay,an))),((bk,(br,(bz,bn))),(to,ls))))))=true:=hto
     simp only[T_ref1_thread,goes_br,lt_len_not (Nat.lt_irrefl _),hkr,if_true,wrap_succ (k:=k) (by omega)]
     rw[if_neg (by decide)]
     unfold insC v_ref1_InsRight
     dsimp only
     by_cases hr:v_ins_Right (op,(lock,(cond,((ak,(ar,(ay,an))),((bk,(br,(bz,bn))),(to,ls))))))=0
     ·obtain ⟨oa,ob⟩:=opds_ok hr
      obtain ⟨a1,a2⟩:=operand_eq p (ak,(ar,(ay,an))) oa
      obtain ⟨b1,b2⟩:=operand_eq p (bk,(br,(bz,bn))) ob
      by_cases ha:placeC p (ak,(ar,(ay,an)))=0
      ·by_cases hb:placeC p (bk,(br,(bz,bn)))=0
       ·simp[hr,ha,hb,a1,a2,b1,b2];exact ih
       ·simp[hr,ha,hb,a1,a2,b1,b2,goes_leaf]
      ·simp[hr,ha,a1,a2,goes_leaf]
     ·simp[hr,goes_leaf]
    ·have hl:=hlab ls[j] (List.getElem_mem hj)
     have hkn:k_ref1_Right ls[j]=true:=hl
     have hsl:(labels (t.take k)++ls.take j).length < 1099511627776:=by
      rw[List.length_append] at hlt ⊢
      rw[List.length_take]
      omega
     have hki:k_ref1_index (labels (t.take k)++ls.take j) ls[j]=true:=decide_eq_true (by omega)
     have hap:Nat.ble (((labels (t.take k)++ls.take j).length+1)*16) limit=true:=by apply Nat.ble_eq_true_of_le;unfold limit;omega
     have htj:labels (t.take k)++ls.take (j+1)=(labels (t.take k)++ls.take j)++[ls[j]]:=by
      rw[List.take_add_one,List.getElem?_eq_getElem hj,List.append_assoc];rfl
     rw[htj] at ihj
     rw[goes_jmp]
     simp only[T_ref1_thread,goes_br,lt_len hj,nng,Bool.and_self,if_true,Int.toNat_natCast,getD_lt hj,wrap_succ (k:=j) (by omega),hkn,hki,hap,index_contains]
     rw[drop_cons hj]
     unfold scanL
     by_cases h1:nameRight ls[j]=false
     ·rw[if_pos h1,if_pos (by show (! nameRight ls[j])=true;rw[h1];rfl)];exact .leaf
     ·rw[if_neg h1,if_neg (by show ¬(! nameRight ls[j])=true;simpa using h1)]
      by_cases h2:(labels (t.take k)++ls.take j).contains ls[j]=true
      ·rw[if_pos h2,if_pos h2];exact .leaf
      ·rw[if_neg h2,if_neg h2];exact ihj
   have:=inner 0 (Nat.zero_le _)
   rw[List.drop_zero,List.take_zero,List.append_nil] at this
   exact this
 unfold T0_ref1_thread v_ref1_thread
 have hkc:k_ref1_Count t=true:=decide_eq_true hn
 simp only[goes_br,hkc,if_true]
 unfold threadC v_ref1_Count
 by_cases h:4096 < countM t
 ·rw[if_pos (by simp;omega),if_pos h];exact .leaf
 ·rw[if_neg (by simp;omega),if_neg h]
  exact main 0 (Nat.zero_le _)
end Go.Ev
end

section
open Go Go.Ev
namespace Go.Ev
noncomputable section
noncomputable def e_ref1_thread:Run:=entG sg_ref1_thread R_ref1_thread (fun a=>k_ref1_thread a.1 a.2.1) (fun a=>v_ref1_thread a.1 a.2.1)
theorem ok_ref1_thread:EntOK Go.Proofs.Tryz.prog 69 e_ref1_thread:=entG_ok (tb:=tb_ref1_thread) (c:=c_ref1_thread) tk_ref1_thread (by kernel_rfl) (by kernel_rfl) (by kernel_rfl) (fun a=>by kernel_rfl) fun ⟨p,t,_⟩ hk=>evF_goes (c:=c_ref1_thread) (K:=fun v=>(R_ref1_thread v,tps (toForms sg_ref1_thread (p,t,())))) (S:=S_ref1_thread p t) (by kernel_rfl) (en_ref1_thread p t) (lp_ref1_thread p t) (g_ref1_thread p t hk)
end
end Go.Ev
end

section
open Go Go.Ev
namespace Go.Ev
noncomputable section
def sg_ref1_Check:Sig:=[(true,T_api_Prog)]
noncomputable def t_ref1_Check:Tbl:=[(68,e_ref1_Right),(69,e_ref1_thread)]
theorem tk_ref1_Check:∀p∈t_ref1_Check,EntOK Go.Proofs.Tryz.prog p.1 p.2:=tbl_cons ok_ref1_Right (tbl_cons ok_ref1_thread (tbl_nil))
noncomputable def c_ref1_Check:Code:=Go.Proofs.Tryz.f39.body.getD .skip
def tb_ref1_Check:Tb:=[(6,⟨[1,3],[]⟩),(16,⟨[1,3,4,5],[]⟩),(26,⟨[1,6],[]⟩)]
inductive J_ref1_Check where | l6 (i:Int) | l16 (x:ByteArray) (x1:Int) (x2:List Int) (i:Int) (k:Int) | l26 (i:Int)
def T_ref1_Check (p:El T_api_Prog):J_ref1_Check→JT J_ref1_Check (Int) |.l6 i=>.br (decide (i < (Int.ofNat (List.length p.1)))) (.br ((decide ((0:Int)≤i))&&(decide (i < (Int.ofNat (List.length p.1))))) (.br (k_ref1_Right (List.getD p.1 (Int.toNat i) (dflt T_api_Sym)).1) (.br (! (v_ref1_Right (List.getD p.1 (Int.toNat i) (dflt T_api_Sym)).1)) (.leaf (3:Int)) (.jmp (.l16 (List.getD p.1 (Int.toNat i) (dflt T_api_Sym)).1 (List.getD p.1 (Int.toNat i) (dflt T_api_Sym)).2.1 (List.getD p.1 (Int.toNat i) (dflt T_api_Sym)).2.2 i (0:Int)))) (.no)) (.no)) (.jmp (.l26 (0:Int))) |.l16 x x1 x2 i k=>.br (decide (k < i)) (.br ((decide ((0:Int)≤k))&&(decide (k < (Int.ofNat (List.length p.1))))) (.br (eqB (List.getD p.1 (Int.toNat k) (dflt T_api_Sym)).1 x) (.leaf (6:Int)) (.jmp (.l16 x x1 x2 i (IntKind.i64.wrap (k+(1:Int)))))) (.no)) (.br (decide (x1 < (1:Int))) (.leaf (5:Int)) (.br (decide (x1 > (64:Int))) (.leaf (5:Int)) (.br (decide ((Int.ofNat (List.length x2)) > x1)) (.leaf (5:Int)) (.jmp (.l6 (IntKind.i64.wrap (i+(1:Int)))))))) |.l26 i=>.br (decide (i < (Int.ofNat (List.length p.2)))) (.br ((decide ((0:Int)≤i))&&(decide (i < (Int.ofNat (List.length p.2))))) (.br (k_ref1_thread p (List.getD p.2 (Int.toNat i) (dflt (.sl T_api_Ins)))) (.br ((v_ref1_thread p (List.getD p.2 (Int.toNat i) (dflt (.sl T_api_Ins)))) !=(0:Int)) (.leaf (v_ref1_thread p (List.getD p.2 (Int.toNat i) (dflt (.sl T_api_Ins))))) (.jmp (.l26 (IntKind.i64.wrap (i+(1:Int)))))) (.no)) (.no)) (.leaf (0:Int))
def T0_ref1_Check (p:El T_api_Prog):JT J_ref1_Check (Int):=.br (decide ((Int.ofNat (List.length p.1)) > (64:Int))) (.leaf (10:Int)) (.br (decide ((Int.ofNat (List.length p.2)) > (64:Int))) (.leaf (10:Int)) (.jmp (.l6 (0:Int))))
def R_ref1_Check:Int→AV:=fun (r:Int)=>.d (.int .i64) r
def S_ref1_Check (p:El T_api_Prog):J_ref1_Check→Nat×St |.l6 i=>(6,⟨mkTm 81 [(1,.pt 2 0 0),(3,.d (.int .i64) i)],[(2,0,.box 26 [.d (.sl T_api_Sym) p.1,.d (.sl (.sl T_api_Ins)) p.2] none)]⟩) |.l16 x x1 x2 i k=>(16,⟨mkTm 81 [(1,.pt 2 0 0),(3,.d (.int .i64) i),(4,.pt 5 0 0),(5,.d (.int .i64) k)],[(2,0,.box 26 [.d (.sl T_api_Sym) p.1,.d (.sl (.sl T_api_Ins)) p.2] none),(5,0,.box 67 [.d .str x,.d (.int .i64) x1,.d (.sl (.int .i64)) x2] none)]⟩) |.l26 i=>(26,⟨mkTm 81 [(1,.pt 2 0 0),(6,.d (.int .i64) i)],[(2,0,.box 26 [.d (.sl T_api_Sym) p.1,.d (.sl (.sl T_api_Ins)) p.2] none)]⟩)
theorem en_ref1_Check (p:El T_api_Prog) (L:Lt):entryA Go.Proofs.Tryz.prog (clOf t_ref1_Check) tb_ref1_Check Go.Proofs.Tryz.f39 c_ref1_Check L (toForms sg_ref1_Check (p,()))=(T0_ref1_Check p).run (fun v=>some (R_ref1_Check v,tps (toForms sg_ref1_Check (p,())))) fun j=>L (S_ref1_Check p j).1 (S_ref1_Check p j).2:=by kernel_rfl
theorem lp_ref1_Check (p:El T_api_Prog):∀(L:Lt) (j:J_ref1_Check),procOf (procsF Go.Proofs.Tryz.prog (clOf t_ref1_Check) tb_ref1_Check Go.Proofs.Tryz.f39 c_ref1_Check (toForms sg_ref1_Check (p,()))) (S_ref1_Check p j).1 L (S_ref1_Check p j).2=(T_ref1_Check p j).run (fun v=>some (R_ref1_Check v,tps (toForms sg_ref1_Check (p,())))) fun j=>L (S_ref1_Check p j).1 (S_ref1_Check p j).2 | L,.l6 i=>by kernel_rfl | L,.l16 x x1 x2 i k=>by kernel_rfl | L,.l26 i=>by kernel_rfl
end
end Go.Ev
end

section
open Go
namespace Go.Ev
def v_ref1_Check (p:El T_api_Prog):Int:=checkC p
def k_ref1_Check (p:El T_api_Prog):Bool:=smallProg p
theorem g_ref1_Check (p:El T_api_Prog) (hk:k_ref1_Check p=true):Goes (T_ref1_Check p) (T0_ref1_Check p) (v_ref1_Check p):=by
 have hth:∀t∈p.2,smallThread t=true:=by
  unfold k_ref1_Check smallProg at hk
  simp only[Bool.and_eq_true,List.all_eq_true] at hk
  exact hk.2
 have hsy:∀s∈p.1,smallText s.1=true:=by
  unfold k_ref1_Check smallProg at hk
  simp only[Bool.and_eq_true,List.all_eq_true] at hk
  exact hk.1
 obtain ⟨sy,th⟩:=p
 dsimp only at hth hsy
 have ths:th.length≤64→∀k,k≤th.length→Goes (T_ref1_Check (sy,th)) (.jmp (.l26 (k:Int))) (thsC (sy,th) (th.drop k)):=by
  intro hn
  refine down ?_ fun k hk ih=>?_
  ·rw[goes_jmp]
   simp only[T_ref1_Check,goes_br,lt_len_not (Nat.lt_irrefl _),goes_leaf,List.drop_length]
   simp[thsC]
  ·have hkt:k_ref1_thread (sy,th) th[k]=true:=hth _ (List.getElem_mem hk)
   rw[goes_jmp]
   simp only[T_ref1_Check,goes_br,lt_len hk,nng,Bool.and_self,if_true,Int.toNat_natCast,getD_lt hk,wrap_succ (k:=k) (by omega),hkt]
   rw[drop_cons hk]
   unfold thsC
   show (if (threadC (sy,th) th[k] !=0)=true then _ else _)
   by_cases h:threadC (sy,th) th[k]=0
   ·rw[if_neg (by simp[h]),if_neg (by simp[h])];exact ih
   ·rw[if_pos (by simp[h]),if_pos h];exact .leaf
 have main:sy.length≤64→th.length≤64→∀k,k≤sy.length→Goes (T_ref1_Check (sy,th)) (.jmp (.l6 (k:Int))) (symsC (thsC (sy,th) th) ((sy.take k).map fun s=>s.1) (sy.drop k)):=by
  intro hn hm
  refine down ?_ fun k hk ih=>?_
  ·rw[goes_jmp,List.drop_length]
   unfold symsC
   simp only[T_ref1_Check,goes_br,lt_len_not (Nat.lt_irrefl _)]
   rw[if_neg (by decide)]
   simpa using ths hm 0 (Nat.zero_le _)
  ·have hkn:k_ref1_Right sy[k].1=true:=hsy _ (List.getElem_mem hk)
   have htk:(sy.take (k+1)).map (fun s=>s.1)=(sy.take k).map (fun s=>s.1)++[sy[k].1]:=by
    rw[List.take_add_one,List.getElem?_eq_getElem hk,List.map_append];rfl
   rw[htk] at ih
   rw[goes_jmp]
   simp only[T_ref1_Check,goes_br,lt_len hk,nng,Bool.and_self,if_true,Int.toNat_natCast,getD_lt hk,hkn]
   rw[drop_cons hk]
   unfold symsC
   generalize sy[k]=s at ih hkn
   obtain ⟨nm,size,init⟩:=s
   dsimp only at ih hkn ⊢
   change Int at size
   by_cases h1:nameRight nm=false
   ·rw[if_pos h1,if_pos (by show (! nameRight nm)=true;rw[h1];rfl)];exact .leaf
   rw[if_neg h1,if_neg (by show ¬(! nameRight nm)=true;simpa using h1)]
   have inner:∀j,j≤k→Goes (T_ref1_Check (sy,th)) (.jmp (.l16 nm size init (k:Int) (j:Int))) (if (((sy.take k).drop j).map (fun s=>s.1)).contains nm=true then 6 else if size < (1:Int)∨(64:Int) < size∨size < (List.length init:Int) then 5 else symsC (thsC (sy,th) th) ((sy.take k).map (fun s=>s.1)++[nm]) (sy.drop (k+1))):=by
    refine down ?_ fun j hj ihj=>?_
    ·rw[goes_jmp]
     have:(sy.take k).drop k=[]:=List.drop_eq_nil_of_le (by rw[List.length_take];omega)
     rw[this]
     simp only[T_ref1_Check,goes_br,wrap_succ (k:=k) (by omega)]
     rw[if_neg (by simp)]
     simp only[List.map_nil,List.contains_nil,Bool.false_eq_true,if_false]
     by_cases h3:size < 1
     ·rw[if_pos (decide_eq_true h3),if_pos (.inl h3)];exact .leaf
     rw[if_neg (by simpa using h3)]
     by_cases h4:64 < size
     ·rw[if_pos (decide_eq_true h4),if_pos (.inr (.inl h4))];exact .leaf
     rw[if_neg (by simpa using h4)]
     by_cases h5:size < (List.length init:Int)
     ·rw[if_pos (show decide (Int.ofNat (List.length init) > size)=true from decide_eq_true h5),if_pos (.inr (.inr h5))];exact .leaf
     rw[if_neg (show ¬decide (Int.ofNat (List.length init) > size)=true by simpa using h5),if_neg (by rintro (h | h | h) <;> contradiction)]
     exact ih
    ·have hjs:j < sy.length:=by omega
     have hjt:j < (sy.take k).length:=by rw[List.length_take];omega
     rw[goes_jmp,drop_cons hjt,List.map_cons,List.contains_cons,List.getElem_take]
     simp only[T_ref1_Check,goes_br,lt_len hjs,nng,Bool.and_self,if_true,Int.toNat_natCast,getD_lt hjs,wrap_succ (k:=j) (by omega),eqB_iff]
     rw[if_pos (by simp;omega)]
     by_cases h2:sy[j].1=nm
     ·rw[if_pos h2,if_pos (by rw[h2];simp)];exact .leaf
     ·rw[if_neg h2,beq_false_of_ne (Ne.symm h2),Bool.false_or];exact ihj
   simpa using inner 0 (Nat.zero_le _)
 unfold T0_ref1_Check v_ref1_Check checkC
 simp only[goes_br]
 by_cases h:64 < sy.length
 ·rw[if_pos (by simp;omega),if_pos (.inl h)];exact .leaf
 rw[if_neg (by simp;omega)]
 by_cases h2:64 < th.length
 ·rw[if_pos (by simp;omega),if_pos (.inr h2)];exact .leaf
 rw[if_neg (by simp;omega),if_neg (by rintro (h | h) <;> contradiction)]
 exact main (by omega) (by omega) 0 (Nat.zero_le _)
end Go.Ev
end

section
open Go Go.Ev
namespace Go.Ev
noncomputable section
noncomputable def e_ref1_Check:Run:=entG sg_ref1_Check R_ref1_Check (fun a=>k_ref1_Check a.1) (fun a=>v_ref1_Check a.1)
theorem ok_ref1_Check:EntOK Go.Proofs.Tryz.prog 39 e_ref1_Check:=entG_ok (tb:=tb_ref1_Check) (c:=c_ref1_Check) tk_ref1_Check (by kernel_rfl) (by kernel_rfl) (by kernel_rfl) (fun a=>by kernel_rfl) fun ⟨p,_⟩ hk=>evF_goes (c:=c_ref1_Check) (K:=fun v=>(R_ref1_Check v,tps (toForms sg_ref1_Check (p,())))) (S:=S_ref1_Check p) (by kernel_rfl) (en_ref1_Check p) (lp_ref1_Check p) (g_ref1_Check p hk)
end
end Go.Ev
end

section
open Go Go.Ev
namespace Go.Ev
noncomputable section
def sg_ref1_Reads:Sig:=[(true,T_api_Ins)]
noncomputable def t_ref1_Reads:Tbl:=[(57,e_ref1_InsRight),(58,e_ref1_Memory)]
theorem tk_ref1_Reads:∀p∈t_ref1_Reads,EntOK Go.Proofs.Tryz.prog p.1 p.2:=tbl_cons ok_ref1_InsRight (tbl_cons ok_ref1_Memory (tbl_nil))
noncomputable def c_ref1_Reads:Code:=Go.Proofs.Tryz.f40.body.getD .skip
def tb_ref1_Reads:Tb:=[]
def T_ref1_Reads (i:El T_api_Ins):Empty→JT Empty ((El T_api_Opd)×Bool):=fun j=>nomatch j
def T0_ref1_Reads (i:El T_api_Ins):JT Empty ((El T_api_Opd)×Bool):=.br (k_ref1_InsRight i) (.br ((v_ref1_InsRight i) !=(0:Int)) (.leaf (((0:Int),((0:Int),((0:Int),(0:Int)))),false)) (.br (decide (i.1 > (9:Int))) (.leaf (((0:Int),((0:Int),((0:Int),(0:Int)))),false)) (.br (v_ref1_Memory i.2.2.2.2.1) (.leaf (i.2.2.2.2.1,true)) (.br (v_ref1_Memory i.2.2.2.1) (.br (i.1 !=(1:Int)) (.leaf (i.2.2.2.1,true)) (.leaf (((0:Int),((0:Int),((0:Int),(0:Int)))),false))) (.leaf (((0:Int),((0:Int),((0:Int),(0:Int)))),false)))))) (.no)
def v_ref1_Reads (i:El T_api_Ins):(El T_api_Opd)×Bool:=bif (k_ref1_InsRight i) then bif ((v_ref1_InsRight i) !=(0:Int)) then (((0:Int),((0:Int),((0:Int),(0:Int)))),false) else bif (decide (i.1 > (9:Int))) then (((0:Int),((0:Int),((0:Int),(0:Int)))),false) else bif (v_ref1_Memory i.2.2.2.2.1) then (i.2.2.2.2.1,true) else bif (v_ref1_Memory i.2.2.2.1) then bif (i.1 !=(1:Int)) then (i.2.2.2.1,true) else (((0:Int),((0:Int),((0:Int),(0:Int)))),false) else (((0:Int),((0:Int),((0:Int),(0:Int)))),false) else (((0:Int),((0:Int),((0:Int),(0:Int)))),false)
def k_ref1_Reads (i:El T_api_Ins):Bool:=bif (k_ref1_InsRight i) then bif ((v_ref1_InsRight i) !=(0:Int)) then true else bif (decide (i.1 > (9:Int))) then true else bif (v_ref1_Memory i.2.2.2.2.1) then true else bif (v_ref1_Memory i.2.2.2.1) then bif (i.1 !=(1:Int)) then true else true else true else false
theorem g_ref1_Reads (i:El T_api_Ins) (hk:k_ref1_Reads i=true):Goes (T_ref1_Reads i) (T0_ref1_Reads i) (v_ref1_Reads i):=Goes.brk hk (fun hk=>Goes.brk hk (fun hk=>Goes.leaf) (fun hk=>Goes.brk hk (fun hk=>Goes.leaf) (fun hk=>Goes.brk hk (fun hk=>Goes.leaf) (fun hk=>Goes.brk hk (fun hk=>Goes.brk hk (fun hk=>Goes.leaf) (fun hk=>Goes.leaf)) (fun hk=>Goes.leaf))))) (fun hk=>Goes.nok hk)
def R_ref1_Reads:(El T_api_Opd)×Bool→AV:=fun (r:(El T_api_Opd)×Bool)=>.tu [.ag [.d (.int .i64) r.1.1,.d (.int .i64) r.1.2.1,.d (.int .i64) r.1.2.2.1,.d (.int .i64) r.1.2.2.2],.d .bool r.2]
def S_ref1_Reads (i:El T_api_Ins):Empty→Nat×St:=fun j=>nomatch j
theorem en_ref1_Reads (i:El T_api_Ins) (L:Lt):entryA Go.Proofs.Tryz.prog (clOf t_ref1_Reads) tb_ref1_Reads Go.Proofs.Tryz.f40 c_ref1_Reads L (toForms sg_ref1_Reads (i,()))=(T0_ref1_Reads i).run (fun v=>some (R_ref1_Reads v,tps (toForms sg_ref1_Reads (i,())))) fun j=>L (S_ref1_Reads i j).1 (S_ref1_Reads i j).2:=by kernel_rfl
theorem lp_ref1_Reads (i:El T_api_Ins):∀(L:Lt) (j:Empty),procOf (procsF Go.Proofs.Tryz.prog (clOf t_ref1_Reads) tb_ref1_Reads Go.Proofs.Tryz.f40 c_ref1_Reads (toForms sg_ref1_Reads (i,()))) (S_ref1_Reads i j).1 L (S_ref1_Reads i j).2=(T_ref1_Reads i j).run (fun v=>some (R_ref1_Reads v,tps (toForms sg_ref1_Reads (i,())))) fun j=>L (S_ref1_Reads i j).1 (S_ref1_Reads i j).2:=fun L j=>nomatch j
noncomputable def e_ref1_Reads:Run:=entG sg_ref1_Reads R_ref1_Reads (fun a=>k_ref1_Reads a.1) (fun a=>v_ref1_Reads a.1)
theorem ok_ref1_Reads:EntOK Go.Proofs.Tryz.prog 40 e_ref1_Reads:=entG_ok (tb:=tb_ref1_Reads) (c:=c_ref1_Reads) tk_ref1_Reads (by kernel_rfl) (by kernel_rfl) (by kernel_rfl) (fun a=>by kernel_rfl) fun ⟨i,_⟩ hk=>evF_goes (c:=c_ref1_Reads) (K:=fun v=>(R_ref1_Reads v,tps (toForms sg_ref1_Reads (i,())))) (S:=S_ref1_Reads i) (by kernel_rfl) (en_ref1_Reads i) (lp_ref1_Reads i) (g_ref1_Reads i hk)
end
end Go.Ev
end

section
open Go Go.Ev
namespace Go.Ev
noncomputable section
def sg_ref1_Writes:Sig:=[(true,T_api_Ins)]
noncomputable def t_ref1_Writes:Tbl:=[(57,e_ref1_InsRight),(58,e_ref1_Memory)]
theorem tk_ref1_Writes:∀p∈t_ref1_Writes,EntOK Go.Proofs.Tryz.prog p.1 p.2:=tbl_cons ok_ref1_InsRight (tbl_cons ok_ref1_Memory (tbl_nil))
noncomputable def c_ref1_Writes:Code:=Go.Proofs.Tryz.f32.body.getD .skip
def tb_ref1_Writes:Tb:=[]
def T_ref1_Writes (i:El T_api_Ins):Empty→JT Empty ((El T_api_Opd)×Bool):=fun j=>nomatch j
def T0_ref1_Writes (i:El T_api_Ins):JT Empty ((El T_api_Opd)×Bool):=.br (k_ref1_InsRight i) (.br ((v_ref1_InsRight i) !=(0:Int)) (.leaf (((0:Int),((0:Int),((0:Int),(0:Int)))),false)) (.br (decide (i.1 > (9:Int))) (.leaf (((0:Int),((0:Int),((0:Int),(0:Int)))),false)) (.br (i.1==(7:Int)) (.leaf (((0:Int),((0:Int),((0:Int),(0:Int)))),false)) (.br (! (v_ref1_Memory i.2.2.2.1)) (.leaf (((0:Int),((0:Int),((0:Int),(0:Int)))),false)) (.leaf (i.2.2.2.1,true)))))) (.no)
def v_ref1_Writes (i:El T_api_Ins):(El T_api_Opd)×Bool:=bif (k_ref1_InsRight i) then bif ((v_ref1_InsRight i) !=(0:Int)) then (((0:Int),((0:Int),((0:Int),(0:Int)))),false) else bif (decide (i.1 > (9:Int))) then (((0:Int),((0:Int),((0:Int),(0:Int)))),false) else bif (i.1==(7:Int)) then (((0:Int),((0:Int),((0:Int),(0:Int)))),false) else bif (! (v_ref1_Memory i.2.2.2.1)) then (((0:Int),((0:Int),((0:Int),(0:Int)))),false) else (i.2.2.2.1,true) else (((0:Int),((0:Int),((0:Int),(0:Int)))),false)
def k_ref1_Writes (i:El T_api_Ins):Bool:=bif (k_ref1_InsRight i) then bif ((v_ref1_InsRight i) !=(0:Int)) then true else bif (decide (i.1 > (9:Int))) then true else bif (i.1==(7:Int)) then true else bif (! (v_ref1_Memory i.2.2.2.1)) then true else true else false
theorem g_ref1_Writes (i:El T_api_Ins) (hk:k_ref1_Writes i=true):Goes (T_ref1_Writes i) (T0_ref1_Writes i) (v_ref1_Writes i):=Goes.brk hk (fun hk=>Goes.brk hk (fun hk=>Goes.leaf) (fun hk=>Goes.brk hk (fun hk=>Goes.leaf) (fun hk=>Goes.brk hk (fun hk=>Goes.leaf) (fun hk=>Goes.brk hk (fun hk=>Goes.leaf) (fun hk=>Goes.leaf))))) (fun hk=>Goes.nok hk)
def R_ref1_Writes:(El T_api_Opd)×Bool→AV:=fun (r:(El T_api_Opd)×Bool)=>.tu [.ag [.d (.int .i64) r.1.1,.d (.int .i64) r.1.2.1,.d (.int .i64) r.1.2.2.1,.d (.int .i64) r.1.2.2.2],.d .bool r.2]
def S_ref1_Writes (i:El T_api_Ins):Empty→Nat×St:=fun j=>nomatch j
theorem en_ref1_Writes (i:El T_api_Ins) (L:Lt):entryA Go.Proofs.Tryz.prog (clOf t_ref1_Writes) tb_ref1_Writes Go.Proofs.Tryz.f32 c_ref1_Writes L (toForms sg_ref1_Writes (i,()))=(T0_ref1_Writes i).run (fun v=>some (R_ref1_Writes v,tps (toForms sg_ref1_Writes (i,())))) fun j=>L (S_ref1_Writes i j).1 (S_ref1_Writes i j).2:=by kernel_rfl
theorem lp_ref1_Writes (i:El T_api_Ins):∀(L:Lt) (j:Empty),procOf (procsF Go.Proofs.Tryz.prog (clOf t_ref1_Writes) tb_ref1_Writes Go.Proofs.Tryz.f32 c_ref1_Writes (toForms sg_ref1_Writes (i,()))) (S_ref1_Writes i j).1 L (S_ref1_Writes i j).2=(T_ref1_Writes i j).run (fun v=>some (R_ref1_Writes v,tps (toForms sg_ref1_Writes (i,())))) fun j=>L (S_ref1_Writes i j).1 (S_ref1_Writes i j).2:=fun L j=>nomatch j
noncomputable def e_ref1_Writes:Run:=entG sg_ref1_Writes R_ref1_Writes (fun a=>k_ref1_Writes a.1) (fun a=>v_ref1_Writes a.1)
theorem ok_ref1_Writes:EntOK Go.Proofs.Tryz.prog 32 e_ref1_Writes:=entG_ok (tb:=tb_ref1_Writes) (c:=c_ref1_Writes) tk_ref1_Writes (by kernel_rfl) (by kernel_rfl) (by kernel_rfl) (fun a=>by kernel_rfl) fun ⟨i,_⟩ hk=>evF_goes (c:=c_ref1_Writes) (K:=fun v=>(R_ref1_Writes v,tps (toForms sg_ref1_Writes (i,())))) (S:=S_ref1_Writes i) (by kernel_rfl) (en_ref1_Writes i) (lp_ref1_Writes i) (g_ref1_Writes i hk)
end
end Go.Ev
end

section
open Go Go.Ev
namespace Go.Ev
noncomputable section
def sg_ref1_Locked:Sig:=[(true,T_api_Ins)]
noncomputable def t_ref1_Locked:Tbl:=[(57,e_ref1_InsRight)]
theorem tk_ref1_Locked:∀p∈t_ref1_Locked,EntOK Go.Proofs.Tryz.prog p.1 p.2:=tbl_cons ok_ref1_InsRight (tbl_nil)
noncomputable def c_ref1_Locked:Code:=Go.Proofs.Tryz.f41.body.getD .skip
def tb_ref1_Locked:Tb:=[]
def T_ref1_Locked (i:El T_api_Ins):Empty→JT Empty (Bool):=fun j=>nomatch j
def T0_ref1_Locked (i:El T_api_Ins):JT Empty (Bool):=.br (k_ref1_InsRight i) (.br ((v_ref1_InsRight i)==(0:Int)) (.br (i.1==(8:Int)) (.leaf true) (.leaf i.2.1)) (.leaf false)) (.no)
def v_ref1_Locked (i:El T_api_Ins):Bool:=bif (k_ref1_InsRight i) then bif ((v_ref1_InsRight i)==(0:Int)) then bif (i.1==(8:Int)) then true else i.2.1 else false else false
def k_ref1_Locked (i:El T_api_Ins):Bool:=bif (k_ref1_InsRight i) then bif ((v_ref1_InsRight i)==(0:Int)) then bif (i.1==(8:Int)) then true else true else true else false
theorem g_ref1_Locked (i:El T_api_Ins) (hk:k_ref1_Locked i=true):Goes (T_ref1_Locked i) (T0_ref1_Locked i) (v_ref1_Locked i):=Goes.brk hk (fun hk=>Goes.brk hk (fun hk=>Goes.brk hk (fun hk=>Goes.leaf) (fun hk=>Goes.leaf)) (fun hk=>Goes.leaf)) (fun hk=>Goes.nok hk)
def R_ref1_Locked:Bool→AV:=fun (r:Bool)=>.d .bool r
def S_ref1_Locked (i:El T_api_Ins):Empty→Nat×St:=fun j=>nomatch j
theorem en_ref1_Locked (i:El T_api_Ins) (L:Lt):entryA Go.Proofs.Tryz.prog (clOf t_ref1_Locked) tb_ref1_Locked Go.Proofs.Tryz.f41 c_ref1_Locked L (toForms sg_ref1_Locked (i,()))=(T0_ref1_Locked i).run (fun v=>some (R_ref1_Locked v,tps (toForms sg_ref1_Locked (i,())))) fun j=>L (S_ref1_Locked i j).1 (S_ref1_Locked i j).2:=by kernel_rfl
theorem lp_ref1_Locked (i:El T_api_Ins):∀(L:Lt) (j:Empty),procOf (procsF Go.Proofs.Tryz.prog (clOf t_ref1_Locked) tb_ref1_Locked Go.Proofs.Tryz.f41 c_ref1_Locked (toForms sg_ref1_Locked (i,()))) (S_ref1_Locked i j).1 L (S_ref1_Locked i j).2=(T_ref1_Locked i j).run (fun v=>some (R_ref1_Locked v,tps (toForms sg_ref1_Locked (i,())))) fun j=>L (S_ref1_Locked i j).1 (S_ref1_Locked i j).2:=fun L j=>nomatch j
noncomputable def e_ref1_Locked:Run:=entG sg_ref1_Locked R_ref1_Locked (fun a=>k_ref1_Locked a.1) (fun a=>v_ref1_Locked a.1)
theorem ok_ref1_Locked:EntOK Go.Proofs.Tryz.prog 41 e_ref1_Locked:=entG_ok (tb:=tb_ref1_Locked) (c:=c_ref1_Locked) tk_ref1_Locked (by kernel_rfl) (by kernel_rfl) (by kernel_rfl) (fun a=>by kernel_rfl) fun ⟨i,_⟩ hk=>evF_goes (c:=c_ref1_Locked) (K:=fun v=>(R_ref1_Locked v,tps (toForms sg_ref1_Locked (i,())))) (S:=S_ref1_Locked i) (by kernel_rfl) (en_ref1_Locked i) (lp_ref1_Locked i) (g_ref1_Locked i hk)
end
end Go.Ev
end

section
open Go Go.Ev
namespace Go.Ev
noncomputable section
def sg_ref3_Accesses:Sig:=[(true,T_api_Prog)]
noncomputable def t_ref3_Accesses:Tbl:=[(39,e_ref1_Check),(40,e_ref1_Reads),(32,e_ref1_Writes),(41,e_ref1_Locked)]
theorem tk_ref3_Accesses:∀p∈t_ref3_Accesses,EntOK Go.Proofs.Tryz.prog p.1 p.2:=tbl_cons ok_ref1_Check (tbl_cons ok_ref1_Reads (tbl_cons ok_ref1_Writes (tbl_cons ok_ref1_Locked (tbl_nil))))
noncomputable def c_ref3_Accesses:Code:=Go.Proofs.Tryz.f17.body.getD .skip
def tb_ref3_Accesses:Tb:=[(7,⟨[1,3,4],[(4,68)]⟩),(12,⟨[1,3,4,5],[(4,68)]⟩),(hintK,⟨[],[(1,68)]⟩)]
inductive J_ref3_Accesses where | l7 (t:Int) (out:List (El T_api_Access)) | l12 (i:Int) (out:List (El T_api_Access)) (t:Int)
def T_ref3_Accesses (p:El T_api_Prog):J_ref3_Accesses→JT J_ref3_Accesses (List (El T_api_Access)) |.l7 t out=>.br (decide (t < (Int.ofNat (List.length p.2)))) (.jmp (.l12 (0:Int) out t)) (.leaf out) |.l12 i out t=>.br ((decide ((0:Int)≤t))&&(decide (t < (Int.ofNat (List.length p.2))))) (.br (decide (i < (Int.ofNat (List.length (List.getD p.2 (Int.toNat t) (dflt (.sl T_api_Ins))))))) (.br ((decide ((0:Int)≤t))&&(decide (t < (Int.ofNat (List.length p.2))))) (.br ((decide ((0:Int)≤i))&&(decide (i < (Int.ofNat (List.length (List.getD p.2 (Int.toNat t) (dflt (.sl T_api_Ins)))))))) (.br (k_ref1_Reads (List.getD (List.getD p.2 (Int.toNat t) (dflt (.sl T_api_Ins))) (Int.toNat i) (dflt T_api_Ins))) (.br (k_ref1_Writes (List.getD (List.getD p.2 (Int.toNat t) (dflt (.sl T_api_Ins))) (Int.toNat i) (dflt T_api_Ins))) (.br (v_ref1_Reads (List.getD (List.getD p.2 (Int.toNat t) (dflt (.sl T_api_Ins))) (Int.toNat i) (dflt T_api_Ins))).2 (.br (k_ref1_Locked (List.getD (List.getD p.2 (Int.toNat t) (dflt (.sl T_api_Ins))) (Int.toNat i) (dflt T_api_Ins))) (.br (Nat.ble (((List.length out)+1)*40) limit) (.br (v_ref1_Writes (List.getD (List.getD p.2 (Int.toNat t) (dflt (.sl T_api_Ins))) (Int.toNat i) (dflt T_api_Ins))).2 (.br (k_ref1_Locked (List.getD (List.getD p.2 (Int.toNat t) (dflt (.sl T_api_Ins))) (Int.toNat i) (dflt T_api_Ins))) (.br (Nat.ble (((List.length (out++[(t,(i,((0:Int),((v_ref1_Reads (List.getD (List.getD p.2 (Int.toNat t) (dflt (.sl T_api_Ins))) (Int.toNat i) (dflt T_api_Ins))).1.2.2.1,(false,(v_ref1_Locked (List.getD (List.getD p.2 (Int.toNat t) (dflt (.sl T_api_Ins))) (Int.toNat i) (dflt T_api_Ins))))))))]))+1)*40) limit) (.jmp (.l12 (IntKind.i64.wrap (i+(1:Int))) ((out++[(t,(i,((0:Int),((v_ref1_Reads (List.getD (List.getD p.2 (Int.toNat t) (dflt (.sl T_api_Ins))) (Int.toNat i) (dflt T_api_Ins))).1.2.2.1,(false,(v_ref1_Locked (List.getD (List.getD p.2 (Int.toNat t) (dflt (.sl T_api_Ins))) (Int.toNat i) (dflt T_api_Ins))))))))])++[(t,(i,((1:Int),((v_ref1_Writes (List.getD (List.getD p.2 (Int.toNat t) (dflt (.sl T_api_Ins))) (Int.toNat i) (dflt T_api_Ins))).1.2.2.1,(true,(v_ref1_Locked (List.getD (List.getD p.2 (Int.toNat t) (dflt (.sl T_api_Ins))) (Int.toNat i) (dflt T_api_Ins))))))))]) t)) (.no)) (.no)) (.jmp (.l12 (IntKind.i64.wrap (i+(1:Int))) (out++[(t,(i,((0:Int),((v_ref1_Reads (List.getD (List.getD p.2 (Int.toNat t) (dflt (.sl T_api_Ins))) (Int.toNat i) (dflt T_api_Ins))).1.2.2.1,(false,(v_ref1_Locked (List.getD (List.getD p.2 (Int.toNat t) (dflt (.sl T_api_Ins))) (Int.toNat i) (dflt T_api_Ins))))))))]) t))) (.no)) (.no)) (.br (v_ref1_Writes (List.getD (List.getD p.2 (Int.toNat t) (dflt (.sl T_api_Ins))) (Int.toNat i) (dflt T_api_Ins))).2 (.br (k_ref1_Locked (List.getD (List.getD p.2 (Int.toNat t) (dflt (.sl T_api_Ins))) (Int.toNat i) (dflt T_api_Ins))) (.br (Nat.ble (((List.length out)+1)*40) limit) (.jmp (.l12 (IntKind.i64.wrap (i+(1:Int))) (out++[(t,(i,((0:Int),((v_ref1_Writes (List.getD (List.getD p.2 (Int.toNat t) (dflt (.sl T_api_Ins))) (Int.toNat i) (dflt T_api_Ins))).1.2.2.1,(true,(v_ref1_Locked (List.getD (List.getD p.2 (Int.toNat t) (dflt (.sl T_api_Ins))) (Int.toNat i) (dflt T_api_Ins))))))))]) t)) (.no)) (.no)) (.jmp (.l12 (IntKind.i64.wrap (i+(1:Int))) out t)))) (.no)) (.no)) (.no)) (.no)) (.jmp (.l7 (IntKind.i64.wrap (t+(1:Int))) out))) (.no)
def T0_ref3_Accesses (p:El T_api_Prog):JT J_ref3_Accesses (List (El T_api_Access)):=.br (k_ref1_Check p) (.br ((v_ref1_Check p) !=(0:Int)) (.leaf []) (.jmp (.l7 (0:Int) []))) (.no)
def R_ref3_Accesses:List (El T_api_Access)→AV:=fun (r:List (El T_api_Access))=>.rw 43 T_api_Access r
def S_ref3_Accesses (p:El T_api_Prog):J_ref3_Accesses→Nat×St |.l7 t out=>(7,⟨mkTm 76 [(1,.pt 2 0 0),(3,.own 4 0 none),(4,.d (.int .i64) t)],[(2,0,.box 26 [.d (.sl T_api_Sym) p.1,.d (.sl (.sl T_api_Ins)) p.2] none),(4,0,.row 43 T_api_Access out false)]⟩) |.l12 i out t=>(12,⟨mkTm 76 [(1,.pt 2 0 0),(3,.own 4 0 none),(4,.d (.int .i64) t),(5,.d (.int .i64) i)],[(2,0,.box 26 [.d (.sl T_api_Sym) p.1,.d (.sl (.sl T_api_Ins)) p.2] none),(4,0,.row 43 T_api_Access out false)]⟩)
theorem en_ref3_Accesses (p:El T_api_Prog) (L:Lt):entryA Go.Proofs.Tryz.prog (clOf t_ref3_Accesses) tb_ref3_Accesses Go.Proofs.Tryz.f17 c_ref3_Accesses L (toForms sg_ref3_Accesses (p,()))=(T0_ref3_Accesses p).run (fun v=>some (R_ref3_Accesses v,tps (toForms sg_ref3_Accesses (p,())))) fun j=>L (S_ref3_Accesses p j).1 (S_ref3_Accesses p j).2:=by kernel_rfl
theorem lp_ref3_Accesses (p:El T_api_Prog):∀(L:Lt) (j:J_ref3_Accesses),procOf (procsF Go.Proofs.Tryz.prog (clOf t_ref3_Accesses) tb_ref3_Accesses Go.Proofs.Tryz.f17 c_ref3_Accesses (toForms sg_ref3_Accesses (p,()))) (S_ref3_Accesses p j).1 L (S_ref3_Accesses p j).2=(T_ref3_Accesses p j).run (fun v=>some (R_ref3_Accesses v,tps (toForms sg_ref3_Accesses (p,())))) fun j=>L (S_ref3_Accesses p j).1 (S_ref3_Accesses p j).2 | L,.l7 t out=>by kernel_rfl | L,.l12 i out t=>by kernel_rfl
end
end Go.Ev
end

section
namespace Go.Ev
open Go
theorem k_refR {i:El T_api_Ins} (h:smallText i.2.2.2.2.2.1=true):k_ref1_Reads i=true∧k_ref1_Writes i=true∧k_ref1_Locked i=true:=by
 have h0:k_ref1_InsRight i=true:=h
 unfold k_ref1_Reads k_ref1_Writes k_ref1_Locked
 simp only[h0,cond_true,Bool.cond_self,and_self]
theorem reads_eq {i:El T_api_Ins} (h:smallText i.2.2.2.2.2.1=true):v_ref1_Reads i=v_ins_Reads i:=by
 have h0:k_ins_Right i=true:=h
 have h1:k_ref1_InsRight i=true:=h
 unfold v_ref1_Reads v_ins_Reads v_ref1_InsRight
 simp only[h0,h1,cond_true]
 by_cases hr:v_ins_Right i=0
 ·simp only[hr,bne_self_eq_false,cond_false]
  rcases nine i.1 with ⟨h9,e⟩ | ⟨h9,e⟩
  ·obtain ⟨a,b⟩:=mem_low hr h9
   rw[a,b,e,cond_false]
  ·obtain ⟨a,b⟩:=mem_high hr h9
   rw[a,b,e]
   simp only[cond_true,cond_false]
 ·have e:(v_ins_Right i !=0)=true:=by simp[hr]
  simp only[e,cond_true]
theorem writes_eq {i:El T_api_Ins} (h:smallText i.2.2.2.2.2.1=true):v_ref1_Writes i=v_ins_Writes i:=by
 have h0:k_ins_Right i=true:=h
 have h1:k_ref1_InsRight i=true:=h
 unfold v_ref1_Writes v_ins_Writes v_ref1_InsRight
 simp only[h0,h1,cond_true]
 by_cases hr:v_ins_Right i=0
 ·simp only[hr,bne_self_eq_false,cond_false]
  rcases nine i.1 with ⟨h9,e⟩ | ⟨h9,e⟩
  ·obtain ⟨a,b⟩:=mem_low hr h9
   rw[a,e,cond_false]
   cases v_ref1_Memory i.2.2.2.1 <;> simp only[Bool.not_true,Bool.not_false,cond_true,cond_false,Bool.cond_self]
  ·obtain ⟨a,b⟩:=mem_high hr h9
   rw[a,e]
   simp only[cond_true,Bool.not_false]
 ·have e:(v_ins_Right i !=0)=true:=by simp[hr]
  simp only[e,cond_true]
theorem locked_eq {i:El T_api_Ins} (h:smallText i.2.2.2.2.2.1=true):v_ref1_Locked i=v_ins_Locked i:=by
 have h0:k_ins_Right i=true:=h
 have h1:k_ref1_InsRight i=true:=h
 unfold v_ref1_Locked v_ins_Locked v_ref1_InsRight
 simp only[h0,h1]
end Go.Ev
end

section
open Go
namespace Go.Ev
def v_ref3_Accesses (p:El T_api_Prog):List (El T_api_Access):=ofC p
def k_ref3_Accesses (p:El T_api_Prog):Bool:=smallAll p
theorem g_ref3_Accesses (p:El T_api_Prog) (hk:k_ref3_Accesses p=true):Goes (T_ref3_Accesses p) (T0_ref3_Accesses p) (v_ref3_Accesses p):=by
 have hA:=smallA hk
 obtain ⟨sy,th⟩:=p
 have hkc:k_ref1_Check (sy,th)=true:=hA.prog
 have hlen:th.length < 1073741824:=hA.len
 have htot:total th < 1073741824:=hA.tot
 have main:∀k,k≤th.length→∀out:List (El T_api_Access),out.length+2*total (th.drop k) < 4294967296→Goes (T_ref3_Accesses (sy,th)) (.jmp (.l7 (k:Int) out)) (out++accP k (th.drop k)):=by
  refine down ?_ fun k hk ih=>?_
  ·intro out ho
   rw[goes_jmp]
   simp only[T_ref3_Accesses,goes_br,lt_len_not (Nat.lt_irrefl _),goes_leaf,List.drop_length]
   simp[accP]
  ·intro out ho
   rw[total_drop hk] at ho
   have hS:=smallT (hA.thr _ (List.getElem_mem hk))
   rw[goes_jmp]
   simp only[T_ref3_Accesses,goes_br,lt_len hk,if_true]
   rw[drop_cons hk]
   unfold accP
   obtain ⟨x,hx0⟩:∃x,th[k]=x:=⟨_,rfl⟩
   rw[hx0] at ho hS ⊢
   have inner:∀j,j≤List.length x→∀out:List (El T_api_Access),out.length+2*(List.length x - j)+2*total (th.drop (k+1)) < 4294967296→Goes (T_ref3_Accesses (sy,th)) (.jmp (.l12 (j:Int) out (k:Int))) (out++(accT k j (List.drop j x)++accP (k+1) (th.drop (k+1)))):=by
    refine down ?_ fun j hj ihj=>?_
    ·intro out ho
     rw[goes_jmp]
     simp only[T_ref3_Accesses,goes_br,lt_len hk,nng,Bool.and_self,if_true,Int.toNat_natCast,getD_lt hk,hx0,lt_len_not (Nat.lt_irrefl _),wrap_succ (k:=k) (by omega),List.drop_length]
     have:=ih out (by omega)
     simpa[accT] using this
    ·intro out ho
     have hto:=hS.to _ (List.getElem_mem hj)
     obtain ⟨a1,a2,a4⟩:=k_refR hto
     have hx:List.length x < 1099511627776:=hS.len
     rw[goes_jmp]
     have b1:Nat.ble ((out.length+1)*40) limit=true:=ble40 (by omega)
     have b2:∀y:El T_api_Access,Nat.ble (((out++[y]).length+1)*40) limit=true:=fun y=>ble40 (by rw[List.length_append];simp;omega)
     simp only[T_ref3_Accesses,goes_br,lt_len hk,getD_lt hk,hx0,lt_len hj,nng,Bool.and_self,if_true,Int.toNat_natCast,getD_lt hj,wrap_succ (k:=j) (by omega),a1,a2,a4,b1,b2,reads_eq hto,writes_eq hto,locked_eq hto]
     rw[drop_cons hj]
     unfold accT accI
     have hs:∀y:List (El T_api_Access),y.length≤2→Goes (T_ref3_Accesses (sy,th)) (.jmp (.l12 ((j+1:Nat):Int) (out++y) (k:Int))) (out++((y++accT k (j+1) (List.drop (j+1) x))++accP (k+1) (th.drop (k+1)))):=fun y hy=>by
      have:=ihj (out++y) (by rw[List.length_append];omega)
      rw[List.append_assoc] at this
      rw[List.append_assoc]
      exact this
     by_cases hr:(v_ins_Reads x[j]).2=true <;> by_cases hw:(v_ins_Writes x[j]).2=true
     ·simp only[hr,hw,if_true]
      rw[List.append_assoc out]
      exact hs _ (by simp)
     ·simp only[hr,hw,if_true,if_false]
      exact hs _ (by simp)
     ·simp only[hr,hw,if_true,if_false]
      exact hs _ (by simp)
     ·simp only[hr,hw,if_false]
      have:=hs [] (by simp)
      rw[List.append_nil] at this
      exact this
   exact inner 0 (Nat.zero_le _) out (by omega)
 unfold T0_ref3_Accesses v_ref3_Accesses ofC
 simp only[goes_br,hkc,if_true,v_ref1_Check]
 by_cases h:checkC (sy,th)=0
 ·rw[if_neg (by simp[h]),if_pos h]
  have:=main 0 (Nat.zero_le _) [] (by simp;omega)
  simpa using this
 ·rw[if_pos (by simp[h]),if_neg h]
  exact .leaf
end Go.Ev
end

section
open Go Go.Ev
namespace Go.Ev
noncomputable section
noncomputable def e_ref3_Accesses:Run:=entG sg_ref3_Accesses R_ref3_Accesses (fun a=>k_ref3_Accesses a.1) (fun a=>v_ref3_Accesses a.1)
theorem ok_ref3_Accesses:EntOK Go.Proofs.Tryz.prog 17 e_ref3_Accesses:=entG_ok (tb:=tb_ref3_Accesses) (c:=c_ref3_Accesses) tk_ref3_Accesses (by kernel_rfl) (by kernel_rfl) (by kernel_rfl) (fun a=>by kernel_rfl) fun ⟨p,_⟩ hk=>evF_goes (c:=c_ref3_Accesses) (K:=fun v=>(R_ref3_Accesses v,tps (toForms sg_ref3_Accesses (p,())))) (S:=S_ref3_Accesses p) (by kernel_rfl) (en_ref3_Accesses p) (lp_ref3_Accesses p) (g_ref3_Accesses p hk)
end
end Go.Ev
end

section
open Go Go.Ev
namespace Go.Ev
noncomputable section
def sg_ref3_side:Sig:=[(true,T_api_Prog),(false,(.int .i64)),(false,.bool)]
noncomputable def t_ref3_side:Tbl:=[(17,e_ref3_Accesses)]
theorem tk_ref3_side:∀p∈t_ref3_side,EntOK Go.Proofs.Tryz.prog p.1 p.2:=tbl_cons ok_ref3_Accesses (tbl_nil)
noncomputable def c_ref3_side:Code:=Go.Proofs.Tryz.f56.body.getD .skip
def tb_ref3_side:Tb:=[(5,⟨[1,2,7,8,9],[(9,74)]⟩)]
inductive J_ref3_side where | l5 (i:Int) (out:List Int)
def T_ref3_side (p:El T_api_Prog) (t:Int) (write:Bool):J_ref3_side→JT J_ref3_side (List Int) |.l5 i out=>.br (decide (i < (Int.ofNat (List.length (v_ref3_Accesses p))))) (.br ((decide ((0:Int)≤i))&&(decide (i < (Int.ofNat (List.length (v_ref3_Accesses p)))))) (.br ((List.getD (v_ref3_Accesses p) (Int.toNat i) (dflt T_api_Access)).1==t) (.br ((decide ((0:Int)≤i))&&(decide (i < (Int.ofNat (List.length (v_ref3_Accesses p)))))) (.br ((List.getD (v_ref3_Accesses p) (Int.toNat i) (dflt T_api_Access)).2.2.2.2.1==write) (.br ((decide ((0:Int)≤i))&&(decide (i < (Int.ofNat (List.length (v_ref3_Accesses p)))))) (.br (! (List.getD (v_ref3_Accesses p) (Int.toNat i) (dflt T_api_Access)).2.2.2.2.2) (.br ((decide ((0:Int)≤i))&&(decide (i < (Int.ofNat (List.length (v_ref3_Accesses p)))))) (.br (Nat.ble (((List.length out)+1)*8) limit) (.jmp (.l5 (IntKind.i64.wrap (i+(1:Int))) (out++[(List.getD (v_ref3_Accesses p) (Int.toNat i) (dflt T_api_Access)).2.1]))) (.no)) (.no)) (.jmp (.l5 (IntKind.i64.wrap (i+(1:Int))) out))) (.no)) (.jmp (.l5 (IntKind.i64.wrap (i+(1:Int))) out))) (.no)) (.jmp (.l5 (IntKind.i64.wrap (i+(1:Int))) out))) (.no)) (.leaf out)
def T0_ref3_side (p:El T_api_Prog) (t:Int) (write:Bool):JT J_ref3_side (List Int):=.br (k_ref3_Accesses p) (.jmp (.l5 (0:Int) [])) (.no)
def R_ref3_side:List Int→AV:=fun (r:List Int)=>.rw 3 (.int .i64) r
def S_ref3_side (p:El T_api_Prog) (t:Int) (write:Bool):J_ref3_side→Nat×St |.l5 i out=>(5,⟨mkTm 51 [(1,.d (.int .i64) t),(2,.d .bool write),(7,.own 8 0 none),(8,.own 9 0 none),(9,.d (.int .i64) i)],[(8,0,.row 43 T_api_Access (v_ref3_Accesses p) false),(9,0,.row 3 (.int .i64) out false)]⟩)
theorem en_ref3_side (p:El T_api_Prog) (t:Int) (write:Bool) (L:Lt):entryA Go.Proofs.Tryz.prog (clOf t_ref3_side) tb_ref3_side Go.Proofs.Tryz.f56 c_ref3_side L (toForms sg_ref3_side (p,t,write,()))=(T0_ref3_side p t write).run (fun v=>some (R_ref3_side v,tps (toForms sg_ref3_side (p,t,write,())))) fun j=>L (S_ref3_side p t write j).1 (S_ref3_side p t write j).2:=by kernel_rfl
theorem lp_ref3_side (p:El T_api_Prog) (t:Int) (write:Bool):∀(L:Lt) (j:J_ref3_side),procOf (procsF Go.Proofs.Tryz.prog (clOf t_ref3_side) tb_ref3_side Go.Proofs.Tryz.f56 c_ref3_side (toForms sg_ref3_side (p,t,write,()))) (S_ref3_side p t write j).1 L (S_ref3_side p t write j).2=(T_ref3_side p t write j).run (fun v=>some (R_ref3_side v,tps (toForms sg_ref3_side (p,t,write,())))) fun j=>L (S_ref3_side p t write j).1 (S_ref3_side p t write j).2 | L,.l5 i out=>by kernel_rfl
end
end Go.Ev
end

section
open Go
namespace Go.Ev
def v_ref3_side (p:El T_api_Prog) (t:Int) (write:Bool):List Int:=sideC p t write
def k_ref3_side (p:El T_api_Prog) (t:Int) (write:Bool):Bool:=smallAll p
theorem g_ref3_side (p:El T_api_Prog) (t:Int) (write:Bool) (hk:k_ref3_side p t write=true):Goes (T_ref3_side p t write) (T0_ref3_side p t write) (v_ref3_side p t write):=by
 have hl:(v_ref3_Accesses p).length < 2147483648:=ofC_len hk
 have hko:k_ref3_Accesses p=true:=hk
 have loop:∀k,k≤(v_ref3_Accesses p).length→∀out:List Int,out.length≤k→Goes (T_ref3_side p t write) (.jmp (.l5 (k:Int) out)) (out++(((v_ref3_Accesses p).drop k).filter fun a=>(show Int from a.1)==t&&((show Bool from a.2.2.2.2.1)==write&& ! (show Bool from a.2.2.2.2.2))).map fun a=>a.2.1):=by
  refine down ?_ fun k hk ih=>?_
  ·intro out ho
   rw[goes_jmp]
   simp only[T_ref3_side,goes_br,lt_len_not (Nat.lt_irrefl _),goes_leaf,List.drop_length]
   simp
  ·intro out ho
   rw[goes_jmp]
   have b1:Nat.ble ((out.length+1)*8) limit=true:=ble8 (by omega)
   simp only[T_ref3_side,goes_br,lt_len hk,nng,Bool.and_self,if_true,Int.toNat_natCast,getD_lt hk,wrap_succ (k:=k) (by omega),b1]
   rw[drop_cons hk,List.filter_cons]
   generalize (v_ref3_Accesses p)[k]=a
   obtain ⟨ath,ains,apart_,asym,awr,alk⟩:=a
   dsimp only
   have h0:=ih out (by omega)
   have h1:=ih (out++[ains]) (by rw[List.length_append];simp;omega)
   rw[List.append_assoc] at h1
   cases e1:((show Int from ath)==t) <;> cases e2:((show Bool from awr)==write) <;> cases alk <;> simp_all
 unfold T0_ref3_side v_ref3_side sideC
 simp only[goes_br,hko,if_true]
 have:=loop 0 (Nat.zero_le _) [] (Nat.le_refl _)
 rw[List.drop_zero,List.nil_append] at this
 exact this
end Go.Ev
end

section
open Go Go.Ev
namespace Go.Ev
noncomputable section
noncomputable def e_ref3_side:Run:=entG sg_ref3_side R_ref3_side (fun a=>k_ref3_side a.1 a.2.1 a.2.2.1) (fun a=>v_ref3_side a.1 a.2.1 a.2.2.1)
theorem ok_ref3_side:EntOK Go.Proofs.Tryz.prog 56 e_ref3_side:=entG_ok (tb:=tb_ref3_side) (c:=c_ref3_side) tk_ref3_side (by kernel_rfl) (by kernel_rfl) (by kernel_rfl) (fun a=>by kernel_rfl) fun ⟨p,t,write,_⟩ hk=>evF_goes (c:=c_ref3_side) (K:=fun v=>(R_ref3_side v,tps (toForms sg_ref3_side (p,t,write,())))) (S:=S_ref3_side p t write) (by kernel_rfl) (en_ref3_side p t write) (lp_ref3_side p t write) (g_ref3_side p t write hk)
end
end Go.Ev
end

section
open Go Go.Ev
namespace Go.Ev
noncomputable section
def sg_ref3_Stores:Sig:=[(true,T_api_Prog),(false,(.int .i64))]
noncomputable def t_ref3_Stores:Tbl:=[(56,e_ref3_side)]
theorem tk_ref3_Stores:∀p∈t_ref3_Stores,EntOK Go.Proofs.Tryz.prog p.1 p.2:=tbl_cons ok_ref3_side (tbl_nil)
noncomputable def c_ref3_Stores:Code:=Go.Proofs.Tryz.f30.body.getD .skip
def tb_ref3_Stores:Tb:=[]
def T_ref3_Stores (p:El T_api_Prog) (t:Int):Empty→JT Empty (List Int):=fun j=>nomatch j
def T0_ref3_Stores (p:El T_api_Prog) (t:Int):JT Empty (List Int):=.br (k_ref3_side p t true) (.leaf (v_ref3_side p t true)) (.no)
def v_ref3_Stores (p:El T_api_Prog) (t:Int):List Int:=bif (k_ref3_side p t true) then (v_ref3_side p t true) else []
def k_ref3_Stores (p:El T_api_Prog) (t:Int):Bool:=bif (k_ref3_side p t true) then true else false
theorem g_ref3_Stores (p:El T_api_Prog) (t:Int) (hk:k_ref3_Stores p t=true):Goes (T_ref3_Stores p t) (T0_ref3_Stores p t) (v_ref3_Stores p t):=Goes.brk hk (fun hk=>Goes.leaf) (fun hk=>Goes.nok hk)
def R_ref3_Stores:List Int→AV:=fun (r:List Int)=>.rw 3 (.int .i64) r
def S_ref3_Stores (p:El T_api_Prog) (t:Int):Empty→Nat×St:=fun j=>nomatch j
theorem en_ref3_Stores (p:El T_api_Prog) (t:Int) (L:Lt):entryA Go.Proofs.Tryz.prog (clOf t_ref3_Stores) tb_ref3_Stores Go.Proofs.Tryz.f30 c_ref3_Stores L (toForms sg_ref3_Stores (p,t,()))=(T0_ref3_Stores p t).run (fun v=>some (R_ref3_Stores v,tps (toForms sg_ref3_Stores (p,t,())))) fun j=>L (S_ref3_Stores p t j).1 (S_ref3_Stores p t j).2:=by kernel_rfl
theorem lp_ref3_Stores (p:El T_api_Prog) (t:Int):∀(L:Lt) (j:Empty),procOf (procsF Go.Proofs.Tryz.prog (clOf t_ref3_Stores) tb_ref3_Stores Go.Proofs.Tryz.f30 c_ref3_Stores (toForms sg_ref3_Stores (p,t,()))) (S_ref3_Stores p t j).1 L (S_ref3_Stores p t j).2=(T_ref3_Stores p t j).run (fun v=>some (R_ref3_Stores v,tps (toForms sg_ref3_Stores (p,t,())))) fun j=>L (S_ref3_Stores p t j).1 (S_ref3_Stores p t j).2:=fun L j=>nomatch j
noncomputable def e_ref3_Stores:Run:=entG sg_ref3_Stores R_ref3_Stores (fun a=>k_ref3_Stores a.1 a.2.1) (fun a=>v_ref3_Stores a.1 a.2.1)
theorem ok_ref3_Stores:EntOK Go.Proofs.Tryz.prog 30 e_ref3_Stores:=entG_ok (tb:=tb_ref3_Stores) (c:=c_ref3_Stores) tk_ref3_Stores (by kernel_rfl) (by kernel_rfl) (by kernel_rfl) (fun a=>by kernel_rfl) fun ⟨p,t,_⟩ hk=>evF_goes (c:=c_ref3_Stores) (K:=fun v=>(R_ref3_Stores v,tps (toForms sg_ref3_Stores (p,t,())))) (S:=S_ref3_Stores p t) (by kernel_rfl) (en_ref3_Stores p t) (lp_ref3_Stores p t) (g_ref3_Stores p t hk)
end
end Go.Ev
end

section
open Go Go.Ev
namespace Go.Ev
noncomputable section
def sg_ref3_In:Sig:=[(false,(.sl (.int .i64))),(false,(.int .i64))]
noncomputable def t_ref3_In:Tbl:=[]
theorem tk_ref3_In:∀p∈t_ref3_In,EntOK Go.Proofs.Tryz.prog p.1 p.2:=tbl_nil
noncomputable def c_ref3_In:Code:=Go.Proofs.Tryz.f21.body.getD .skip
def tb_ref3_In:Tb:=[(3,⟨[0,1,5],[]⟩)]
inductive J_ref3_In where | l3 (i:Int)
def T_ref3_In (l:List Int) (n:Int):J_ref3_In→JT J_ref3_In (Bool) |.l3 i=>.br (decide (i < (Int.ofNat (List.length l)))) (.br ((decide ((0:Int)≤i))&&(decide (i < (Int.ofNat (List.length l))))) (.br ((List.getD l (Int.toNat i) (dflt (.int .i64)))==n) (.leaf true) (.jmp (.l3 (IntKind.i64.wrap (i+(1:Int)))))) (.no)) (.leaf false)
def T0_ref3_In (l:List Int) (n:Int):JT J_ref3_In (Bool):=.jmp (.l3 (0:Int))
def R_ref3_In:Bool→AV:=fun (r:Bool)=>.d .bool r
def S_ref3_In (l:List Int) (n:Int):J_ref3_In→Nat×St |.l3 i=>(3,⟨mkTm 18 [(0,.d (.sl (.int .i64)) l),(1,.d (.int .i64) n),(5,.d (.int .i64) i)],[]⟩)
theorem en_ref3_In (l:List Int) (n:Int) (L:Lt):entryA Go.Proofs.Tryz.prog (clOf t_ref3_In) tb_ref3_In Go.Proofs.Tryz.f21 c_ref3_In L (toForms sg_ref3_In (l,n,()))=(T0_ref3_In l n).run (fun v=>some (R_ref3_In v,tps (toForms sg_ref3_In (l,n,())))) fun j=>L (S_ref3_In l n j).1 (S_ref3_In l n j).2:=by kernel_rfl
theorem lp_ref3_In (l:List Int) (n:Int):∀(L:Lt) (j:J_ref3_In),procOf (procsF Go.Proofs.Tryz.prog (clOf t_ref3_In) tb_ref3_In Go.Proofs.Tryz.f21 c_ref3_In (toForms sg_ref3_In (l,n,()))) (S_ref3_In l n j).1 L (S_ref3_In l n j).2=(T_ref3_In l n j).run (fun v=>some (R_ref3_In v,tps (toForms sg_ref3_In (l,n,())))) fun j=>L (S_ref3_In l n j).1 (S_ref3_In l n j).2 | L,.l3 i=>by kernel_rfl
end
end Go.Ev
end

section
open Go
namespace Go.Ev
def v_ref3_In (l:List Int) (n:Int):Bool:=l.contains n
def k_ref3_In (l:List Int) (n:Int):Bool:=decide (l.length < 4611686018427387904)
theorem g_ref3_In (l:List Int) (n:Int) (hk:k_ref3_In l n=true):Goes (T_ref3_In l n) (T0_ref3_In l n) (v_ref3_In l n):=by
 have hn:l.length < 4611686018427387904:=of_decide_eq_true hk
 have loop:∀k,k≤l.length→Goes (T_ref3_In l n) (.jmp (.l3 (k:Int))) ((l.drop k).contains n):=by
  refine down ?_ fun k hk ih=>?_
  ·rw[goes_jmp]
   simp only[T_ref3_In,goes_br,lt_len_not (Nat.lt_irrefl _),goes_leaf,List.drop_length]
   simp
  ·rw[goes_jmp]
   simp only[T_ref3_In,goes_br,lt_len hk,nng,Bool.and_self,if_true,Int.toNat_natCast,getD_lt hk,wrap_succ (k:=k) (by omega)]
   rw[drop_cons hk,List.contains_cons]
   cases h:(l[k]==n) with
   | true=>
    have:(n==l[k])=true:=by simp at h ⊢;exact h.symm
    rw[this];simp[goes_leaf]
   | false=>
    have:(n==l[k])=false:=by simp at h ⊢;exact fun e=>h e.symm
    rw[this];simpa using ih
 unfold T0_ref3_In v_ref3_In
 simpa using loop 0 (Nat.zero_le _)
end Go.Ev
end

section
open Go Go.Ev
namespace Go.Ev
noncomputable section
noncomputable def e_ref3_In:Run:=entG sg_ref3_In R_ref3_In (fun a=>k_ref3_In a.1 a.2.1) (fun a=>v_ref3_In a.1 a.2.1)
theorem ok_ref3_In:EntOK Go.Proofs.Tryz.prog 21 e_ref3_In:=entG_ok (tb:=tb_ref3_In) (c:=c_ref3_In) tk_ref3_In (by kernel_rfl) (by kernel_rfl) (by kernel_rfl) (fun a=>by kernel_rfl) fun ⟨l,n,_⟩ hk=>evF_goes (c:=c_ref3_In) (K:=fun v=>(R_ref3_In v,tps (toForms sg_ref3_In (l,n,())))) (S:=S_ref3_In l n) (by kernel_rfl) (en_ref3_In l n) (lp_ref3_In l n) (g_ref3_In l n hk)
end
end Go.Ev
end

section
open Go Go.Ev
namespace Go.Ev
noncomputable section
def sg_ref3_Loads:Sig:=[(true,T_api_Prog),(false,(.int .i64))]
noncomputable def t_ref3_Loads:Tbl:=[(56,e_ref3_side)]
theorem tk_ref3_Loads:∀p∈t_ref3_Loads,EntOK Go.Proofs.Tryz.prog p.1 p.2:=tbl_cons ok_ref3_side (tbl_nil)
noncomputable def c_ref3_Loads:Code:=Go.Proofs.Tryz.f31.body.getD .skip
def tb_ref3_Loads:Tb:=[]
def T_ref3_Loads (p:El T_api_Prog) (t:Int):Empty→JT Empty (List Int):=fun j=>nomatch j
def T0_ref3_Loads (p:El T_api_Prog) (t:Int):JT Empty (List Int):=.br (k_ref3_side p t false) (.leaf (v_ref3_side p t false)) (.no)
def v_ref3_Loads (p:El T_api_Prog) (t:Int):List Int:=bif (k_ref3_side p t false) then (v_ref3_side p t false) else []
def k_ref3_Loads (p:El T_api_Prog) (t:Int):Bool:=bif (k_ref3_side p t false) then true else false
theorem g_ref3_Loads (p:El T_api_Prog) (t:Int) (hk:k_ref3_Loads p t=true):Goes (T_ref3_Loads p t) (T0_ref3_Loads p t) (v_ref3_Loads p t):=Goes.brk hk (fun hk=>Goes.leaf) (fun hk=>Goes.nok hk)
def R_ref3_Loads:List Int→AV:=fun (r:List Int)=>.rw 3 (.int .i64) r
def S_ref3_Loads (p:El T_api_Prog) (t:Int):Empty→Nat×St:=fun j=>nomatch j
theorem en_ref3_Loads (p:El T_api_Prog) (t:Int) (L:Lt):entryA Go.Proofs.Tryz.prog (clOf t_ref3_Loads) tb_ref3_Loads Go.Proofs.Tryz.f31 c_ref3_Loads L (toForms sg_ref3_Loads (p,t,()))=(T0_ref3_Loads p t).run (fun v=>some (R_ref3_Loads v,tps (toForms sg_ref3_Loads (p,t,())))) fun j=>L (S_ref3_Loads p t j).1 (S_ref3_Loads p t j).2:=by kernel_rfl
theorem lp_ref3_Loads (p:El T_api_Prog) (t:Int):∀(L:Lt) (j:Empty),procOf (procsF Go.Proofs.Tryz.prog (clOf t_ref3_Loads) tb_ref3_Loads Go.Proofs.Tryz.f31 c_ref3_Loads (toForms sg_ref3_Loads (p,t,()))) (S_ref3_Loads p t j).1 L (S_ref3_Loads p t j).2=(T_ref3_Loads p t j).run (fun v=>some (R_ref3_Loads v,tps (toForms sg_ref3_Loads (p,t,())))) fun j=>L (S_ref3_Loads p t j).1 (S_ref3_Loads p t j).2:=fun L j=>nomatch j
noncomputable def e_ref3_Loads:Run:=entG sg_ref3_Loads R_ref3_Loads (fun a=>k_ref3_Loads a.1 a.2.1) (fun a=>v_ref3_Loads a.1 a.2.1)
theorem ok_ref3_Loads:EntOK Go.Proofs.Tryz.prog 31 e_ref3_Loads:=entG_ok (tb:=tb_ref3_Loads) (c:=c_ref3_Loads) tk_ref3_Loads (by kernel_rfl) (by kernel_rfl) (by kernel_rfl) (fun a=>by kernel_rfl) fun ⟨p,t,_⟩ hk=>evF_goes (c:=c_ref3_Loads) (K:=fun v=>(R_ref3_Loads v,tps (toForms sg_ref3_Loads (p,t,())))) (S:=S_ref3_Loads p t) (by kernel_rfl) (en_ref3_Loads p t) (lp_ref3_Loads p t) (g_ref3_Loads p t hk)
end
end Go.Ev
end

section
open Go Go.Ev
namespace Go.Ev
noncomputable section
def sg_ref1_Leads:Sig:=[(true,T_api_Ins)]
noncomputable def t_ref1_Leads:Tbl:=[(57,e_ref1_InsRight),(79,e_ref1_Jumps)]
theorem tk_ref1_Leads:∀p∈t_ref1_Leads,EntOK Go.Proofs.Tryz.prog p.1 p.2:=tbl_cons ok_ref1_InsRight (tbl_cons ok_ref1_Jumps (tbl_nil))
noncomputable def c_ref1_Leads:Code:=Go.Proofs.Tryz.f94.body.getD .skip
def tb_ref1_Leads:Tb:=[]
def T_ref1_Leads (i:El T_api_Ins):Empty→JT Empty (Bool×Bool):=fun j=>nomatch j
def T0_ref1_Leads (i:El T_api_Ins):JT Empty (Bool×Bool):=.br (k_ref1_InsRight i) (.br ((v_ref1_InsRight i) !=(0:Int)) (.leaf (false,false)) (.br (i.1 !=(10:Int)) (.leaf ((i.1 !=(14:Int)),(v_ref1_Jumps i.1))) (.leaf (false,(v_ref1_Jumps i.1))))) (.no)
def v_ref1_Leads (i:El T_api_Ins):Bool×Bool:=bif (k_ref1_InsRight i) then bif ((v_ref1_InsRight i) !=(0:Int)) then (false,false) else bif (i.1 !=(10:Int)) then ((i.1 !=(14:Int)),(v_ref1_Jumps i.1)) else (false,(v_ref1_Jumps i.1)) else (false,false)
def k_ref1_Leads (i:El T_api_Ins):Bool:=bif (k_ref1_InsRight i) then bif ((v_ref1_InsRight i) !=(0:Int)) then true else bif (i.1 !=(10:Int)) then true else true else false
theorem g_ref1_Leads (i:El T_api_Ins) (hk:k_ref1_Leads i=true):Goes (T_ref1_Leads i) (T0_ref1_Leads i) (v_ref1_Leads i):=Goes.brk hk (fun hk=>Goes.brk hk (fun hk=>Goes.leaf) (fun hk=>Goes.brk hk (fun hk=>Goes.leaf) (fun hk=>Goes.leaf))) (fun hk=>Goes.nok hk)
def R_ref1_Leads:Bool×Bool→AV:=fun (r:Bool×Bool)=>.tu [.d .bool r.1,.d .bool r.2]
def S_ref1_Leads (i:El T_api_Ins):Empty→Nat×St:=fun j=>nomatch j
theorem en_ref1_Leads (i:El T_api_Ins) (L:Lt):entryA Go.Proofs.Tryz.prog (clOf t_ref1_Leads) tb_ref1_Leads Go.Proofs.Tryz.f94 c_ref1_Leads L (toForms sg_ref1_Leads (i,()))=(T0_ref1_Leads i).run (fun v=>some (R_ref1_Leads v,tps (toForms sg_ref1_Leads (i,())))) fun j=>L (S_ref1_Leads i j).1 (S_ref1_Leads i j).2:=by kernel_rfl
theorem lp_ref1_Leads (i:El T_api_Ins):∀(L:Lt) (j:Empty),procOf (procsF Go.Proofs.Tryz.prog (clOf t_ref1_Leads) tb_ref1_Leads Go.Proofs.Tryz.f94 c_ref1_Leads (toForms sg_ref1_Leads (i,()))) (S_ref1_Leads i j).1 L (S_ref1_Leads i j).2=(T_ref1_Leads i j).run (fun v=>some (R_ref1_Leads v,tps (toForms sg_ref1_Leads (i,())))) fun j=>L (S_ref1_Leads i j).1 (S_ref1_Leads i j).2:=fun L j=>nomatch j
noncomputable def e_ref1_Leads:Run:=entG sg_ref1_Leads R_ref1_Leads (fun a=>k_ref1_Leads a.1) (fun a=>v_ref1_Leads a.1)
theorem ok_ref1_Leads:EntOK Go.Proofs.Tryz.prog 94 e_ref1_Leads:=entG_ok (tb:=tb_ref1_Leads) (c:=c_ref1_Leads) tk_ref1_Leads (by kernel_rfl) (by kernel_rfl) (by kernel_rfl) (fun a=>by kernel_rfl) fun ⟨i,_⟩ hk=>evF_goes (c:=c_ref1_Leads) (K:=fun v=>(R_ref1_Leads v,tps (toForms sg_ref1_Leads (i,())))) (S:=S_ref1_Leads i) (by kernel_rfl) (en_ref1_Leads i) (lp_ref1_Leads i) (g_ref1_Leads i hk)
end
end Go.Ev
end

section
open Go Go.Ev
namespace Go.Ev
noncomputable section
def sg_ref3_next:Sig:=[(true,(.sl T_api_Ins)),(false,(.int .i64))]
noncomputable def t_ref3_next:Tbl:=[(94,e_ref1_Leads),(91,e_ref1_Find)]
theorem tk_ref3_next:∀p∈t_ref3_next,EntOK Go.Proofs.Tryz.prog p.1 p.2:=tbl_cons ok_ref1_Leads (tbl_cons ok_ref1_Find (tbl_nil))
noncomputable def c_ref3_next:Code:=Go.Proofs.Tryz.f73.body.getD .skip
def tb_ref3_next:Tb:=[(6,⟨[1,2,5,7],[]⟩)]
inductive J_ref3_next where | l6 (jumps:Bool) (is:List Bool)
def T_ref3_next (t:List (El T_api_Ins)) (i:Int):J_ref3_next→JT J_ref3_next (List Bool) |.l6 jumps is=>.br jumps (.br ((decide ((0:Int)≤i))&&(decide (i < (Int.ofNat (List.length t))))) (.br (k_ref1_Find t (List.getD t (Int.toNat i) (dflt T_api_Ins)).2.2.2.2.2.1) (.br (decide ((v_ref1_Find t (List.getD t (Int.toNat i) (dflt T_api_Ins)).2.2.2.2.2.1)≥(0:Int))) (.br ((decide ((0:Int)≤(v_ref1_Find t (List.getD t (Int.toNat i) (dflt T_api_Ins)).2.2.2.2.2.1)))&&(decide ((v_ref1_Find t (List.getD t (Int.toNat i) (dflt T_api_Ins)).2.2.2.2.2.1) < (Int.ofNat (List.length is))))) (.leaf (List.set is (Int.toNat (v_ref1_Find t (List.getD t (Int.toNat i) (dflt T_api_Ins)).2.2.2.2.2.1)) true)) (.no)) (.leaf is)) (.no)) (.no)) (.leaf is)
def T0_ref3_next (t:List (El T_api_Ins)) (i:Int):JT J_ref3_next (List Bool):=.br ((((Int.ofNat (List.length t))==(Int.ofNat (List.length t)))&&(decide ((0:Int)≤(Int.ofNat (List.length t)))))&&(decide (((Int.ofNat (List.length t))*(1:Int))≤(limit:Int)))) (.br (decide (i < (0:Int))) (.leaf (List.replicate (List.length t) false)) (.br (decide (i≥(Int.ofNat (List.length t)))) (.leaf (List.replicate (List.length t) false)) (.br ((decide ((0:Int)≤i))&&(decide (i < (Int.ofNat (List.length t))))) (.br (k_ref1_Leads (List.getD t (Int.toNat i) (dflt T_api_Ins))) (.br (v_ref1_Leads (List.getD t (Int.toNat i) (dflt T_api_Ins))).1 (.br (decide ((IntKind.i64.wrap (i+(1:Int))) < (Int.ofNat (List.length t)))) (.br ((decide ((0:Int)≤(IntKind.i64.wrap (i+(1:Int)))))&&(decide ((IntKind.i64.wrap (i+(1:Int))) < (Int.ofNat (List.length (List.replicate (List.length t) false)))))) (.jmp (.l6 (v_ref1_Leads (List.getD t (Int.toNat i) (dflt T_api_Ins))).2 (List.set (List.replicate (List.length t) false) (Int.toNat (IntKind.i64.wrap (i+(1:Int)))) true))) (.no)) (.jmp (.l6 (v_ref1_Leads (List.getD t (Int.toNat i) (dflt T_api_Ins))).2 (List.replicate (List.length t) false)))) (.jmp (.l6 (v_ref1_Leads (List.getD t (Int.toNat i) (dflt T_api_Ins))).2 (List.replicate (List.length t) false)))) (.no)) (.no)))) (.no)
def R_ref3_next:List Bool→AV:=fun (r:List Bool)=>.rw 4 .bool r
def S_ref3_next (t:List (El T_api_Ins)) (i:Int):J_ref3_next→Nat×St |.l6 jumps is=>(6,⟨mkTm 60 [(1,.d (.int .i64) i),(2,.pt 3 0 0),(5,.own 6 0 none),(7,.d .bool jumps)],[(3,0,.box 48 [.d (.sl T_api_Ins) t] none),(6,0,.row 4 .bool is false)]⟩)
theorem en_ref3_next (t:List (El T_api_Ins)) (i:Int) (L:Lt):entryA Go.Proofs.Tryz.prog (clOf t_ref3_next) tb_ref3_next Go.Proofs.Tryz.f73 c_ref3_next L (toForms sg_ref3_next (t,i,()))=(T0_ref3_next t i).run (fun v=>some (R_ref3_next v,tps (toForms sg_ref3_next (t,i,())))) fun j=>L (S_ref3_next t i j).1 (S_ref3_next t i j).2:=by kernel_rfl
theorem lp_ref3_next (t:List (El T_api_Ins)) (i:Int):∀(L:Lt) (j:J_ref3_next),procOf (procsF Go.Proofs.Tryz.prog (clOf t_ref3_next) tb_ref3_next Go.Proofs.Tryz.f73 c_ref3_next (toForms sg_ref3_next (t,i,()))) (S_ref3_next t i j).1 L (S_ref3_next t i j).2=(T_ref3_next t i j).run (fun v=>some (R_ref3_next v,tps (toForms sg_ref3_next (t,i,())))) fun j=>L (S_ref3_next t i j).1 (S_ref3_next t i j).2 | L,.l6 jumps is=>by kernel_rfl
end
end Go.Ev
end

section
open Go
namespace Go.Ev
theorem k_refLeads' {i:El T_api_Ins} (h:smallText i.2.2.2.2.2.1=true):k_ref1_Leads i=true:=by
 have h1:k_ref1_InsRight i=true:=h
 unfold k_ref1_Leads
 simp only[h1,cond_true,Bool.cond_self]
theorem leads_eq' {i:El T_api_Ins} (h:smallText i.2.2.2.2.2.1=true):v_ref1_Leads i=v_ins_Leads i:=by
 have h0:k_ins_Right i=true:=h
 have h1:k_ref1_InsRight i=true:=h
 unfold v_ref1_Leads v_ins_Leads v_ref1_InsRight v_ref1_Jumps
 simp only[h0,h1,cond_true]
 cases h10:((show Int from i.1)==10) with
 | true=>simp only[cond_true,bne,h10,Bool.not_true,cond_false]
 | false=>simp only[cond_true,bne,h10,Bool.not_false,cond_false]
end Go.Ev
end

section
open Go
namespace Go.Ev
def rowOf (n:Nat) (M:Nat→Bool):List Bool:=(List.range n).map M
theorem rowOf_length {n:Nat} {M:Nat→Bool} :(rowOf n M).length=n:=by simp[rowOf]
theorem rowOf_get {n:Nat} {M:Nat→Bool} {i:Nat} (h:i < n):(rowOf n M)[i]? =some (M i):=by simp[rowOf,h]
theorem rowOf_set {n:Nat} {M:Nat→Bool} {i:Nat} :(rowOf n M).set i true=rowOf n fun j=>M j || (j==i):=by
 apply List.ext_getElem?
 intro j
 rw[List.getElem?_set,rowOf_length]
 by_cases hj:j < n
 ·rw[rowOf_get hj,rowOf_get hj]
  by_cases hi:i=j
  ·subst hi;rw[if_pos rfl,if_pos hj];simp
  ·rw[if_neg hi]
   have:(j==i)=false:=by simp;omega
   rw[this,Bool.or_false]
 ·rw[List.getElem?_eq_none (by rw[rowOf_length];omega),List.getElem?_eq_none (by rw[rowOf_length];omega)]
  by_cases hi:i=j
  ·rw[if_pos hi,if_neg (by omega)]
  ·rw[if_neg hi]
theorem rowOf_congr {n:Nat} {M M':Nat→Bool} (h:∀i,i < n→M i=M' i):rowOf n M=rowOf n M':=List.map_congr_left fun i hi=>h i (List.mem_range.1 hi)
theorem rowOf_none {n:Nat} :List.replicate n false=rowOf n fun _=>false:=by
 apply List.ext_getElem?
 intro j
 by_cases hj:j < n
 ·rw[rowOf_get hj];simp[hj]
 ·rw[List.getElem?_eq_none (by simp;omega),List.getElem?_eq_none (by rw[rowOf_length];omega)]
def v_ref3_next (t:List (El T_api_Ins)) (i:Int):List Bool:=rowOf t.length (nextB t i)
def k_ref3_next (t:List (El T_api_Ins)) (i:Int):Bool:=flowOK t
theorem g_ref3_next (t:List (El T_api_Ins)) (i:Int) (hk:k_ref3_next t i=true):Goes (T_ref3_next t i) (T0_ref3_next t i) (v_ref3_next t i):=by
 have hlen:=flowOK_len hk
 have hout:∀i,¬(0≤i∧i < (t.length:Int))→List.replicate t.length false=rowOf t.length (nextB t i):=fun i h=>by
  rw[rowOf_none]
  refine rowOf_congr fun j hj=>?_
  unfold nextB
  rw[decide_eq_false (fun hh=>h ⟨hh.1,hh.2.1⟩),Bool.false_and]
 unfold T0_ref3_next v_ref3_next
 rw[goes_br,if_pos (by unfold limit;simp;omega),goes_br]
 by_cases h0:i < 0
 ·rw[if_pos (decide_eq_true h0),←hout i (fun h=>by omega)];exact .leaf
 rw[if_neg (by simpa using h0),goes_br]
 obtain ⟨j,rfl⟩:=Int.eq_ofNat_of_zero_le (show 0≤i by omega)
 by_cases h1:(t.length:Int)≤(j:Int)
 ·rw[if_pos (decide_eq_true (show (j:Int)≥Int.ofNat t.length from h1)),←hout _ (fun h=>by omega)];exact .leaf
 have hj:j < t.length:=by omega
 rw[if_neg (by simp;omega),goes_br,if_pos (bound_len hj),goes_br,Int.toNat_natCast]
 have hmem:t.getD j (dflt T_api_Ins)∈t:=by rw[getD_lt hj];exact List.getElem_mem hj
 have hsm:=flowOK_text hk hmem
 rw[if_pos (k_refLeads' hsm),leads_eq' hsm]
 have kf:k_ref1_Find t (t.getD j (dflt T_api_Ins)).2.2.2.2.2.1=true:=flowOK_find hk
 have vf:v_ref1_Find t (t.getD j (dflt T_api_Ins)).2.2.2.2.2.1=findI (t.getD j (dflt T_api_Ins)).2.2.2.2.2.1 t 0:=rfl
 have hw:IntKind.i64.wrap ((j:Int)+1)=((j+1:Nat):Int):=wrap_succ (by omega)
 have hr:= @toOf_lt t j
 have l6:∀(M:Nat→Bool),Goes (T_ref3_next t (j:Int)) (.jmp (.l6 (v_ins_Leads (t.getD j (dflt T_api_Ins))).2 (rowOf t.length M))) (rowOf t.length fun k=>M k || decide (toOf t j=(k:Int))):=by
  intro M
  rw[goes_jmp,T_ref3_next,goes_br]
  by_cases hjmp:(v_ins_Leads (t.getD j (dflt T_api_Ins))).2=true
  ·have hto:toOf t j=findI (t.getD j (dflt T_api_Ins)).2.2.2.2.2.1 t 0:=by unfold toOf;rw[if_pos hjmp]
   rw[hto] at hr
   rw[if_pos hjmp,goes_br,if_pos (bound_len hj),goes_br,Int.toNat_natCast,if_pos kf,goes_br,vf,hto]
   generalize findI (t.getD j (dflt T_api_Ins)).2.2.2.2.2.1 t 0=to at hr
   by_cases h2:to≥0
   ·obtain ⟨k,rfl⟩:=Int.eq_ofNat_of_zero_le h2
    rw[if_pos (decide_eq_true h2),goes_br,if_pos (by rw[rowOf_length];exact bound_len (by omega)),Int.toNat_natCast,rowOf_set]
    rw[show (rowOf t.length fun l=>M l || decide ((k:Int)=(l:Int)))=rowOf t.length fun l=>M l || (l==k) from rowOf_congr fun l _=>by
     congr 1
     rw[Bool.eq_iff_iff];simp;omega]
    exact .leaf
   ·rw[if_neg (by simpa using h2)]
    rw[show (rowOf t.length fun l=>M l || decide (to=(l:Int)))=rowOf t.length M from rowOf_congr fun l _=>by
     rw[decide_eq_false (by omega),Bool.or_false]]
    exact .leaf
  ·have hto:toOf t j= -1:=by unfold toOf;rw[if_neg hjmp]
   rw[if_neg hjmp,hto]
   rw[show (rowOf t.length fun l=>M l || decide ((-1:Int)=(l:Int)))=rowOf t.length M from rowOf_congr fun l _=>by
     rw[decide_eq_false (by omega),Bool.or_false]]
   exact .leaf
 have hB:∀k,k < t.length→nextB t (j:Int) k=((onOf t j&&decide ((k:Int)=(j:Int)+1)) || decide (toOf t j=(k:Int))):=fun k hk=>by
  unfold nextB
  rw[decide_eq_true (by omega),Bool.true_and,Int.toNat_natCast]
 rw[rowOf_none,goes_br]
 by_cases hon:(v_ins_Leads (t.getD j (dflt T_api_Ins))).1=true
 ·have hon':onOf t j=true:=hon
  rw[if_pos hon,goes_br,hw]
  by_cases hin:j+1 < t.length
  ·rw[if_pos (lt_len hin),goes_br,rowOf_length,if_pos (bound_len hin),Int.toNat_natCast,rowOf_set]
   have:=l6 fun k=>false || (k==j+1)
   rw[show rowOf t.length (nextB t (j:Int))=rowOf t.length fun k=>(false || (k==j+1)) || decide (toOf t j=(k:Int)) from rowOf_congr fun k hk=>by
    rw[hB k hk,hon',Bool.true_and,Bool.false_or]
    congr 1
    rw[Bool.eq_iff_iff];simp;omega]
   exact this
  ·rw[if_neg (by rw[lt_len_not hin];decide)]
   have:=l6 fun _=>false
   rw[show rowOf t.length (nextB t (j:Int))=rowOf t.length fun k=>false || decide (toOf t j=(k:Int)) from rowOf_congr fun k hk=>by
    rw[hB k hk,hon',Bool.true_and,decide_eq_false (show ¬(k:Int)=(j:Int)+1 by omega)]]
   exact this
 ·have hon':onOf t j=false:=Bool.eq_false_iff.2 hon
  rw[if_neg hon]
  have:=l6 fun _=>false
  rw[show rowOf t.length (nextB t (j:Int))=rowOf t.length fun k=>false || decide (toOf t j=(k:Int)) from rowOf_congr fun k hk=>by
   rw[hB k hk,hon',Bool.false_and]]
  exact this
end Go.Ev
end

section
open Go Go.Ev
namespace Go.Ev
noncomputable section
noncomputable def e_ref3_next:Run:=entG sg_ref3_next R_ref3_next (fun a=>k_ref3_next a.1 a.2.1) (fun a=>v_ref3_next a.1 a.2.1)
theorem ok_ref3_next:EntOK Go.Proofs.Tryz.prog 73 e_ref3_next:=entG_ok (tb:=tb_ref3_next) (c:=c_ref3_next) tk_ref3_next (by kernel_rfl) (by kernel_rfl) (by kernel_rfl) (fun a=>by kernel_rfl) fun ⟨t,i,_⟩ hk=>evF_goes (c:=c_ref3_next) (K:=fun v=>(R_ref3_next v,tps (toForms sg_ref3_next (t,i,())))) (S:=S_ref3_next t i) (by kernel_rfl) (en_ref3_next t i) (lp_ref3_next t i) (g_ref3_next t i hk)
end
end Go.Ev
end

section
open Go Go.Ev
namespace Go.Ev
noncomputable section
def sg_ref3_from:Sig:=[(true,(.sl T_api_Ins)),(false,(.int .i64))]
noncomputable def t_ref3_from:Tbl:=[(73,e_ref3_next)]
theorem tk_ref3_from:∀p∈t_ref3_from,EntOK Go.Proofs.Tryz.prog p.1 p.2:=tbl_cons ok_ref3_next (tbl_nil)
noncomputable def c_ref3_from:Code:=Go.Proofs.Tryz.f49.body.getD .skip
def tb_ref3_from:Tb:=[(4,⟨[2,5,6],[]⟩),(9,⟨[2,5,6,7],[]⟩),(17,⟨[2,5,6,7,8,9],[]⟩)]
inductive J_ref3_from where | l4 (moved:Bool) (is:List Bool) | l9 (k:Int) (moved:Bool) (is:List Bool) | l17 (k:Int) (more:List Bool) (moved:Bool) (j_:Int) (is:List Bool)
def T_ref3_from (t:List (El T_api_Ins)) (i:Int):J_ref3_from→JT J_ref3_from (List Bool) |.l4 moved is=>.br moved (.jmp (.l9 (0:Int) false is)) (.leaf is) |.l9 k moved is=>.br (decide (k < (Int.ofNat (List.length is)))) (.br ((decide ((0:Int)≤k))&&(decide (k < (Int.ofNat (List.length is))))) (.br (! (List.getD is (Int.toNat k) (dflt .bool))) (.jmp (.l9 (IntKind.i64.wrap (k+(1:Int))) moved is)) (.br (k_ref3_next t k) (.jmp (.l17 k (v_ref3_next t k) moved (0:Int) is)) (.no))) (.no)) (.jmp (.l4 moved is)) |.l17 k more moved j_ is=>.br (decide (j_ < (Int.ofNat (List.length is)))) (.br ((decide ((0:Int)≤j_))&&(decide (j_ < (Int.ofNat (List.length more))))) (.br (List.getD more (Int.toNat j_) (dflt .bool)) (.br ((decide ((0:Int)≤j_))&&(decide (j_ < (Int.ofNat (List.length is))))) (.br (! (List.getD is (Int.toNat j_) (dflt .bool))) (.br ((decide ((0:Int)≤j_))&&(decide (j_ < (Int.ofNat (List.length is))))) (.jmp (.l17 k more true (IntKind.i64.wrap (j_+(1:Int))) (List.set is (Int.toNat j_) true))) (.no)) (.jmp (.l17 k more moved (IntKind.i64.wrap (j_+(1:Int))) is))) (.no)) (.jmp (.l17 k more moved (IntKind.i64.wrap (j_+(1:Int))) is))) (.no)) (.jmp (.l9 (IntKind.i64.wrap (k+(1:Int))) moved is))
def T0_ref3_from (t:List (El T_api_Ins)) (i:Int):JT J_ref3_from (List Bool):=.br (k_ref3_next t i) (.jmp (.l4 true (v_ref3_next t i))) (.no)
def R_ref3_from:List Bool→AV:=fun (r:List Bool)=>.rw 4 .bool r
def S_ref3_from (t:List (El T_api_Ins)) (i:Int):J_ref3_from→Nat×St |.l4 moved is=>(4,⟨mkTm 49 [(2,.pt 3 0 0),(5,.own 6 0 none),(6,.d .bool moved)],[(3,0,.box 48 [.d (.sl T_api_Ins) t] none),(6,0,.row 4 .bool is false)]⟩) |.l9 k moved is=>(9,⟨mkTm 49 [(2,.pt 3 0 0),(5,.own 6 0 none),(6,.d .bool moved),(7,.d (.int .i64) k)],[(3,0,.box 48 [.d (.sl T_api_Ins) t] none),(6,0,.row 4 .bool is false)]⟩) |.l17 k more moved j_ is=>(17,⟨mkTm 49 [(2,.pt 3 0 0),(5,.own 6 0 none),(6,.d .bool moved),(7,.d (.int .i64) k),(8,.own 9 0 none),(9,.d (.int .i64) j_)],[(3,0,.box 48 [.d (.sl T_api_Ins) t] none),(6,0,.row 4 .bool is false),(9,0,.row 4 .bool more false)]⟩)
theorem en_ref3_from (t:List (El T_api_Ins)) (i:Int) (L:Lt):entryA Go.Proofs.Tryz.prog (clOf t_ref3_from) tb_ref3_from Go.Proofs.Tryz.f49 c_ref3_from L (toForms sg_ref3_from (t,i,()))=(T0_ref3_from t i).run (fun v=>some (R_ref3_from v,tps (toForms sg_ref3_from (t,i,())))) fun j=>L (S_ref3_from t i j).1 (S_ref3_from t i j).2:=by kernel_rfl
theorem lp_ref3_from (t:List (El T_api_Ins)) (i:Int):∀(L:Lt) (j:J_ref3_from),procOf (procsF Go.Proofs.Tryz.prog (clOf t_ref3_from) tb_ref3_from Go.Proofs.Tryz.f49 c_ref3_from (toForms sg_ref3_from (t,i,()))) (S_ref3_from t i j).1 L (S_ref3_from t i j).2=(T_ref3_from t i j).run (fun v=>some (R_ref3_from v,tps (toForms sg_ref3_from (t,i,())))) fun j=>L (S_ref3_from t i j).1 (S_ref3_from t i j).2 | L,.l4 moved is=>by kernel_rfl | L,.l9 k moved is=>by kernel_rfl | L,.l17 k more moved j_ is=>by kernel_rfl
end
end Go.Ev
end

section
open Go
namespace Go.Ev
theorem rowOf_getD {n:Nat} {M:Nat→Bool} {i:Nat} (h:i < n):List.getD (rowOf n M) i (dflt .bool)=M i:=by
 simp[List.getD,rowOf_get h]
end Go.Ev
end

section
open Go
namespace Go.Ev
noncomputable def v_ref3_from (t:List (El T_api_Ins)) (i:Int):List Bool:=rowOf t.length (fromB t i)
def k_ref3_from (t:List (El T_api_Ins)) (i:Int):Bool:=flowOK t
theorem g_ref3_from (t:List (El T_api_Ins)) (i:Int) (hk:k_ref3_from t i=true):Goes (T_ref3_from t i) (T0_ref3_from t i) (v_ref3_from t i):=by
 have hlen:=flowOK_len hk
 generalize hn:t.length=n at hlen
 let OK:(Nat→Bool)→(Nat→Bool)→Bool→Prop:=fun M0 M moved=>(∀j,nextB t i j=true→M j=true)∧(∀j,M j=true→Come (fun k j=>nextB t (k:Int) j) (nextB t i) j)∧(moved=false→M=M0)∧(moved=true→card n M0 < card n M)
 have hltM:∀ {M0 M moved},OK M0 M moved→∀j,M j=true→j < n:=fun h j hj=>by
  have:=come_lt (n:=t.length) (fun j=>nextB_lt) (fun k j=>nextB_lt) (h.2.1 j hj)
  omega
 have loop:∀m,∀M:Nat→Bool,n - card n M=m→(∀j,nextB t i j=true→M j=true)→(∀j,M j=true→Come (fun k j=>nextB t (k:Int) j) (nextB t i) j)→Goes (T_ref3_from t i) (.jmp (.l4 true (rowOf n M))) (v_ref3_from t i):=by
  intro m
  induction m using Nat.strongRecOn with
  | _ m ih=>
  intro M0 hm hA hC
  have inner:∀k,k < n→∀Z:Prop,(∀M moved,OK M0 M moved→(moved=false→Z∧∀j,nextB t (k:Int) j=true→M0 j=true)→Goes (T_ref3_from t i) (.jmp (.l9 ((k+1:Nat):Int) moved (rowOf n M))) (v_ref3_from t i))→
    ∀j,j≤n→∀M moved,M k=true→OK M0 M moved→(moved=false→Z∧∀x,x < j→nextB t (k:Int) x=true→M0 x=true)→Goes (T_ref3_from t i) (.jmp (.l17 (k:Int) (rowOf n (nextB t (k:Int))) moved (j:Int) (rowOf n M))) (v_ref3_from t i):=by
   intro k hkn Z hz
   refine down ?_ fun j hj ih2=>?_
   ·intro M moved hMk hok hcl
    rw[goes_jmp,T_ref3_from,goes_br,rowOf_length,if_neg (by rw[lt_len_not (Nat.lt_irrefl _)];decide),wrap_succ (by omega)]
    exact hz M moved hok fun hm=>⟨(hcl hm).1,fun j hj=>(hcl hm).2 j (by have:=nextB_lt hj;omega) hj⟩
   ·intro M moved hMk hok hcl
    rw[goes_jmp,T_ref3_from,goes_br,rowOf_length,if_pos (lt_len hj),goes_br,rowOf_length,if_pos (bound_len hj),goes_br,Int.toNat_natCast,rowOf_getD hj,wrap_succ (by omega)]
    by_cases hN:nextB t (k:Int) j=true
    ·rw[if_pos hN,goes_br,if_pos (bound_len hj),goes_br,rowOf_getD hj]
     cases hMj:M j with
     | true=>
      rw[if_neg (by decide)]
      refine ih2 M moved hMk hok fun hm=>⟨(hcl hm).1,fun x hx hxN=>?_⟩
      by_cases hxj:x=j
      ·subst hxj;rw[←hok.2.2.1 hm];exact hMj
      ·exact (hcl hm).2 x (by omega) hxN
     | false=>
      rw[if_pos (by decide),goes_br,if_pos (bound_len hj),rowOf_set]
      have hca:=card_add hMj hj
      refine ih2 (fun x=>M x || (x==j)) true (by rw[hMk];rfl) ⟨fun x hx=>(show (M x || (x==j))=true by rw[hok.1 x hx];rfl),fun x hx=>?_,fun h=>(by cases h),fun _=>?_⟩ (fun h=>by cases h)
      ·simp only[Bool.or_eq_true,beq_iff_eq] at hx
       rcases hx with hx | hx
       ·exact hok.2.1 x hx
       ·subst hx;exact .step (hok.2.1 k hMk) hN
      ·cases moved with
       | true=>have:=hok.2.2.2 rfl;omega
       | false=>rw[hok.2.2.1 rfl] at hca;rw[hok.2.2.1 rfl];omega
    ·rw[if_neg hN]
     refine ih2 M moved hMk hok fun hm=>⟨(hcl hm).1,fun x hx hxN=>?_⟩
     by_cases hxj:x=j
     ·subst hxj;exact absurd hxN hN
     ·exact (hcl hm).2 x (by omega) hxN
  have pass:∀k,k≤n→∀M moved,OK M0 M moved→(moved=false→∀k' j,k' < k→M0 k'=true→nextB t (k':Int) j=true→M0 j=true)→Goes (T_ref3_from t i) (.jmp (.l9 (k:Int) moved (rowOf n M))) (v_ref3_from t i):=by
   refine down ?_ fun k hkn ih2=>?_
   ·intro M moved hok hcl
    rw[goes_jmp,T_ref3_from,goes_br,rowOf_length,if_neg (by rw[lt_len_not (Nat.lt_irrefl _)];decide)]
    cases moved with
    | true=>
     have h1:=hok.2.2.2 rfl
     have h2:= @card_le n M
     exact ih (n - card n M) (by omega) M rfl hok.1 hok.2.1
    | false=>
     have e:=hok.2.2.1 rfl
     subst e
     rw[goes_jmp,T_ref3_from,goes_br,if_neg (by decide)]
     have hv:rowOf n M=v_ref3_from t i:=by
      unfold v_ref3_from fromB
      rw[hn]
      exact rowOf_congr fun j _=>comeB_eq hok.1 (fun k j hk hj=>hcl rfl k j (hltM hok k hk) hk hj) hok.2.1 j
     rw[hv];exact .leaf
   ·intro M moved hok hcl
    rw[goes_jmp,T_ref3_from,goes_br,rowOf_length,if_pos (lt_len hkn),goes_br,if_pos (bound_len hkn),goes_br,Int.toNat_natCast,rowOf_getD hkn]
    cases hMk:M k with
    | false=>
     rw[if_pos (by decide),wrap_succ (by omega)]
     refine ih2 M moved hok fun hm k' j hk' hk1 hj=>?_
     by_cases e:k'=k
     ·subst e;rw[←hok.2.2.1 hm,hMk] at hk1;cases hk1
     ·exact hcl hm k' j (by omega) hk1 hj
    | true=>
     have kn:k_ref3_next t (k:Int)=true:=hk
     rw[if_neg (by decide),goes_br,if_pos kn]
     have hvn:v_ref3_next t (k:Int)=rowOf n (nextB t (k:Int)):=by unfold v_ref3_next;rw[hn]
     rw[hvn]
     refine inner k hkn (∀k' j,k' < k→M0 k'=true→nextB t (k':Int) j=true→M0 j=true) (fun M' moved' hok' hcl'=>ih2 M' moved' hok' fun hm k' j hk' hk1 hj=>?_) 0 (Nat.zero_le _) M moved hMk hok (fun hm=>⟨hcl hm,fun x hx=>by omega⟩)
     by_cases e:k'=k
     ·subst e;exact (hcl' hm).2 j hj
     ·exact (hcl' hm).1 k' j (by omega) hk1 hj
  rw[goes_jmp,T_ref3_from,goes_br,if_pos rfl]
  exact pass 0 (Nat.zero_le _) M0 false ⟨hA,hC,fun _=>rfl,fun h=>by cases h⟩ fun _ k' j h=>by omega
 have kn:k_ref3_next t i=true:=hk
 unfold T0_ref3_from
 rw[goes_br,if_pos kn]
 have hvn:v_ref3_next t i=rowOf n (nextB t i):=by unfold v_ref3_next;rw[hn]
 rw[hvn]
 exact loop _ (nextB t i) rfl (fun j h=>h) (fun j h=>.start h)
end Go.Ev
end

section
open Go Go.Ev
namespace Go.Ev
noncomputable section
noncomputable def e_ref3_from:Run:=entG sg_ref3_from R_ref3_from (fun a=>k_ref3_from a.1 a.2.1) (fun a=>v_ref3_from a.1 a.2.1)
theorem ok_ref3_from:EntOK Go.Proofs.Tryz.prog 49 e_ref3_from:=entG_ok (tb:=tb_ref3_from) (c:=c_ref3_from) tk_ref3_from (by kernel_rfl) (by kernel_rfl) (by kernel_rfl) (fun a=>by kernel_rfl) fun ⟨t,i,_⟩ hk=>evF_goes (c:=c_ref3_from) (K:=fun v=>(R_ref3_from v,tps (toForms sg_ref3_from (t,i,())))) (S:=S_ref3_from t i) (by kernel_rfl) (en_ref3_from t i) (lp_ref3_from t i) (g_ref3_from t i hk)
end
end Go.Ev
end

section
open Go Go.Ev
namespace Go.Ev
noncomputable section
def sg_ref3_List:Sig:=[(false,(.sl .bool))]
noncomputable def t_ref3_List:Tbl:=[]
theorem tk_ref3_List:∀p∈t_ref3_List,EntOK Go.Proofs.Tryz.prog p.1 p.2:=tbl_nil
noncomputable def c_ref3_List:Code:=Go.Proofs.Tryz.f47.body.getD .skip
def tb_ref3_List:Tb:=[(4,⟨[0,3,4],[(4,74)]⟩)]
inductive J_ref3_List where | l4 (i:Int) (out:List Int)
def T_ref3_List (is:List Bool):J_ref3_List→JT J_ref3_List (List Int) |.l4 i out=>.br (decide (i < (Int.ofNat (List.length is)))) (.br ((decide ((0:Int)≤i))&&(decide (i < (Int.ofNat (List.length is))))) (.br (List.getD is (Int.toNat i) (dflt .bool)) (.br (Nat.ble (((List.length out)+1)*8) limit) (.jmp (.l4 (IntKind.i64.wrap (i+(1:Int))) (out++[i]))) (.no)) (.jmp (.l4 (IntKind.i64.wrap (i+(1:Int))) out))) (.no)) (.leaf out)
def T0_ref3_List (is:List Bool):JT J_ref3_List (List Int):=.jmp (.l4 (0:Int) [])
def R_ref3_List:List Int→AV:=fun (r:List Int)=>.rw 3 (.int .i64) r
def S_ref3_List (is:List Bool):J_ref3_List→Nat×St |.l4 i out=>(4,⟨mkTm 20 [(0,.d (.sl .bool) is),(3,.own 4 0 none),(4,.d (.int .i64) i)],[(4,0,.row 3 (.int .i64) out false)]⟩)
theorem en_ref3_List (is:List Bool) (L:Lt):entryA Go.Proofs.Tryz.prog (clOf t_ref3_List) tb_ref3_List Go.Proofs.Tryz.f47 c_ref3_List L (toForms sg_ref3_List (is,()))=(T0_ref3_List is).run (fun v=>some (R_ref3_List v,tps (toForms sg_ref3_List (is,())))) fun j=>L (S_ref3_List is j).1 (S_ref3_List is j).2:=by kernel_rfl
theorem lp_ref3_List (is:List Bool):∀(L:Lt) (j:J_ref3_List),procOf (procsF Go.Proofs.Tryz.prog (clOf t_ref3_List) tb_ref3_List Go.Proofs.Tryz.f47 c_ref3_List (toForms sg_ref3_List (is,()))) (S_ref3_List is j).1 L (S_ref3_List is j).2=(T_ref3_List is j).run (fun v=>some (R_ref3_List v,tps (toForms sg_ref3_List (is,())))) fun j=>L (S_ref3_List is j).1 (S_ref3_List is j).2 | L,.l4 i out=>by kernel_rfl
end
end Go.Ev
end

section
namespace Go.Ev
open Go
def listFrom:Nat→List Bool→List Int
 | _,[]=>[]
 | k,b :: r=>if b then (k:Int) :: listFrom (k+1) r else listFrom (k+1) r
end Go.Ev
end

section
open Go
namespace Go.Ev
def v_ref3_List (is:List Bool):List Int:=listFrom 0 is
def k_ref3_List (is:List Bool):Bool:=decide (is.length < 1099511627776)
theorem g_ref3_List (is:List Bool) (hk:k_ref3_List is=true):Goes (T_ref3_List is) (T0_ref3_List is) (v_ref3_List is):=by
 have hn:is.length < 1099511627776:=of_decide_eq_true hk
 have loop:∀k,k≤is.length→∀out:List Int,out.length≤k→Goes (T_ref3_List is) (.jmp (.l4 (k:Int) out)) (out++listFrom k (is.drop k)):=by
  refine down ?_ fun k hk ih=>?_
  ·intro out ho
   rw[goes_jmp]
   simp only[T_ref3_List,goes_br,lt_len_not (Nat.lt_irrefl _),List.drop_length]
   rw[show listFrom is.length []=[] from rfl,List.append_nil]
   exact .leaf
  ·intro out ho
   rw[goes_jmp,drop_cons hk]
   have b1:Nat.ble ((out.length+1)*8) limit=true:=Nat.ble_eq_true_of_le (by unfold limit;omega)
   simp only[T_ref3_List,goes_br,lt_len hk,nng,Bool.and_self,if_true,Int.toNat_natCast,getD_lt hk,wrap_succ (k:=k) (by omega),b1]
   unfold listFrom
   split
   ·have:=ih (out++[(k:Int)]) (by rw[List.length_append,List.length_singleton];omega)
    rw[List.append_assoc] at this
    exact this
   ·exact ih out (by omega)
 have:=loop 0 (Nat.zero_le _) [] (by simp)
 unfold T0_ref3_List v_ref3_List
 simpa using this
end Go.Ev
end

section
open Go Go.Ev
namespace Go.Ev
noncomputable section
noncomputable def e_ref3_List:Run:=entG sg_ref3_List R_ref3_List (fun a=>k_ref3_List a.1) (fun a=>v_ref3_List a.1)
theorem ok_ref3_List:EntOK Go.Proofs.Tryz.prog 47 e_ref3_List:=entG_ok (tb:=tb_ref3_List) (c:=c_ref3_List) tk_ref3_List (by kernel_rfl) (by kernel_rfl) (by kernel_rfl) (fun a=>by kernel_rfl) fun ⟨is,_⟩ hk=>evF_goes (c:=c_ref3_List) (K:=fun v=>(R_ref3_List v,tps (toForms sg_ref3_List (is,())))) (S:=S_ref3_List is) (by kernel_rfl) (en_ref3_List is) (lp_ref3_List is) (g_ref3_List is hk)
end
end Go.Ev
end

section
open Go Go.Ev
namespace Go.Ev
noncomputable section
def sg_ref3_From:Sig:=[(true,(.sl T_api_Ins)),(false,(.int .i64))]
noncomputable def t_ref3_From:Tbl:=[(49,e_ref3_from),(47,e_ref3_List)]
theorem tk_ref3_From:∀p∈t_ref3_From,EntOK Go.Proofs.Tryz.prog p.1 p.2:=tbl_cons ok_ref3_from (tbl_cons ok_ref3_List (tbl_nil))
noncomputable def c_ref3_From:Code:=Go.Proofs.Tryz.f22.body.getD .skip
def tb_ref3_From:Tb:=[]
def T_ref3_From (t:List (El T_api_Ins)) (i:Int):Empty→JT Empty (List Int):=fun j=>nomatch j
def T0_ref3_From (t:List (El T_api_Ins)) (i:Int):JT Empty (List Int):=.br (k_ref3_from t i) (.br (k_ref3_List (v_ref3_from t i)) (.leaf (v_ref3_List (v_ref3_from t i))) (.no)) (.no)
def v_ref3_From (t:List (El T_api_Ins)) (i:Int):List Int:=bif (k_ref3_from t i) then bif (k_ref3_List (v_ref3_from t i)) then (v_ref3_List (v_ref3_from t i)) else [] else []
def k_ref3_From (t:List (El T_api_Ins)) (i:Int):Bool:=bif (k_ref3_from t i) then bif (k_ref3_List (v_ref3_from t i)) then true else false else false
theorem g_ref3_From (t:List (El T_api_Ins)) (i:Int) (hk:k_ref3_From t i=true):Goes (T_ref3_From t i) (T0_ref3_From t i) (v_ref3_From t i):=Goes.brk hk (fun hk=>Goes.brk hk (fun hk=>Goes.leaf) (fun hk=>Goes.nok hk)) (fun hk=>Goes.nok hk)
def R_ref3_From:List Int→AV:=fun (r:List Int)=>.rw 3 (.int .i64) r
def S_ref3_From (t:List (El T_api_Ins)) (i:Int):Empty→Nat×St:=fun j=>nomatch j
theorem en_ref3_From (t:List (El T_api_Ins)) (i:Int) (L:Lt):entryA Go.Proofs.Tryz.prog (clOf t_ref3_From) tb_ref3_From Go.Proofs.Tryz.f22 c_ref3_From L (toForms sg_ref3_From (t,i,()))=(T0_ref3_From t i).run (fun v=>some (R_ref3_From v,tps (toForms sg_ref3_From (t,i,())))) fun j=>L (S_ref3_From t i j).1 (S_ref3_From t i j).2:=by kernel_rfl
theorem lp_ref3_From (t:List (El T_api_Ins)) (i:Int):∀(L:Lt) (j:Empty),procOf (procsF Go.Proofs.Tryz.prog (clOf t_ref3_From) tb_ref3_From Go.Proofs.Tryz.f22 c_ref3_From (toForms sg_ref3_From (t,i,()))) (S_ref3_From t i j).1 L (S_ref3_From t i j).2=(T_ref3_From t i j).run (fun v=>some (R_ref3_From v,tps (toForms sg_ref3_From (t,i,())))) fun j=>L (S_ref3_From t i j).1 (S_ref3_From t i j).2:=fun L j=>nomatch j
noncomputable def e_ref3_From:Run:=entG sg_ref3_From R_ref3_From (fun a=>k_ref3_From a.1 a.2.1) (fun a=>v_ref3_From a.1 a.2.1)
theorem ok_ref3_From:EntOK Go.Proofs.Tryz.prog 22 e_ref3_From:=entG_ok (tb:=tb_ref3_From) (c:=c_ref3_From) tk_ref3_From (by kernel_rfl) (by kernel_rfl) (by kernel_rfl) (fun a=>by kernel_rfl) fun ⟨t,i,_⟩ hk=>evF_goes (c:=c_ref3_From) (K:=fun v=>(R_ref3_From v,tps (toForms sg_ref3_From (t,i,())))) (S:=S_ref3_From t i) (by kernel_rfl) (en_ref3_From t i) (lp_ref3_From t i) (g_ref3_From t i hk)
end
end Go.Ev
end

section
open Go Go.Ev
namespace Go.Ev
noncomputable section
def sg_law24_both:Sig:=[]
noncomputable def t_law24_both:Tbl:=[]
theorem tk_law24_both:∀p∈t_law24_both,EntOK Go.Proofs.Tryz.prog p.1 p.2:=tbl_nil
noncomputable def c_law24_both:Code:=Go.Proofs.Tryz.f55.body.getD .skip
def tb_law24_both:Tb:=[]
def T_law24_both:Empty→JT Empty (El T_api_Prog):=fun j=>nomatch j
def T0_law24_both:JT Empty (El T_api_Prog):=.leaf ([((bs [120]),((1:Int),[])),((bs [121]),((1:Int),[]))],[[((1:Int),(false,((0:Int),(((3:Int),((0:Int),((0:Int),(0:Int)))),(((2:Int),((0:Int),((0:Int),(1:Int)))),((bs []),[])))))),((1:Int),(false,((0:Int),(((1:Int),((0:Int),((0:Int),(0:Int)))),(((3:Int),((0:Int),((1:Int),(0:Int)))),((bs []),[])))))),((14:Int),(false,((0:Int),(((0:Int),((0:Int),((0:Int),(0:Int)))),(((0:Int),((0:Int),((0:Int),(0:Int)))),((bs []),[]))))))],[((1:Int),(false,((0:Int),(((3:Int),((0:Int),((1:Int),(0:Int)))),(((2:Int),((0:Int),((0:Int),(1:Int)))),((bs []),[])))))),((1:Int),(false,((0:Int),(((1:Int),((0:Int),((0:Int),(0:Int)))),(((3:Int),((0:Int),((0:Int),(0:Int)))),((bs []),[])))))),((14:Int),(false,((0:Int),(((0:Int),((0:Int),((0:Int),(0:Int)))),(((0:Int),((0:Int),((0:Int),(0:Int)))),((bs []),[]))))))]])
def v_law24_both:El T_api_Prog:=([((bs [120]),((1:Int),[])),((bs [121]),((1:Int),[]))],[[((1:Int),(false,((0:Int),(((3:Int),((0:Int),((0:Int),(0:Int)))),(((2:Int),((0:Int),((0:Int),(1:Int)))),((bs []),[])))))),((1:Int),(false,((0:Int),(((1:Int),((0:Int),((0:Int),(0:Int)))),(((3:Int),((0:Int),((1:Int),(0:Int)))),((bs []),[])))))),((14:Int),(false,((0:Int),(((0:Int),((0:Int),((0:Int),(0:Int)))),(((0:Int),((0:Int),((0:Int),(0:Int)))),((bs []),[]))))))],[((1:Int),(false,((0:Int),(((3:Int),((0:Int),((1:Int),(0:Int)))),(((2:Int),((0:Int),((0:Int),(1:Int)))),((bs []),[])))))),((1:Int),(false,((0:Int),(((1:Int),((0:Int),((0:Int),(0:Int)))),(((3:Int),((0:Int),((0:Int),(0:Int)))),((bs []),[])))))),((14:Int),(false,((0:Int),(((0:Int),((0:Int),((0:Int),(0:Int)))),(((0:Int),((0:Int),((0:Int),(0:Int)))),((bs []),[]))))))]])
theorem g_law24_both:Goes (T_law24_both) (T0_law24_both) (v_law24_both):=Goes.leaf
def R_law24_both:El T_api_Prog→AV:=fun (r:El T_api_Prog)=>.ag [.rw 67 T_api_Sym r.1,.rw 48 (.sl T_api_Ins) r.2]
def S_law24_both:Empty→Nat×St:=fun j=>nomatch j
theorem en_law24_both (L:Lt):entryA Go.Proofs.Tryz.prog (clOf t_law24_both) tb_law24_both Go.Proofs.Tryz.f55 c_law24_both L (toForms sg_law24_both (()))=(T0_law24_both).run (fun v=>some (R_law24_both v,tps (toForms sg_law24_both (())))) fun j=>L (S_law24_both j).1 (S_law24_both j).2:=by kernel_rfl
theorem lp_law24_both:∀(L:Lt) (j:Empty),procOf (procsF Go.Proofs.Tryz.prog (clOf t_law24_both) tb_law24_both Go.Proofs.Tryz.f55 c_law24_both (toForms sg_law24_both (()))) (S_law24_both j).1 L (S_law24_both j).2=(T_law24_both j).run (fun v=>some (R_law24_both v,tps (toForms sg_law24_both (())))) fun j=>L (S_law24_both j).1 (S_law24_both j).2:=fun L j=>nomatch j
noncomputable def e_law24_both:Run:=entT sg_law24_both R_law24_both (fun a=>v_law24_both)
theorem ok_law24_both:EntOK Go.Proofs.Tryz.prog 55 e_law24_both:=entT_ok (tb:=tb_law24_both) (c:=c_law24_both) tk_law24_both (by kernel_rfl) (by kernel_rfl) (by kernel_rfl) (fun a=>by kernel_rfl) fun _=>evF_goes (c:=c_law24_both) (K:=fun v=>(R_law24_both v,tps (toForms sg_law24_both (())))) (S:=S_law24_both) (by kernel_rfl) (en_law24_both) (lp_law24_both) (g_law24_both)
end
end Go.Ev
end

section
open Go Go.Ev
namespace Go.Ev
noncomputable section
def sg_book_SamePairs:Sig:=[(false,(.sl T_api_Pair)),(false,(.sl T_api_Pair))]
noncomputable def t_book_SamePairs:Tbl:=[]
theorem tk_book_SamePairs:∀p∈t_book_SamePairs,EntOK Go.Proofs.Tryz.prog p.1 p.2:=tbl_nil
noncomputable def c_book_SamePairs:Code:=Go.Proofs.Tryz.f24.body.getD .skip
def tb_book_SamePairs:Tb:=[(6,⟨[0,1,5],[]⟩)]
inductive J_book_SamePairs where | l6 (i:Int)
def T_book_SamePairs (a:List (El T_api_Pair)) (b:List (El T_api_Pair)):J_book_SamePairs→JT J_book_SamePairs (Bool) |.l6 i=>.br (decide (i < (Int.ofNat (List.length a)))) (.br ((decide ((0:Int)≤i))&&(decide (i < (Int.ofNat (List.length a))))) (.br ((decide ((0:Int)≤i))&&(decide (i < (Int.ofNat (List.length b))))) (.br (! (((List.getD a (Int.toNat i) (dflt T_api_Pair)).1==(List.getD b (Int.toNat i) (dflt T_api_Pair)).1)&&(((List.getD a (Int.toNat i) (dflt T_api_Pair)).2.1==(List.getD b (Int.toNat i) (dflt T_api_Pair)).2.1)&&((List.getD a (Int.toNat i) (dflt T_api_Pair)).2.2==(List.getD b (Int.toNat i) (dflt T_api_Pair)).2.2)))) (.leaf false) (.jmp (.l6 (IntKind.i64.wrap (i+(1:Int)))))) (.no)) (.no)) (.leaf true)
def T0_book_SamePairs (a:List (El T_api_Pair)) (b:List (El T_api_Pair)):JT J_book_SamePairs (Bool):=.br ((Int.ofNat (List.length a)) !=(Int.ofNat (List.length b))) (.leaf false) (.jmp (.l6 (0:Int)))
def R_book_SamePairs:Bool→AV:=fun (r:Bool)=>.d .bool r
def S_book_SamePairs (a:List (El T_api_Pair)) (b:List (El T_api_Pair)):J_book_SamePairs→Nat×St |.l6 i=>(6,⟨mkTm 26 [(0,.d (.sl T_api_Pair) a),(1,.d (.sl T_api_Pair) b),(5,.d (.int .i64) i)],[]⟩)
theorem en_book_SamePairs (a:List (El T_api_Pair)) (b:List (El T_api_Pair)) (L:Lt):entryA Go.Proofs.Tryz.prog (clOf t_book_SamePairs) tb_book_SamePairs Go.Proofs.Tryz.f24 c_book_SamePairs L (toForms sg_book_SamePairs (a,b,()))=(T0_book_SamePairs a b).run (fun v=>some (R_book_SamePairs v,tps (toForms sg_book_SamePairs (a,b,())))) fun j=>L (S_book_SamePairs a b j).1 (S_book_SamePairs a b j).2:=by kernel_rfl
theorem lp_book_SamePairs (a:List (El T_api_Pair)) (b:List (El T_api_Pair)):∀(L:Lt) (j:J_book_SamePairs),procOf (procsF Go.Proofs.Tryz.prog (clOf t_book_SamePairs) tb_book_SamePairs Go.Proofs.Tryz.f24 c_book_SamePairs (toForms sg_book_SamePairs (a,b,()))) (S_book_SamePairs a b j).1 L (S_book_SamePairs a b j).2=(T_book_SamePairs a b j).run (fun v=>some (R_book_SamePairs v,tps (toForms sg_book_SamePairs (a,b,())))) fun j=>L (S_book_SamePairs a b j).1 (S_book_SamePairs a b j).2 | L,.l6 i=>by kernel_rfl
end
end Go.Ev
end

section
open Go
namespace Go.Ev
theorem pairB_eq {a b:El T_api_Pair} :(a.1==b.1&&(a.2.1==b.2.1&&a.2.2==b.2.2))=decide (a=b):=by
 obtain ⟨a1,a2,a3⟩:=a
 obtain ⟨b1,b2,b3⟩:=b
 rw[Bool.eq_iff_iff]
 simp
def v_book_SamePairs (a b:List (El T_api_Pair)):Bool:=decide (a=b)
def k_book_SamePairs (a b:List (El T_api_Pair)):Bool:=decide (a.length < 4611686018427387904)
theorem g_book_SamePairs (a b:List (El T_api_Pair)) (hk:k_book_SamePairs a b=true):Goes (T_book_SamePairs a b) (T0_book_SamePairs a b) (v_book_SamePairs a b):=by
 have hn:a.length < 4611686018427387904:=of_decide_eq_true hk
 have loop:a.length=b.length→∀k,k≤a.length→Goes (T_book_SamePairs a b) (.jmp (.l6 (k:Int))) (decide (a.drop k=b.drop k)):=by
  intro he
  refine down ?_ fun k hk ih=>?_
  ·rw[goes_jmp]
   simp[T_book_SamePairs,goes_br,goes_leaf,he]
  ·rw[goes_jmp]
   have hkb:k < b.length:=he▸hk
   simp only[T_book_SamePairs,goes_br,lt_len hk,lt_len hkb,nng,Bool.and_self,if_true,Int.toNat_natCast,getD_lt hk,getD_lt hkb,wrap_succ (k:=k) (by omega)]
   rw[drop_cons hk,drop_cons hkb]
   split
   ·rename_i h1
    have h2:(! decide (a[k]=b[k]))=true:=(congrArg Bool.not pairB_eq).symm.trans h1
    have h3:¬a[k]=b[k]:=by simpa using h2
    rw[decide_eq_false (fun e=>h3 (List.cons.inj e).1)]
    exact .leaf
   ·rename_i h1
    have h2:¬(! decide (a[k]=b[k]))=true:=fun h=>h1 ((congrArg Bool.not pairB_eq).trans h)
    have h3:a[k]=b[k]:=by simpa using h2
    rw[show decide (a[k] :: List.drop (k+1) a=b[k] :: List.drop (k+1) b)=decide (List.drop (k+1) a=List.drop (k+1) b) from decide_eq_decide.2 ⟨fun e=>(List.cons.inj e).2,fun e=>by rw[h3,e]⟩]
    exact ih
 unfold T0_book_SamePairs v_book_SamePairs
 rw[goes_br]
 by_cases h:a.length=b.length
 ·have:=loop h 0 (Nat.zero_le _)
  simpa[h] using this
 ·have:a≠b:=fun e=>h (congrArg _ e)
  rw[if_pos (by simp;omega),decide_eq_false this]
  exact .leaf
end Go.Ev
end

section
open Go Go.Ev
namespace Go.Ev
noncomputable section
noncomputable def e_book_SamePairs:Run:=entG sg_book_SamePairs R_book_SamePairs (fun a=>k_book_SamePairs a.1 a.2.1) (fun a=>v_book_SamePairs a.1 a.2.1)
theorem ok_book_SamePairs:EntOK Go.Proofs.Tryz.prog 24 e_book_SamePairs:=entG_ok (tb:=tb_book_SamePairs) (c:=c_book_SamePairs) tk_book_SamePairs (by kernel_rfl) (by kernel_rfl) (by kernel_rfl) (fun a=>by kernel_rfl) fun ⟨a,b,_⟩ hk=>evF_goes (c:=c_book_SamePairs) (K:=fun v=>(R_book_SamePairs v,tps (toForms sg_book_SamePairs (a,b,())))) (S:=S_book_SamePairs a b) (by kernel_rfl) (en_book_SamePairs a b) (lp_book_SamePairs a b) (g_book_SamePairs a b hk)
end
end Go.Ev
end

section
open Go Go.Ev
namespace Go.Ev
noncomputable section
def sg_law24_alive:Sig:=[]
noncomputable def t_law24_alive:Tbl:=[(55,e_law24_both),(25,e_delay_Pairs),(24,e_book_SamePairs),(27,e_delay_Open)]
theorem tk_law24_alive:∀p∈t_law24_alive,EntOK Go.Proofs.Tryz.prog p.1 p.2:=tbl_cons ok_law24_both (tbl_cons ok_delay_Pairs (tbl_cons ok_book_SamePairs (tbl_cons ok_delay_Open (tbl_nil))))
noncomputable def c_law24_alive:Code:=Go.Proofs.Tryz.f29.body.getD .skip
def tb_law24_alive:Tb:=[]
def T_law24_alive:Empty→JT Empty (Bool):=fun j=>nomatch j
def T0_law24_alive:JT Empty (Bool):=.br (k_delay_Pairs v_law24_both) (.br (k_book_SamePairs (v_delay_Pairs v_law24_both) [((0:Int),((0:Int),(1:Int))),((1:Int),((0:Int),(1:Int)))]) (.br (v_book_SamePairs (v_delay_Pairs v_law24_both) [((0:Int),((0:Int),(1:Int))),((1:Int),((0:Int),(1:Int)))]) (.br (k_delay_Open v_law24_both) (.br (k_book_SamePairs (v_delay_Open v_law24_both) [((0:Int),((0:Int),(1:Int))),((1:Int),((0:Int),(1:Int)))]) (.br (v_book_SamePairs (v_delay_Open v_law24_both) [((0:Int),((0:Int),(1:Int))),((1:Int),((0:Int),(1:Int)))]) (.br (k_delay_Pairs ([],[])) (.leaf ((Int.ofNat (List.length (v_delay_Pairs ([],[]))))==(0:Int))) (.no)) (.leaf false)) (.no)) (.no)) (.leaf false)) (.no)) (.no)
def v_law24_alive:Bool:=bif (k_delay_Pairs v_law24_both) then bif (k_book_SamePairs (v_delay_Pairs v_law24_both) [((0:Int),((0:Int),(1:Int))),((1:Int),((0:Int),(1:Int)))]) then bif (v_book_SamePairs (v_delay_Pairs v_law24_both) [((0:Int),((0:Int),(1:Int))),((1:Int),((0:Int),(1:Int)))]) then bif (k_delay_Open v_law24_both) then bif (k_book_SamePairs (v_delay_Open v_law24_both) [((0:Int),((0:Int),(1:Int))),((1:Int),((0:Int),(1:Int)))]) then bif (v_book_SamePairs (v_delay_Open v_law24_both) [((0:Int),((0:Int),(1:Int))),((1:Int),((0:Int),(1:Int)))]) then bif (k_delay_Pairs ([],[])) then ((Int.ofNat (List.length (v_delay_Pairs ([],[]))))==(0:Int)) else false else false else false else false else false else false else false
def k_law24_alive:Bool:=bif (k_delay_Pairs v_law24_both) then bif (k_book_SamePairs (v_delay_Pairs v_law24_both) [((0:Int),((0:Int),(1:Int))),((1:Int),((0:Int),(1:Int)))]) then bif (v_book_SamePairs (v_delay_Pairs v_law24_both) [((0:Int),((0:Int),(1:Int))),((1:Int),((0:Int),(1:Int)))]) then bif (k_delay_Open v_law24_both) then bif (k_book_SamePairs (v_delay_Open v_law24_both) [((0:Int),((0:Int),(1:Int))),((1:Int),((0:Int),(1:Int)))]) then bif (v_book_SamePairs (v_delay_Open v_law24_both) [((0:Int),((0:Int),(1:Int))),((1:Int),((0:Int),(1:Int)))]) then bif (k_delay_Pairs ([],[])) then true else false else true else false else false else true else false else false
theorem g_law24_alive (hk:k_law24_alive=true):Goes (T_law24_alive) (T0_law24_alive) (v_law24_alive):=Goes.brk hk (fun hk=>Goes.brk hk (fun hk=>Goes.brk hk (fun hk=>Goes.brk hk (fun hk=>Goes.brk hk (fun hk=>Goes.brk hk (fun hk=>Goes.brk hk (fun hk=>Goes.leaf) (fun hk=>Goes.nok hk)) (fun hk=>Goes.leaf)) (fun hk=>Goes.nok hk)) (fun hk=>Goes.nok hk)) (fun hk=>Goes.leaf)) (fun hk=>Goes.nok hk)) (fun hk=>Goes.nok hk)
def R_law24_alive:Bool→AV:=fun (r:Bool)=>.d .bool r
def S_law24_alive:Empty→Nat×St:=fun j=>nomatch j
theorem en_law24_alive (L:Lt):entryA Go.Proofs.Tryz.prog (clOf t_law24_alive) tb_law24_alive Go.Proofs.Tryz.f29 c_law24_alive L (toForms sg_law24_alive (()))=(T0_law24_alive).run (fun v=>some (R_law24_alive v,tps (toForms sg_law24_alive (())))) fun j=>L (S_law24_alive j).1 (S_law24_alive j).2:=by kernel_rfl
theorem lp_law24_alive:∀(L:Lt) (j:Empty),procOf (procsF Go.Proofs.Tryz.prog (clOf t_law24_alive) tb_law24_alive Go.Proofs.Tryz.f29 c_law24_alive (toForms sg_law24_alive (()))) (S_law24_alive j).1 L (S_law24_alive j).2=(T_law24_alive j).run (fun v=>some (R_law24_alive v,tps (toForms sg_law24_alive (())))) fun j=>L (S_law24_alive j).1 (S_law24_alive j).2:=fun L j=>nomatch j
noncomputable def e_law24_alive:Run:=entG sg_law24_alive R_law24_alive (fun a=>k_law24_alive) (fun a=>v_law24_alive)
theorem ok_law24_alive:EntOK Go.Proofs.Tryz.prog 29 e_law24_alive:=entG_ok (tb:=tb_law24_alive) (c:=c_law24_alive) tk_law24_alive (by kernel_rfl) (by kernel_rfl) (by kernel_rfl) (fun a=>by kernel_rfl) fun _ hk=>evF_goes (c:=c_law24_alive) (K:=fun v=>(R_law24_alive v,tps (toForms sg_law24_alive (())))) (S:=S_law24_alive) (by kernel_rfl) (en_law24_alive) (lp_law24_alive) (g_law24_alive hk)
end
end Go.Ev
end

section
open Go Go.Ev
namespace Go.Ev
noncomputable section
def sg_law24_DelayAre:Sig:=[(false,(.sl (.sl T_book_Act)))]
noncomputable def t_law24_DelayAre:Tbl:=[(11,e_book_Prog),(25,e_delay_Pairs),(27,e_delay_Open),(30,e_ref3_Stores),(21,e_ref3_In),(31,e_ref3_Loads),(22,e_ref3_From),(29,e_law24_alive)]
theorem tk_law24_DelayAre:∀p∈t_law24_DelayAre,EntOK Go.Proofs.Tryz.prog p.1 p.2:=tbl_cons ok_book_Prog (tbl_cons ok_delay_Pairs (tbl_cons ok_delay_Open (tbl_cons ok_ref3_Stores (tbl_cons ok_ref3_In (tbl_cons ok_ref3_Loads (tbl_cons ok_ref3_From (tbl_cons ok_law24_alive (tbl_nil))))))))
noncomputable def c_law24_DelayAre:Code:=Go.Proofs.Tryz.f9.body.getD .skip
def tb_law24_DelayAre:Tb:=[(5,⟨[3,4,5,6],[]⟩),(20,⟨[4,5,9,10],[]⟩)]
inductive J_law24_DelayAre where | l5 (i:Int) | l20 (k:Int) (i:Int)
def T_law24_DelayAre (l:List (List (El T_book_Act))):J_law24_DelayAre→JT J_law24_DelayAre (Bool) |.l5 i=>.br (decide (i < (Int.ofNat (List.length (v_delay_Pairs (v_book_Prog l (3:Int) (6:Int))))))) (.br ((decide ((0:Int)≤i))&&(decide (i < (Int.ofNat (List.length (v_delay_Pairs (v_book_Prog l (3:Int) (6:Int)))))))) (.br (decide ((List.getD (v_delay_Pairs (v_book_Prog l (3:Int) (6:Int))) (Int.toNat i) (dflt T_api_Pair)).1 < (0:Int))) (.leaf false) (.br (decide ((List.getD (v_delay_Pairs (v_book_Prog l (3:Int) (6:Int))) (Int.toNat i) (dflt T_api_Pair)).1≥(Int.ofNat (List.length (v_book_Prog l (3:Int) (6:Int)).2)))) (.leaf false) (.br (k_ref3_Stores (v_book_Prog l (3:Int) (6:Int)) (List.getD (v_delay_Pairs (v_book_Prog l (3:Int) (6:Int))) (Int.toNat i) (dflt T_api_Pair)).1) (.br (k_ref3_In (v_ref3_Stores (v_book_Prog l (3:Int) (6:Int)) (List.getD (v_delay_Pairs (v_book_Prog l (3:Int) (6:Int))) (Int.toNat i) (dflt T_api_Pair)).1) (List.getD (v_delay_Pairs (v_book_Prog l (3:Int) (6:Int))) (Int.toNat i) (dflt T_api_Pair)).2.1) (.br (! (v_ref3_In (v_ref3_Stores (v_book_Prog l (3:Int) (6:Int)) (List.getD (v_delay_Pairs (v_book_Prog l (3:Int) (6:Int))) (Int.toNat i) (dflt T_api_Pair)).1) (List.getD (v_delay_Pairs (v_book_Prog l (3:Int) (6:Int))) (Int.toNat i) (dflt T_api_Pair)).2.1)) (.leaf false) (.br (k_ref3_Loads (v_book_Prog l (3:Int) (6:Int)) (List.getD (v_delay_Pairs (v_book_Prog l (3:Int) (6:Int))) (Int.toNat i) (dflt T_api_Pair)).1) (.br (k_ref3_In (v_ref3_Loads (v_book_Prog l (3:Int) (6:Int)) (List.getD (v_delay_Pairs (v_book_Prog l (3:Int) (6:Int))) (Int.toNat i) (dflt T_api_Pair)).1) (List.getD (v_delay_Pairs (v_book_Prog l (3:Int) (6:Int))) (Int.toNat i) (dflt T_api_Pair)).2.2) (.br (! (v_ref3_In (v_ref3_Loads (v_book_Prog l (3:Int) (6:Int)) (List.getD (v_delay_Pairs (v_book_Prog l (3:Int) (6:Int))) (Int.toNat i) (dflt T_api_Pair)).1) (List.getD (v_delay_Pairs (v_book_Prog l (3:Int) (6:Int))) (Int.toNat i) (dflt T_api_Pair)).2.2)) (.leaf false) (.br ((decide ((0:Int)≤(List.getD (v_delay_Pairs (v_book_Prog l (3:Int) (6:Int))) (Int.toNat i) (dflt T_api_Pair)).1))&&(decide ((List.getD (v_delay_Pairs (v_book_Prog l (3:Int) (6:Int))) (Int.toNat i) (dflt T_api_Pair)).1 < (Int.ofNat (List.length (v_book_Prog l (3:Int) (6:Int)).2))))) (.br (k_ref3_From (List.getD (v_book_Prog l (3:Int) (6:Int)).2 (Int.toNat (List.getD (v_delay_Pairs (v_book_Prog l (3:Int) (6:Int))) (Int.toNat i) (dflt T_api_Pair)).1) (dflt (.sl T_api_Ins))) (List.getD (v_delay_Pairs (v_book_Prog l (3:Int) (6:Int))) (Int.toNat i) (dflt T_api_Pair)).2.1) (.br (k_ref3_In (v_ref3_From (List.getD (v_book_Prog l (3:Int) (6:Int)).2 (Int.toNat (List.getD (v_delay_Pairs (v_book_Prog l (3:Int) (6:Int))) (Int.toNat i) (dflt T_api_Pair)).1) (dflt (.sl T_api_Ins))) (List.getD (v_delay_Pairs (v_book_Prog l (3:Int) (6:Int))) (Int.toNat i) (dflt T_api_Pair)).2.1) (List.getD (v_delay_Pairs (v_book_Prog l (3:Int) (6:Int))) (Int.toNat i) (dflt T_api_Pair)).2.2) (.br (! (v_ref3_In (v_ref3_From (List.getD (v_book_Prog l (3:Int) (6:Int)).2 (Int.toNat (List.getD (v_delay_Pairs (v_book_Prog l (3:Int) (6:Int))) (Int.toNat i) (dflt T_api_Pair)).1) (dflt (.sl T_api_Ins))) (List.getD (v_delay_Pairs (v_book_Prog l (3:Int) (6:Int))) (Int.toNat i) (dflt T_api_Pair)).2.1) (List.getD (v_delay_Pairs (v_book_Prog l (3:Int) (6:Int))) (Int.toNat i) (dflt T_api_Pair)).2.2)) (.leaf false) (.br (decide (i > (0:Int))) (.br ((decide ((0:Int)≤(IntKind.i64.wrap (i - (1:Int)))))&&(decide ((IntKind.i64.wrap (i - (1:Int))) < (Int.ofNat (List.length (v_delay_Pairs (v_book_Prog l (3:Int) (6:Int)))))))) (.br (decide ((List.getD (v_delay_Pairs (v_book_Prog l (3:Int) (6:Int))) (Int.toNat (IntKind.i64.wrap (i - (1:Int)))) (dflt T_api_Pair)).1 > (List.getD (v_delay_Pairs (v_book_Prog l (3:Int) (6:Int))) (Int.toNat i) (dflt T_api_Pair)).1)) (.leaf false) (.br ((List.getD (v_delay_Pairs (v_book_Prog l (3:Int) (6:Int))) (Int.toNat (IntKind.i64.wrap (i - (1:Int)))) (dflt T_api_Pair)).1==(List.getD (v_delay_Pairs (v_book_Prog l (3:Int) (6:Int))) (Int.toNat i) (dflt T_api_Pair)).1) (.br (decide ((List.getD (v_delay_Pairs (v_book_Prog l (3:Int) (6:Int))) (Int.toNat (IntKind.i64.wrap (i - (1:Int)))) (dflt T_api_Pair)).2.1 > (List.getD (v_delay_Pairs (v_book_Prog l (3:Int) (6:Int))) (Int.toNat i) (dflt T_api_Pair)).2.1)) (.leaf false) (.br ((List.getD (v_delay_Pairs (v_book_Prog l (3:Int) (6:Int))) (Int.toNat (IntKind.i64.wrap (i - (1:Int)))) (dflt T_api_Pair)).2.1==(List.getD (v_delay_Pairs (v_book_Prog l (3:Int) (6:Int))) (Int.toNat i) (dflt T_api_Pair)).2.1) (.br (decide ((List.getD (v_delay_Pairs (v_book_Prog l (3:Int) (6:Int))) (Int.toNat (IntKind.i64.wrap (i - (1:Int)))) (dflt T_api_Pair)).2.2≥(List.getD (v_delay_Pairs (v_book_Prog l (3:Int) (6:Int))) (Int.toNat i) (dflt T_api_Pair)).2.2)) (.leaf false) (.jmp (.l5 (IntKind.i64.wrap (i+(1:Int)))))) (.jmp (.l5 (IntKind.i64.wrap (i+(1:Int))))))) (.jmp (.l5 (IntKind.i64.wrap (i+(1:Int))))))) (.no)) (.jmp (.l5 (IntKind.i64.wrap (i+(1:Int))))))) (.no)) (.no)) (.no))) (.no)) (.no))) (.no)) (.no)))) (.no)) (.jmp (.l20 (0:Int) (0:Int))) |.l20 k i=>.br (decide (i < (Int.ofNat (List.length (v_delay_Pairs (v_book_Prog l (3:Int) (6:Int))))))) (.br (decide (k < (Int.ofNat (List.length (v_delay_Open (v_book_Prog l (3:Int) (6:Int))))))) (.br ((decide ((0:Int)≤i))&&(decide (i < (Int.ofNat (List.length (v_delay_Pairs (v_book_Prog l (3:Int) (6:Int)))))))) (.br ((decide ((0:Int)≤k))&&(decide (k < (Int.ofNat (List.length (v_delay_Open (v_book_Prog l (3:Int) (6:Int)))))))) (.br (((List.getD (v_delay_Pairs (v_book_Prog l (3:Int) (6:Int))) (Int.toNat i) (dflt T_api_Pair)).1==(List.getD (v_delay_Open (v_book_Prog l (3:Int) (6:Int))) (Int.toNat k) (dflt T_api_Pair)).1)&&(((List.getD (v_delay_Pairs (v_book_Prog l (3:Int) (6:Int))) (Int.toNat i) (dflt T_api_Pair)).2.1==(List.getD (v_delay_Open (v_book_Prog l (3:Int) (6:Int))) (Int.toNat k) (dflt T_api_Pair)).2.1)&&((List.getD (v_delay_Pairs (v_book_Prog l (3:Int) (6:Int))) (Int.toNat i) (dflt T_api_Pair)).2.2==(List.getD (v_delay_Open (v_book_Prog l (3:Int) (6:Int))) (Int.toNat k) (dflt T_api_Pair)).2.2))) (.jmp (.l20 (IntKind.i64.wrap (k+(1:Int))) (IntKind.i64.wrap (i+(1:Int))))) (.jmp (.l20 k (IntKind.i64.wrap (i+(1:Int)))))) (.no)) (.no)) (.br (k==(Int.ofNat (List.length (v_delay_Open (v_book_Prog l (3:Int) (6:Int)))))) (.br k_law24_alive (.leaf v_law24_alive) (.no)) (.leaf false))) (.br (k==(Int.ofNat (List.length (v_delay_Open (v_book_Prog l (3:Int) (6:Int)))))) (.br k_law24_alive (.leaf v_law24_alive) (.no)) (.leaf false))
def T0_law24_DelayAre (l:List (List (El T_book_Act))):JT J_law24_DelayAre (Bool):=.br (k_book_Prog l (3:Int) (6:Int)) (.br (k_delay_Pairs (v_book_Prog l (3:Int) (6:Int))) (.br (k_delay_Open (v_book_Prog l (3:Int) (6:Int))) (.jmp (.l5 (0:Int))) (.no)) (.no)) (.no)
def R_law24_DelayAre:Bool→AV:=fun (r:Bool)=>.d .bool r
def S_law24_DelayAre (l:List (List (El T_book_Act))):J_law24_DelayAre→Nat×St |.l5 i=>(5,⟨mkTm 143 [(3,.pt 4 0 0),(4,.own 5 0 none),(5,.own 6 0 none),(6,.d (.int .i64) i)],[(4,0,.box 26 [.own 4097 0 none,.own 4098 0 none] none),(5,0,.row 56 T_api_Pair (v_delay_Pairs (v_book_Prog l (3:Int) (6:Int))) false),(6,0,.row 56 T_api_Pair (v_delay_Open (v_book_Prog l (3:Int) (6:Int))) false),(4097,0,.row 67 T_api_Sym (v_book_Prog l (3:Int) (6:Int)).1 false),(4098,0,.row 48 (.sl T_api_Ins) (v_book_Prog l (3:Int) (6:Int)).2 false)]⟩) |.l20 k i=>(20,⟨mkTm 143 [(4,.own 5 0 none),(5,.own 6 0 none),(9,.d (.int .i64) k),(10,.d (.int .i64) i)],[(5,0,.row 56 T_api_Pair (v_delay_Pairs (v_book_Prog l (3:Int) (6:Int))) false),(6,0,.row 56 T_api_Pair (v_delay_Open (v_book_Prog l (3:Int) (6:Int))) false)]⟩)
theorem en_law24_DelayAre (l:List (List (El T_book_Act))) (L:Lt):entryA Go.Proofs.Tryz.prog (clOf t_law24_DelayAre) tb_law24_DelayAre Go.Proofs.Tryz.f9 c_law24_DelayAre L (toForms sg_law24_DelayAre (l,()))=(T0_law24_DelayAre l).run (fun v=>some (R_law24_DelayAre v,tps (toForms sg_law24_DelayAre (l,())))) fun j=>L (S_law24_DelayAre l j).1 (S_law24_DelayAre l j).2:=by kernel_rfl
theorem lp_law24_DelayAre (l:List (List (El T_book_Act))):∀(L:Lt) (j:J_law24_DelayAre),procOf (procsF Go.Proofs.Tryz.prog (clOf t_law24_DelayAre) tb_law24_DelayAre Go.Proofs.Tryz.f9 c_law24_DelayAre (toForms sg_law24_DelayAre (l,()))) (S_law24_DelayAre l j).1 L (S_law24_DelayAre l j).2=(T_law24_DelayAre l j).run (fun v=>some (R_law24_DelayAre v,tps (toForms sg_law24_DelayAre (l,())))) fun j=>L (S_law24_DelayAre l j).1 (S_law24_DelayAre l j).2 | L,.l5 i=>by kernel_rfl | L,.l20 k i=>by kernel_rfl
end
end Go.Ev
end

section
open Go Go.Ev
namespace Go.Ev
noncomputable section
end
end Go.Ev
end

section
open Go Go.Ev
namespace Go.Ev
noncomputable section
end
end Go.Ev
end

section
open Go Go.Ev
namespace Go.Ev
noncomputable section
end
end Go.Ev
end

section
open Go
namespace Go.Ev
theorem acc_facts {p:El T_api_Prog} (h:smallAll p=true) {i:Nat} (hi:i < (ofC p).length):
  0≤thA (ofC p) i∧thA (ofC p) i < (p.2.length:Int)∧flowOK (thrOf p (ofC p) i)=true∧0≤inA (ofC p) i∧inA (ofC p) i < ((thrOf p (ofC p) i).length:Int):=by
 have hA:=smallA h
 have hm:accA (ofC p) i∈ofC p:=by unfold accA;rw[getD_lt hi];exact List.getElem_mem hi
 obtain ⟨u,x,j,y,h1,h2,h3,h4,h5⟩:=acc_where hm
 have hth:thA (ofC p) i=(u:Int):=h4
 have hin:inA (ofC p) i=(j:Int):=h5
 have hu:=(List.getElem?_eq_some_iff.1 h1).1
 have hj:=(List.getElem?_eq_some_iff.1 h2).1
 have ht:thrOf p (ofC p) i=x:=by
  unfold thrOf
  rw[hth,Int.toNat_natCast,List.getD_eq_getElem?_getD,h1];rfl
 rw[ht]
 exact ⟨by omega,by omega,flow_small (hA.thr x (List.mem_of_getElem? h1)),by omega,by omega⟩
theorem acc_inj {p:El T_api_Prog} {i k:Nat} (hi:i < (ofC p).length) (hk:k < (ofC p).length) (e:accA (ofC p) i=accA (ofC p) k):i=k:=by
 have ho:=List.pairwise_iff_getElem.1 (ofC_ord p)
 have gi:accA (ofC p) i=(ofC p)[i]:=by unfold accA;rw[getD_lt hi]
 have gk:accA (ofC p) k=(ofC p)[k]:=by unfold accA;rw[getD_lt hk]
 have irr:∀a:El T_api_Access,¬ltAX a a:=fun a h=>by
  have:∀t k q:Int,¬ltNX t k q t k q:=fun t k q h=>by
   rcases h with h | ⟨_,h | ⟨_,h⟩⟩ <;> omega
  exact this _ _ _ h
 rw[gi,gk] at e
 by_cases h:i=k
 ·exact h
 ·exfalso
  by_cases hl:i < k
  ·have:=ho i k hi hk hl
   rw[e] at this
   exact irr _ this
  ·have:=ho k i hk hi (by omega)
   rw[←e] at this
   exact irr _ this
end Go.Ev
end

section
open Go
namespace Go.Ev
end Go.Ev
end

section
open Go Go.Ev
namespace Go.Ev
noncomputable section
end
end Go.Ev
end

section
open Go Go.Ev
namespace Go.Ev
noncomputable section
end
end Go.Ev
end

section
open Go
namespace Go.Ev
def stB' (l:List Acc) (s:Nat):Bool:=(accA l s).2.2.2.2.1&& ! (accA l s).2.2.2.2.2
def ldB' (l:List Acc) (s:Nat):Bool:=! (accA l s).2.2.2.2.1&& ! (accA l s).2.2.2.2.2
noncomputable def delB (p:El T_api_Prog) (l:List Acc) (s r:Nat):Bool:=((thA l r==thA l s)&&ldB' l r)&&(fromB (thrOf p l s) (inA l s) (inA l r).toNat&&backB p l r s)
def delPair (l:List Acc) (s r:Nat):El T_api_Pair:=(thA l s,(inA l s,inA l r))
noncomputable def delS (p:El T_api_Prog) (l:List Acc) (s:Nat):List (El T_api_Pair):=if stB' l s then ((List.range' 0 l.length).filter fun r=>delB p l s r).map (delPair l s) else []
noncomputable def delsFrom (p:El T_api_Prog) (l:List Acc) (s:Nat):List (El T_api_Pair):=(List.range' s (l.length - s)).flatMap (delS p l)
noncomputable def v_ref3_Delays (p:El T_api_Prog):List (El T_api_Pair):=delsFrom p (ofC p) 0
def k_ref3_Delays (p:El T_api_Prog):Bool:=smallAll p&&decide ((ofC p).length < 1000000)
theorem delS_len (p:El T_api_Prog) (l:List Acc) (s:Nat):(delS p l s).length≤l.length:=by
 unfold delS
 split
 ·rw[List.length_map]
  have:=List.length_filter_le (fun r=>delB p l s r) (List.range' 0 l.length)
  rw[List.length_range'] at this
  exact this
 ·exact Nat.zero_le _
end Go.Ev
end

section
open Go
namespace Go.Ev
theorem putAll_ok {n:Nat} (hn:n < 4611686018427387904) {B:Nat→Bool} :∀(xs:List Nat) (d:SetD) (M:Nat→Bool),(∀x∈xs,x < n)→SetOK d n M→SetOK (putAll d (xs.map Int.ofNat)) n fun k=>M k || xs.contains k
 | [],d,M,_,h=>h.congr' fun j=>by simp
 | x :: xs,d,M,hx,h=>by
  have h1:=(h.putO hn (hx x (by simp))).2
  have h2:=putAll_ok (B:=B) hn xs _ _ (fun y hy=>hx y (by simp[hy])) h1
  refine h2.congr' fun j=>?_
  rw[List.contains_cons,Bool.or_assoc]
theorem putAll_list {n:Nat} (hn:n < 4611686018427387904) {B:Nat→Bool} :SetOK (putAll ((n:Int),[]) (listOf n B)) n fun k=>decide (k < n)&&B k:=by
 have:=putAll_ok (B:=B) hn ((List.range n).filter B) ((n:Int),[]) _ (fun x hx=>List.mem_range.1 (List.mem_filter.1 hx).1) (SetOK.new n)
 refine this.congr' fun j=>?_
 rw[Bool.false_or,Bool.eq_iff_iff,List.contains_iff_mem,List.mem_filter,List.mem_range,Bool.and_eq_true,decide_eq_true_eq]
theorem new_eq {n:Nat} (hn:n < 4611686018427387904):v_bits_New (Int.ofNat n)=((n:Int),[]):=by
 unfold v_bits_New
 simp
 omega
section
variable {p:El T_api_Prog}
theorem back_ok (hk:k_delay_Pairs p=true) {r:Nat} (hr:r < (ofC p).length):SetOK (dBack p (ofC p) (r:Int)) (ofC p).length fun k=>decide (k < (ofC p).length)&&backB p (ofC p) r k:=by
 obtain ⟨hs,hd⟩:=delayOK hk
 have hn:(ofC p).length < 4611686018427387904:=Nat.lt_trans hd.len (by decide)
 unfold dBack
 rw[new_eq hn]
 unfold v_clash_Back
 rw[if_pos ⟨Int.natCast_nonneg r,Int.ofNat_lt.2 hr⟩,Int.toNat_natCast]
 exact putAll_list hn
theorem hit_eq (hk:k_delay_Pairs p=true) {s r:Nat} (hs:s < (ofC p).length) (hr:r < (ofC p).length) (ht:thA (ofC p) r=thA (ofC p) s):
  hitP p (ofC p) (s:Int) (frS p (ofC p) (thA (ofC p) s) (s:Int)) (r:Int)=(fromB (thrOf p (ofC p) s) (inA (ofC p) s) (inA (ofC p) r).toNat&&backB p (ofC p) r s):=by
 obtain ⟨hsm,hd⟩:=delayOK hk
 have hn:(ofC p).length < 4611686018427387904:=Nat.lt_trans hd.len (by decide)
 obtain ⟨t0,t1,hf,i0,i1⟩:=acc_facts hsm hs
 obtain ⟨_,_,_,j0,j1⟩:=acc_facts hsm hr
 have et:thrOf p (ofC p) r=thrOf p (ofC p) s:=by unfold thrOf;rw[ht]
 rw[et] at j1
 have hlen:(thrOf p (ofC p) s).length < 4611686018427387904:=Nat.lt_trans (flowOK_len hf) (by decide)
 have e1:frS p (ofC p) (thA (ofC p) s) (s:Int)=putAll (((thrOf p (ofC p) s).length:Int),[]) (listOf (thrOf p (ofC p) s).length (fromB (thrOf p (ofC p) s) (inA (ofC p) s))):=by
  unfold frS
  rw[show insP p (thA (ofC p) s)=thrOf p (ofC p) s from rfl,new_eq hlen]
  rfl
 have h1:=putAll_list hlen (B:=fromB (thrOf p (ofC p) s) (inA (ofC p) s))
 rw[←e1] at h1
 have h2:=back_ok hk hr
 have e2:∀(x:SetD) (i:Int),(v_bits_Set_Has x i).1=hasS x i:=fun _ _=>rfl
 have g1:(v_bits_Set_Has (frS p (ofC p) (thA (ofC p) s) (s:Int)) (inA (ofC p) r)).1=fromB (thrOf p (ofC p) s) (inA (ofC p) s) (inA (ofC p) r).toNat:=by
  rw[e2,h1.has hlen,decide_eq_true j0,decide_eq_true (show (inA (ofC p) r).toNat < (thrOf p (ofC p) s).length by omega),Bool.true_and,Bool.true_and]
 have g2:(v_bits_Set_Has (dBack p (ofC p) (r:Int)) (s:Int)).1=backB p (ofC p) r s:=by
  rw[e2,h2.has hn,decide_eq_true (Int.natCast_nonneg s),Int.toNat_natCast,decide_eq_true hs,Bool.true_and,Bool.true_and]
 unfold hitP
 rw[g2]
 have:(v_bits_Set_Has (frS p (ofC p) (thA (ofC p) s) (s:Int)) (List.getD (ofC p) (Int.toNat (r:Int)) (dflt T_api_Access)).2.1).1=fromB (thrOf p (ofC p) s) (inA (ofC p) s) (inA (ofC p) r).toNat:=by
  rw[Int.toNat_natCast]
  exact g1
 rw[this]
end
theorem flatMap_eqX {α β:Type} {f g:α→List β} {l:List α} (h:∀x∈l,f x=g x):l.flatMap f=l.flatMap g:=by
 rw[List.flatMap_def,List.flatMap_def,List.map_congr_left h]
theorem by_key {α β:Type} {key:α→Nat} {D:α→List β} :∀(T:Nat) (L:List α),L.Pairwise (fun a b=>key a≤key b)→(∀x∈L,key x < T)→((List.range T).flatMap fun t=>(L.filter fun x=>key x==t).flatMap D)=L.flatMap D
 | 0,L,_,h=>by
  cases L with
  | nil=>rfl
  | cons x L=>exact absurd (h x (by simp)) (Nat.not_lt_zero _)
 | T+1,L,hp,h=>by
  have split:∀L:List α,L.Pairwise (fun a b=>key a≤key b)→(∀x∈L,key x < T+1)→L=(L.filter fun x=>decide (key x < T))++L.filter fun x=>key x==T:=by
   intro L
   induction L with
   | nil=>intros;rfl
   | cons x L ih=>
    intro hp h
    obtain ⟨p1,p2⟩:=List.pairwise_cons.1 hp
    have ih:=ih p2 fun y hy=>h y (by simp[hy])
    by_cases hx:key x < T
    ·have hx':(key x==T)=false:=by rw[beq_eq_false_iff_ne];omega
     rw[List.filter_cons_of_pos (by simpa using hx),List.filter_cons_of_neg (by rw[hx'];exact Bool.false_ne_true),List.cons_append,←ih]
    ·have hk:key x=T:=by have:=h x (by simp);omega
     have hnone:L.filter (fun x=>decide (key x < T))=[]:=List.filter_eq_nil_iff.2 fun y hy=>by have:=p1 y hy;simp;omega
     rw[List.filter_cons_of_neg (by simpa using hx),List.filter_cons_of_pos (by simpa using hk),hnone,List.nil_append]
     rw[hnone,List.nil_append] at ih
     rw[←ih]
  have e:=split L hp h
  rw[List.range_succ,List.flatMap_append]
  have h1:((List.range T).flatMap fun t=>(L.filter fun x=>key x==t).flatMap D)=(L.filter fun x=>decide (key x < T)).flatMap D:=by
   rw[←by_key T (L.filter fun x=>decide (key x < T)) (hp.sublist List.filter_sublist) fun x hx=>by simpa using (List.mem_filter.1 hx).2]
   refine flatMap_eqX fun t ht=>?_
   rw[List.filter_filter]
   congr 1
   refine List.filter_congr fun x hx=>?_
   have:=List.mem_range.1 ht
   by_cases hk:key x=t
   ·simp[hk,this]
   ·simp[hk]
  rw[h1]
  simp only[List.flatMap_cons,List.flatMap_nil,List.append_nil]
  rw[←List.flatMap_append,←e]
theorem flat_if {α β γ:Type} {g:β→List γ} {f:α→β} {P H:α→Bool} {q:α→γ} :∀(l:List α),(∀x∈l,P x=true→g (f x)=if H x=true then [q x] else [])→((l.filter P).map f).flatMap g=(l.filter fun x=>P x&&H x).map q
 | [],_=>rfl
 | x :: l,h=>by
  have ih:=flat_if l fun y hy=>h y (by simp[hy])
  cases hP:P x with
  | false=>rw[List.filter_cons_of_neg (by simp[hP]),List.filter_cons_of_neg (by simp[hP]),ih]
  | true=>
   rw[List.filter_cons_of_pos hP,List.map_cons,List.flatMap_cons,h x (by simp) hP,ih]
   cases hH:H x with
   | false=>rw[List.filter_cons_of_neg (by simp[hP,hH])];simp
   | true=>rw[List.filter_cons_of_pos (by simp[hP,hH])];simp
theorem flat_filter {α β:Type} {P:α→Bool} {D:α→List β} :∀(l:List α),(l.flatMap fun x=>if P x=true then D x else [])=(l.filter P).flatMap D
 | []=>rfl
 | x :: l=>by
  cases hP:P x with
  | false=>rw[List.filter_cons_of_neg (by simp[hP]),List.flatMap_cons,flat_filter l];simp[hP]
  | true=>rw[List.filter_cons_of_pos hP,List.flatMap_cons,List.flatMap_cons,flat_filter l];simp[hP]
theorem key_le {p:El T_api_Prog} {a b:Nat} (ha:a < (ofC p).length) (hb:b < (ofC p).length) (h:a < b):thA (ofC p) a≤thA (ofC p) b:=by
 have ho:=List.pairwise_iff_getElem.1 (ofC_ord p) a b ha hb h
 have ga:accA (ofC p) a=(ofC p)[a]:=by unfold accA;rw[getD_lt ha]
 have gb:accA (ofC p) b=(ofC p)[b]:=by unfold accA;rw[getD_lt hb]
 rw[←ga,←gb] at ho
 have:∀t k q t' k' q':Int,ltNX t k q t' k' q'→t≤t':=fun t k q t' k' q' h=>by
  rcases h with h | ⟨h,_⟩ <;> omega
 exact this _ _ _ _ _ _ ho
theorem delays_eq {p:El T_api_Prog} (hk:k_delay_Pairs p=true):v_delay_Pairs p=v_ref3_Delays p:=by
 obtain ⟨hsm,hd⟩:=delayOK hk
 have facts:=fun i=>acc_facts (i:=i) hsm
 have hits:=fun s r=>hit_eq (s:=s) (r:=r) hk
 have keys:=fun a b=>key_le (p:=p) (a:=a) (b:=b)
 unfold v_delay_Pairs v_ref3_Delays delsFrom outN
 generalize ofC p=l at facts hits keys
 rw[Nat.sub_zero,←List.range_eq_range']
 have hD:∀s,delS p l s=if stB' l s=true then ((List.range l.length).filter fun r=>delB p l s r).map (delPair l s) else []:=fun s=>by
  unfold delS
  rw[←List.range_eq_range']
 rw[flatMap_eqX fun s _=>hD s,flat_filter]
 refine Eq.trans ?_ (by_key (key:=fun s=>(thA l s).toNat) p.2.length ((List.range l.length).filter fun s=>stB' l s) ?_ ?_)
 ·refine flatMap_eqX fun t ht=>?_
  have ht:=List.mem_range.1 ht
  rw[List.filter_filter]
  unfold outT v_delay_plain listOf
  rw[List.flatMap_map]
  have hf:(List.range l.length).filter (plB l (t:Int) true)=(List.range l.length).filter fun s=>((thA l s).toNat==t)&&stB' l s:=by
   refine List.filter_congr fun s hs=>?_
   obtain ⟨t0,_⟩:=facts s (List.mem_range.1 hs)
   unfold plB stB'
   rw[Bool.and_assoc]
   have e:(((List.getD l s (dflt T_api_Access)).1:Int)==(t:Int))=((thA l s).toNat==t):=by
    show (thA l s==(t:Int))=_
    rw[Bool.eq_iff_iff,beq_iff_eq,beq_iff_eq]
    omega
   have e2:((List.getD l s (dflt T_api_Access)).2.2.2.2.1==true)=(accA l s).2.2.2.2.1:=by
    show ((accA l s).2.2.2.2.1==true)=_
    cases (accA l s).2.2.2.2.1 <;> rfl
   rw[e2]
   exact congrArg (· &&_) e
  rw[hf]
  refine flatMap_eqX fun s hs=>?_
  obtain ⟨hs1,hs2⟩:=List.mem_filter.1 hs
  have hsN:=List.mem_range.1 hs1
  rw[Bool.and_eq_true,beq_iff_eq] at hs2
  obtain ⟨t0,_⟩:=facts s hsN
  have hth:thA l s=(t:Int):=by have:=hs2.1;omega
  unfold outS v_delay_plain listOf
  rw[flat_if (H:=fun r=>fromB (thrOf p l s) (inA l s) (inA l r).toNat&&backB p l r s) (q:=delPair l s)]
  ·congr 1
   refine List.filter_congr fun r hr=>?_
   unfold plB delB ldB'
   have e1:(((List.getD l r (dflt T_api_Access)).1:Int)==(t:Int))=(thA l r==thA l s):=by rw[hth];rfl
   have e2:((List.getD l r (dflt T_api_Access)).2.2.2.2.1==false)=! (accA l r).2.2.2.2.1:=by
    show ((accA l r).2.2.2.2.1==false)=_
    cases (accA l r).2.2.2.2.1 <;> rfl
   rw[e2,←Bool.and_assoc (thA l r==thA l s)]
   exact congrArg (fun x=>x&&_&&_&&_) e1
  ·intro r hr hP
   have hrN:=List.mem_range.1 hr
   unfold plB at hP
   rw[Bool.and_eq_true,Bool.and_eq_true] at hP
   have hth2:thA l r=(t:Int):=by have:=hP.1.1;exact eq_of_beq this
   have:=hits s r hsN hrN (hth2.trans hth.symm)
   rw[hth] at this
   show oneP p l (t:Int) (s:Int) (frS p l (t:Int) (s:Int)) (r:Int)=_
   unfold oneP
   rw[this]
   unfold delPair
   rw[hth]
   rfl
 ·refine List.Pairwise.filter _ ?_
  refine List.pairwise_lt_range.imp_of_mem fun {a b} ha hb h=>?_
  have:=keys a b (List.mem_range.1 ha) (List.mem_range.1 hb) h
  omega
 ·intro s hs
  obtain ⟨t0,t1,_⟩:=facts s (List.mem_range.1 (List.mem_filter.1 hs).1)
  omega
end Go.Ev
end

section
namespace Go.Ev
open Go
theorem setL_right (i:El T_api_Ins) (ls:List ByteArray):v_ins_Right (setL i ls)=v_ins_Right i:=rfl
theorem setL_to (i:El T_api_Ins) (ls:List ByteArray):(setL i ls).2.2.2.2.2.1=i.2.2.2.2.2.1:=rfl
theorem place_book {th:List (List (El T_api_Ins))} {k r s n:Int} (h:k=3∨k=4→placeOK k s n=true):placeC (symsB,th) (k,(r,(s,n)))=0:=by
 show placeN 3 _ k s n=0
 unfold placeN
 by_cases hk:k=3∨k=4
 ·rw[if_pos hk]
  have:=h hk
  unfold placeOK at this
  simp only[Bool.and_eq_true,decide_eq_true_eq,Bool.or_eq_true,beq_iff_eq] at this
  obtain ⟨h0,h3,hn⟩:=this
  rw[if_neg (by omega)]
  have hs:s=0∨s=1∨s=2:=by omega
  rcases hs with rfl | rfl | rfl
  ·rw[if_neg]
   rintro ⟨h1,h2⟩
   have h2:(1:Int)≤n:=h2
   rcases hn with hn | hn
   ·omega
   ·have hn:n < (1:Int):=hn
    omega
  ·rw[if_neg]
   rintro ⟨h1,h2⟩
   have h2:(2:Int)≤n:=h2
   rcases hn with hn | hn
   ·omega
   ·have hn:n < (2:Int):=hn
    omega
  ·rw[if_neg]
   rintro ⟨h1,h2⟩
   have h2:(1:Int)≤n:=h2
   rcases hn with hn | hn
   ·omega
   ·have hn:n < (1:Int):=hn
    omega
 ·rw[if_neg hk]
theorem insC_book {th:List (List (El T_api_Ins))} {many:Int} {i:El T_api_Ins} (h:BookOK many i) (ls:List ByteArray):insC (symsB,th) (setL i ls)=0:=by
 have hA:placeC (symsB,th) i.2.2.2.1=0:=place_book (k:=i.2.2.2.1.1) (r:=i.2.2.2.1.2.1) (s:=i.2.2.2.1.2.2.1) (n:=i.2.2.2.1.2.2.2) h.placeA
 have hB:placeC (symsB,th) i.2.2.2.2.1=0:=place_book (k:=i.2.2.2.2.1.1) (r:=i.2.2.2.2.1.2.1) (s:=i.2.2.2.2.1.2.2.1) (n:=i.2.2.2.2.1.2.2.2) h.placeB
 unfold insC
 rw[setL_right,h.right]
 show (if (0:Int)≠0 then _ else if placeC (symsB,th) i.2.2.2.1≠0 then _ else placeC (symsB,th) i.2.2.2.2.1)=0
 rw[hA,hB]
 rfl
theorem scanI_lab {p:El T_api_Prog} {K:List ByteArray→Int} :∀(x:List (El T_api_Ins)) (k:Nat) (seen:List ByteArray),
  (∀(j:Nat) (i:El T_api_Ins),x[j]? =some i→(i.2.2.2.2.2.2=[]∨i.2.2.2.2.2.2=[v_book_label ((k+j:Nat):Int)])∧insC p i=0)→(∀l∈seen,∃k',k' < k∧l=v_book_label (k':Int))→k+x.length≤100→scanI p K seen x=K (seen++labels x)
 | [],k,seen,_,_,_=>by simp[scanI,labels]
 | i :: r,k,seen,h,hs,hk=>by
  obtain ⟨hl,hi⟩:=h 0 i rfl
  rw[List.length_cons] at hk
  have hr:=fun seen' hs'=>scanI_lab (K:=K) r (k+1) seen' (fun j y hy=>by
   have:=h (j+1) y (by simpa using hy)
   rwa[show k+(j+1)=k+1+j by omega] at this) hs' (by omega)
  unfold scanI
  rcases hl with hl | hl
  ·rw[hl]
   unfold scanL
   rw[hi]
   simp only[ne_eq,not_true_eq_false,if_false]
   rw[hr seen fun l hl=>by obtain ⟨k',h1,h2⟩:=hs l hl;exact ⟨k',by omega,h2⟩]
   unfold labels
   rw[List.flatMap_cons,hl,List.nil_append]
  ·rw[hl,Nat.add_zero]
   unfold scanL
   rw[if_neg (by rw[(label_right (k:=(k:Int)) (by omega) (by omega)).1];decide)]
   have hns:seen.contains (v_book_label (k:Int))=false:=by
    rw[Bool.eq_false_iff]
    intro hc
    rw[List.contains_iff_mem] at hc
    obtain ⟨k',h1,h2⟩:=hs _ hc
    have:=label_inj (by omega) (by omega) h2
    omega
   rw[if_neg (by rw[hns];decide)]
   unfold scanL
   rw[hi]
   simp only[ne_eq,not_true_eq_false,if_false]
   rw[hr _ fun l hl=>by
    rcases List.mem_append.1 hl with hl | hl
    ·obtain ⟨k',h1,h2⟩:=hs l hl;exact ⟨k',by omega,h2⟩
    ·rw[List.mem_singleton] at hl;exact ⟨k,by omega,hl⟩]
   unfold labels
   rw[List.flatMap_cons,hl,Nat.add_zero,List.append_assoc]
theorem jumpC_lab {seen:List ByteArray} :∀ {x:List (El T_api_Ins)},(∀i∈x,((i.1==(10:Int)) || (i.1==(11:Int)))=true→seen.contains i.2.2.2.2.2.1=true)→jumpC seen x=0
 | [],_=>rfl
 | i :: r,h=>by
  unfold jumpC
  have ih:=jumpC_lab fun j hj=>h j (List.mem_cons_of_mem _ hj)
  by_cases hj:((i.1==(10:Int)) || (i.1==(11:Int)))=true
  ·rw[if_pos hj,if_pos (h i (List.mem_cons_self ..) hj)];exact ih
  ·rw[if_neg hj];exact ih
theorem threadB_get {a:List (El T_book_Act)} {n:Nat} (hn:n≤90) (ha:n≤a.length) {k:Nat} {i:El T_api_Ins} (h:(threadB a n)[k]? =some i):
  (k < n∧∃x,(baseT a n)[k]? =some x∧BookOK ((n+1:Nat):Int) x∧i=setL x (if sAt (baseT a n) n k then [v_book_label (k:Int)] else []))∨(k=n∧i=setL (bare 14) (if sAt (baseT a n) n k then [v_book_label (k:Int)] else [])):=by
 have hl:=baseT_len a n ha
 obtain ⟨hk,he⟩:=List.getElem?_eq_some_iff.1 h
 unfold threadB at hk he
 rw[withL_get hk] at he
 rw[withL_len,hl] at hk
 by_cases hkn:k < n
 ·obtain ⟨x,h1,h2⟩:=baseT_book hn hkn ha
  obtain ⟨h3,h4⟩:=List.getElem?_eq_some_iff.1 h1
  rw[h4] at he
  exact .inl ⟨hkn,_,h1,h2,he.symm⟩
 ·have hkn:k=n:=by omega
  subst hkn
  have:(baseT a k)[k]'(by omega)=bare 14:=by
   unfold baseT
   rw[List.getElem_append_right (by simp;omega)]
   simp
  rw[this] at he
  exact .inr ⟨rfl,he.symm⟩
theorem bare14_book (many:Int) (ls:List ByteArray) {th:List (List (El T_api_Ins))} :insC (symsB,th) (setL (bare 14) ls)=0:=by
 unfold insC
 rw[setL_right,bare_right (.inr (.inr rfl))]
 rfl
theorem labels_get {x:List (El T_api_Ins)} {k:Nat} {i:El T_api_Ins} {l:ByteArray} (h:x[k]? =some i) (hl:l∈i.2.2.2.2.2.2):(labels x).contains l=true:=by
 rw[List.contains_iff_mem]
 unfold labels
 exact List.mem_flatMap.2 ⟨i,List.mem_of_getElem? h,hl⟩
theorem threadC_book {a:List (El T_book_Act)} {n:Nat} (hn:n≤90) (ha:n≤a.length) {th:List (List (El T_api_Ins))} :threadC (symsB,th) (threadB a n)=0:=by
 have hlen:(threadB a n).length=n+1:=by unfold threadB;rw[withL_len,baseT_len a n ha]
 unfold threadC
 have hc:=countM_le (threadB a n)
 rw[if_neg (by omega),scanI_lab (threadB a n) 0 [] (fun j i h=>by
  rw[Nat.zero_add]
  rcases threadB_get hn ha h with ⟨_,x,_,hx,rfl⟩ | ⟨_,rfl⟩
  ·refine ⟨?_,insC_book hx _⟩
   show (if _ then [v_book_label (j:Int)] else [])=[]∨(if _ then [v_book_label (j:Int)] else [])=[v_book_label (j:Int)]
   split
   ·exact .inr rfl
   ·exact .inl rfl
  ·refine ⟨?_,bare14_book 0 _⟩
   show (if _ then [v_book_label (j:Int)] else [])=[]∨(if _ then [v_book_label (j:Int)] else [])=[v_book_label (j:Int)]
   split
   ·exact .inr rfl
   ·exact .inl rfl) (fun l hl=>by cases hl) (by omega)]
 rw[List.nil_append,endC_eq (by omega)]
 have hlast:(threadB a n)[(threadB a n).length - 1]? =some ((threadB a n)[(threadB a n).length - 1]'(by omega)):=List.getElem?_eq_getElem (by omega)
 have h14:(((threadB a n)[(threadB a n).length - 1]'(by omega)).1==(10:Int) || ((threadB a n)[(threadB a n).length - 1]'(by omega)).1==(14:Int))=true:=by
  rcases threadB_get hn ha hlast with ⟨h1,_⟩ | ⟨_,h2⟩
  ·omega
  ·rw[h2];rfl
 rw[if_pos h14]
 refine jumpC_lab fun i hi hj=>?_
 obtain ⟨k,hk⟩:=List.getElem?_of_mem hi
 rcases threadB_get hn ha hk with ⟨hkn,x,hx,hb,rfl⟩ | ⟨_,rfl⟩
 ·rw[setL_to]
  rcases hb.to with ⟨h1,h2,_⟩ | ⟨_,m,m0,m1,e⟩
  ·exfalso
   have hj:((x.1==(10:Int)) || (x.1==(11:Int)))=true:=hj
   simp only[Bool.or_eq_true,beq_iff_eq] at hj
   rcases hj with hj | hj
   ·exact h1 hj
   ·exact h2 hj
  ·rw[e]
   obtain ⟨q,rfl⟩:∃q:Nat,m=(q:Int):=⟨m.toNat,by omega⟩
   have hqn:q < n+1:=by omega
   have hq:(threadB a n)[q]? =some ((threadB a n)[q]'(by omega)):=List.getElem?_eq_getElem (by omega)
   have hs:sAt (baseT a n) n q=true:=by
    unfold sAt
    rw[List.any_eq_true]
    exact ⟨x,List.mem_of_getElem? (i:=k) (by rw[List.getElem?_take,if_pos hkn];exact hx),decide_eq_true e⟩
   refine labels_get hq ?_
   rcases threadB_get hn ha hq with ⟨_,y,_,_,h2⟩ | ⟨_,h2⟩
   ·rw[h2,hs];exact List.mem_singleton.2 rfl
   ·rw[h2,hs];exact List.mem_singleton.2 rfl
 ·cases hj
theorem small_book {a:List (El T_book_Act)} {n:Nat} (hn:n≤90) (ha:n≤a.length):smallThread (threadB a n)=true:=by
 have hlen:(threadB a n).length=n+1:=by unfold threadB;rw[withL_len,baseT_len a n ha]
 have hlab:∀i∈threadB a n,smallText i.2.2.2.2.2.1=true∧i.2.2.2.2.2.2.length≤1∧∀l∈i.2.2.2.2.2.2,smallText l=true:=fun i hi=>by
  obtain ⟨k,hk⟩:=List.getElem?_of_mem hi
  have hkl:=(List.getElem?_eq_some_iff.1 hk).1
  have hls:∀b:Bool,(if b=true then [v_book_label (k:Int)] else []).length≤1∧∀l∈(if b=true then [v_book_label (k:Int)] else []),smallText l=true:=fun b=>by
   cases b with
   | false=>exact ⟨by simp,fun l hl=>by simp at hl⟩
   | true=>exact ⟨by simp,fun l hl=>by
     rw[if_pos rfl,List.mem_singleton] at hl
     rw[hl];exact (label_right (by omega) (by omega)).2⟩
  rcases threadB_get hn ha hk with ⟨hkn,x,hx,hb,rfl⟩ | ⟨_,rfl⟩
  ·exact ⟨hb.small (by omega),hls _⟩
  ·exact ⟨(by decide:smallText (bs [])=true),hls _⟩
 have:=labels_le (t:=threadB a n) (n:=1) fun i hi=>(hlab i hi).2.1
 unfold smallThread
 simp only[Bool.and_eq_true,decide_eq_true_eq,List.all_eq_true]
 exact ⟨by omega,by omega,fun i hi=>⟨(hlab i hi).1,(hlab i hi).2.2⟩⟩
theorem symsC_book (K:Int):symsC K [] symsB=K:=by kernel_rfl
theorem thsC_zero {p:El T_api_Prog} :∀ {th:List (List (El T_api_Ins))},(∀t∈th,threadC p t=0)→thsC p th=0
 | [],_=>rfl
 | t :: r,h=>by
  unfold thsC
  rw[h t (List.mem_cons_self ..)]
  simp only[ne_eq,not_true_eq_false,if_false]
  exact thsC_zero fun x hx=>h x (List.mem_cons_of_mem _ hx)
theorem book_valid (l:List (List (El T_book_Act))) {threads many:Int} (h0:0≤threads) (h1:threads≤64) (m0:0≤many) (m1:many≤90):checkC (v_book_Prog l threads many)=0∧smallProg (v_book_Prog l threads many)=true∧k_book_Prog l threads many=true:=by
 refine ⟨?_,?_,?_⟩
 ·unfold checkC v_book_Prog
  show (if 64 < symsB.length∨64 < ((l.take threads.toNat).map fun a=>threadB a (min a.length many.toNat)).length then (10:Int) else symsC (thsC _ ((l.take threads.toNat).map fun a=>threadB a (min a.length many.toNat))) [] symsB)=0
  rw[if_neg,symsC_book]
  ·exact thsC_zero fun t ht=>by
    obtain ⟨a,_,rfl⟩:=List.mem_map.1 ht
    exact threadC_book (by omega) (by omega)
  ·rw[List.length_map,List.length_take]
   have:symsB.length=3:=rfl
   omega
 ·unfold smallProg v_book_Prog
  simp only[Bool.and_eq_true,List.all_eq_true]
  refine ⟨?_,fun t ht=>?_⟩
  ·have:symsB.all (fun s=>smallText s.1)=true:=by decide+kernel
   rw[List.all_eq_true] at this
   exact this
  ·obtain ⟨a,_,rfl⟩:=List.mem_map.1 ht
   exact small_book (by omega) (by omega)
 ·unfold k_book_Prog
  simp only[Bool.and_eq_true,decide_eq_true_eq]
  omega
end Go.Ev
end

section
open Go
namespace Go.Ev
end Go.Ev
end

section
open Go Go.Ev
namespace Go.Ev
noncomputable section
end
end Go.Ev
end

section
open Go
namespace Go.Ev
def v_book_SameInts (a b:List Int):Bool:=decide (a=b)
def k_book_SameInts (a b:List Int):Bool:=decide (a.length < 4611686018427387904)
end Go.Ev
end

section
open Go
namespace Go.Ev
theorem listOf_le {n:Nat} {M:Nat→Bool} :(listOf n M).length≤n:=by rw[listOf_length];exact card_le
theorem listOf_contains {n:Nat} {M:Nat→Bool} {x:Int} :(listOf n M).contains x=(decide (0≤x∧x < (n:Int))&&M x.toNat):=by
 rw[Bool.eq_iff_iff,List.contains_iff_mem,listOf_mem]
 simp only[Bool.and_eq_true,decide_eq_true_eq]
 constructor
 ·rintro ⟨i,h1,h2,rfl⟩;exact ⟨by omega,by rw[Int.toNat_natCast];exact h2⟩
 ·rintro ⟨h1,h2⟩;exact ⟨x.toNat,by omega,h2,by omega⟩
theorem same_self {l:List Int} (h:l.length < 1099511627776):k_book_SameInts l l=true∧v_book_SameInts l l=true:=⟨decide_eq_true (by omega),decide_eq_true rfl⟩
theorem ends_road {t:List (El T_api_Ins)} {points:List Int} (h:flowOK t=true) (hp:points.length < 4611686018427387904) (s:Int):
  k_road_Ends t points s=true∧k_book_SameInts (v_road_Ends t points s) (v_road_Ends t points s)=true∧v_book_SameInts (v_road_Ends t points s) (v_road_Ends t points s)=true:=by
 have k1:k_road_Ends t points s=true:=by unfold k_road_Ends;rw[h,decide_eq_true hp];rfl
 have hl:=flowOK_len h
 exact ⟨k1,same_self (by unfold v_road_Ends;have:= @listOf_le t.length (endsB t points s);omega)⟩
theorem free_road {t:List (El T_api_Ins)} {points:List Int} (h:flowOK t=true) (hp:points.length < 4611686018427387904) (s l:Int):
  k_road_Free t points s l=true∧v_road_Free t points s l=(decide (0≤l∧l < (t.length:Int))&&endsB t points s l.toNat):=by
 obtain ⟨k1,_⟩:=ends_road h hp s
 have hl:=flowOK_len h
 have ki:k_slices_Index___int_int_ (v_road_Ends t points s) l=true:=decide_eq_true (by unfold v_road_Ends;have:= @listOf_le t.length (endsB t points s);omega)
 have vr:v_road_Free t points s l=(decide (0≤l∧l < (t.length:Int))&&endsB t points s l.toNat):=by
  unfold v_road_Free k_slices_Contains___int_int_ v_slices_Contains___int_int_
  rw[k1,ki]
  simp only[cond_true]
  unfold v_slices_Index___int_int_
  rw[indexI_ge]
  unfold v_road_Ends
  exact listOf_contains
 refine ⟨?_,vr⟩
 unfold k_road_Free k_slices_Contains___int_int_;rw[k1,ki];rfl
end Go.Ev
end

section
open Go Go.Ev
namespace Go.Ev
noncomputable section
end
end Go.Ev
end

section
open Go Go.Ev
namespace Go.Ev
noncomputable section
end
end Go.Ev
end

section
open Go
namespace Go.Ev
end Go.Ev
end

section
open Go
namespace Go.Ev
noncomputable def v_ref3_ends (t:List (El T_api_Ins)) (points:List Int) (s:Int):List Bool:=rowOf t.length (endsB t points s)
def k_ref3_ends (t:List (El T_api_Ins)) (points:List Int) (s:Int):Bool:=flowOK t&&decide (points.length < 4611686018427387904)
end Go.Ev
end

section
namespace Go.Ev
open Go
theorem listFrom_rowX (M:Nat→Bool):∀n k:Nat,listFrom k ((List.range' k n).map M)=((List.range' k n).filter M).map Int.ofNat
 | 0,k=>rfl
 | n+1,k=>by
  rw[List.range'_succ,List.map_cons,List.filter_cons]
  unfold listFrom
  rw[listFrom_rowX M n (k+1)]
  cases M k <;> simp
theorem list_rowX {n:Nat} {M:Nat→Bool} :listFrom 0 (rowOf n M)=listOf n M:=by
 have:=listFrom_rowX M n 0
 unfold rowOf listOf
 rw[List.range_eq_range']
 exact this
theorem listOf_leX {n:Nat} {M:Nat→Bool} :(listOf n M).length≤n:=by rw[listOf_length];exact card_le
end Go.Ev
end

section
open Go Go.Ev
namespace Go.Ev
noncomputable section
end
end Go.Ev
end

section
open Go Go.Ev
namespace Go.Ev
noncomputable section
def v_ref3_Free (t:List (El T_api_Ins)) (points:List Int) (s:Int) (l:Int):Bool:=bif (decide (l≥(0:Int))) then bif (decide (l < (Int.ofNat (List.length t)))) then bif (k_ref3_ends t points s) then bif ((decide ((0:Int)≤l))&&(decide (l < (Int.ofNat (List.length (v_ref3_ends t points s)))))) then (List.getD (v_ref3_ends t points s) (Int.toNat l) (dflt .bool)) else false else false else false else false
def k_ref3_Free (t:List (El T_api_Ins)) (points:List Int) (s:Int) (l:Int):Bool:=bif (decide (l≥(0:Int))) then bif (decide (l < (Int.ofNat (List.length t)))) then bif (k_ref3_ends t points s) then bif ((decide ((0:Int)≤l))&&(decide (l < (Int.ofNat (List.length (v_ref3_ends t points s)))))) then true else false else false else true else true
end
end Go.Ev
end

section
open Go
namespace Go.Ev
theorem free_eqO {t:List (El T_api_Ins)} {points:List Int} (h:flowOK t=true) (hp:points.length < 4611686018427387904) (s l:Int):
  k_road_Free t points s l=true∧k_ref3_Free t points s l=true∧v_ref3_Free t points s l=v_road_Free t points s l∧v_road_Free t points s l=(decide (0≤l∧l < (t.length:Int))&&endsB t points s l.toNat):=by
 have hl:=flowOK_len h
 have k4:k_ref3_ends t points s=true:=by unfold k_ref3_ends;rw[h,decide_eq_true hp];rfl
 obtain ⟨kr,vr⟩:=free_road h hp s l
 refine ⟨kr,?_,?_,vr⟩
 ·unfold k_ref3_Free
  by_cases h0:l≥0
  ·rw[decide_eq_true h0,cond_true]
   by_cases h1:l < Int.ofNat t.length
   ·have h2:decide (l < Int.ofNat (v_ref3_ends t points s).length)=true:=by
     unfold v_ref3_ends
     rw[rowOf_length];exact decide_eq_true h1
    simp only[decide_eq_true h1,k4,h2,Bool.and_self,Bool.true_and,cond_true]
   ·rw[decide_eq_false h1];rfl
  ·rw[decide_eq_false h0];rfl
 ·rw[vr]
  unfold v_ref3_Free
  by_cases h0:l≥0
  ·rw[decide_eq_true h0,cond_true]
   by_cases h1:l < Int.ofNat t.length
   ·have h2:decide (l < Int.ofNat (v_ref3_ends t points s).length)=true:=by
     unfold v_ref3_ends
     rw[rowOf_length];exact decide_eq_true h1
    simp only[decide_eq_true h1,k4,h2,Bool.and_self,Bool.true_and,cond_true]
    rw[decide_eq_true (show 0≤l∧l < (t.length:Int) from ⟨h0,h1⟩),Bool.true_and]
    unfold v_ref3_ends
    obtain ⟨j,rfl⟩:=Int.eq_ofNat_of_zero_le h0
    rw[Int.toNat_natCast,rowOf_getD (by have:(j:Int) < (t.length:Int):=h1;omega)]
   ·rw[decide_eq_false h1,decide_eq_false (show ¬(0≤l∧l < (t.length:Int)) from fun h=>h1 h.2)];rfl
  ·rw[decide_eq_false h0,decide_eq_false (show ¬(0≤l∧l < (t.length:Int)) from fun h=>h0 h.1)];rfl
end Go.Ev
end

section
open Go Go.Ev
namespace Go.Ev
noncomputable section
end
end Go.Ev
end

section
open Go Go.Ev
namespace Go.Ev
noncomputable section
end
end Go.Ev
end

section
open Go
namespace Go.Ev
noncomputable def openR (p:El T_api_Prog) (x:El T_api_Pair):Bool:=v_ref3_Free (List.getD p.2 (Int.toNat x.1) (dflt (.sl T_api_Ins))) [] x.2.1 x.2.2
noncomputable def openRK (p:El T_api_Prog) (x:El T_api_Pair):Bool:=(decide ((0:Int)≤x.1)&&decide (x.1 < Int.ofNat (List.length p.2)))&&k_ref3_Free (List.getD p.2 (Int.toNat x.1) (dflt (.sl T_api_Ins))) [] x.2.1 x.2.2
noncomputable def v_ref3_Open (p:El T_api_Prog):List (El T_api_Pair):=(v_ref3_Delays p).filter (openR p)
noncomputable def k_ref3_Open (p:El T_api_Prog):Bool:=k_ref3_Delays p&&(decide ((v_ref3_Delays p).length < 10000000000)&&(v_ref3_Delays p).all (openRK p))
end Go.Ev
end

section
open Go Go.Ev
namespace Go.Ev
noncomputable section
end
end Go.Ev
end

section
open Go
namespace Go.Ev
end Go.Ev
end

section
open Go
namespace Go.Ev
def fromX (t:List (El T_api_Ins)) (i:Int) (j:Nat):Bool:=(comeL (fun k j=>nextB t (k:Int) j) (nextB t i) t.length).getD j false
theorem fromX_eq (t:List (El T_api_Ins)) (i:Int) (j:Nat):fromB t i j=fromX t i j:=comeL_eq (fun j=>nextB_lt) (fun k j=>nextB_lt) j
def behX (p:El T_api_Prog) (l:List Acc) (c d:Nat):Bool:=
 decide (d < l.length)&&(thA l d==thA l c&&(d==c || ((inA l d==inA l c&&decide (paA l d > paA l c)) || (decide (0≤inA l d)&&fromX (thrOf p l c) (inA l c) (inA l d).toNat))))
theorem behX_eq (p:El T_api_Prog) (l:List Acc) (c d:Nat):behB p l c d=behX p l c d:=by
 unfold behB behX
 rw[fromX_eq]
def chX (p:El T_api_Prog) (l:List Acc) (a i k:Nat):Bool:=decide (k < l.length)&&(!(thA l k==thA l a)&&(clB l i k || behX p l i k))
def isX (p:El T_api_Prog) (l:List Acc) (a k:Nat):Bool:=(comeL (chX p l a) (chS l a) l.length).getD k false
theorem isX_eq (p:El T_api_Prog) (l:List Acc) (a k:Nat):isB p l a k=isX p l a k:=by
 have e:chB p l a=chX p l a:=by
  funext i k
  unfold chB chX
  rw[behX_eq]
 unfold isB isX
 rw[e]
 refine comeL_eq (fun j h=>?_) (fun k j h=>?_) k
 ·unfold chS at h
  rw[Bool.and_eq_true,decide_eq_true_eq] at h
  exact h.1
 ·unfold chX at h
  rw[Bool.and_eq_true,decide_eq_true_eq] at h
  exact h.1
def backX (p:El T_api_Prog) (l:List Acc) (a b:Nat):Bool:=thA l b==thA l a&&(List.range l.length).any fun k=>isX p l a k&&clB l k b
theorem backX_eq (p:El T_api_Prog) (l:List Acc) (a b:Nat):backB p l a b=backX p l a b:=by
 unfold backB backX
 simp only[isX_eq]
end Go.Ev
end

section
open Go
namespace Go.Ev
theorem dels_len (p:El T_api_Prog):(v_ref3_Delays p).length≤(ofC p).length*(ofC p).length:=by
 unfold v_ref3_Delays delsFrom
 have:=flat_len (delS_len p (ofC p)) (List.range' 0 ((ofC p).length - 0))
 rw[List.length_range',Nat.sub_zero] at this
 exact this
theorem dels_mem {p:El T_api_Prog} {x:El T_api_Pair} (h:x∈v_ref3_Delays p):∃s r,s < (ofC p).length∧r < (ofC p).length∧stB' (ofC p) s=true∧delB p (ofC p) s r=true∧x=delPair (ofC p) s r:=by
 unfold v_ref3_Delays delsFrom at h
 obtain ⟨s,hs,hx⟩:=List.mem_flatMap.1 h
 rw[Nat.sub_zero,←List.range_eq_range'] at hs
 unfold delS at hx
 split at hx
 ·rename_i hst
  obtain ⟨r,hr,rfl⟩:=List.mem_map.1 hx
  obtain ⟨hr1,hr2⟩:=List.mem_filter.1 hr
  rw[←List.range_eq_range'] at hr1
  exact ⟨s,r,List.mem_range.1 hs,List.mem_range.1 hr1,hst,hr2,rfl⟩
 ·cases hx
theorem open_fact {p:El T_api_Prog} (h:smallAll p=true) {x:El T_api_Pair} (hx:x∈v_ref3_Delays p):openK p x=true∧openRK p x=true∧openR p x=openB p x:=by
 obtain ⟨s,r,hs,hr,h1,h2,rfl⟩:=dels_mem hx
 obtain ⟨t0,t1,hf,i0,i1⟩:=acc_facts h hs
 have hf':flowOK (List.getD p.2 (Int.toNat (delPair (ofC p) s r).1) (dflt (.sl T_api_Ins)))=true:=hf
 obtain ⟨f1,f2,f3,_⟩:=free_eqO hf' (points:=[]) (by decide) (delPair (ofC p) s r).2.1 (delPair (ofC p) s r).2.2
 have hin:(decide ((0:Int)≤(delPair (ofC p) s r).1)&&decide ((delPair (ofC p) s r).1 < Int.ofNat (List.length p.2)))=true:=by
  rw[Bool.and_eq_true,decide_eq_true_eq,decide_eq_true_eq];exact ⟨t0,t1⟩
 unfold openK openRK openR openB
 rw[hin,f1,f2]
 exact ⟨rfl,rfl,f3⟩
theorem delays_all {p:El T_api_Prog} (h:smallAll p=true) (hN:(ofC p).length≤20000) (hT:p.2.length≤100):
  k_delay_Pairs p=true∧k_ref3_Delays p=true∧v_ref3_Delays p=v_delay_Pairs p∧k_book_SamePairs (v_delay_Pairs p) (v_delay_Pairs p)=true∧k_delay_Open p=true∧k_ref3_Open p=true∧v_ref3_Open p=v_delay_Open p∧k_book_SamePairs (v_delay_Open p) (v_delay_Open p)=true:=by
 have hNN:(ofC p).length*(ofC p).length≤20000*20000:=Nat.mul_le_mul hN hN
 have hTN:p.2.length*((ofC p).length*(ofC p).length)≤100*(20000*20000):=Nat.mul_le_mul hT hNN
 have k1:k_delay_Pairs p=true:=by
  unfold k_delay_Pairs
  rw[h,decide_eq_true (show (ofC p).length < 1000000000 by omega),decide_eq_true (show p.2.length < 1000000000 by omega),decide_eq_true]
  ·rfl
  ·unfold limit;omega
 have k2:k_ref3_Delays p=true:=by unfold k_ref3_Delays;rw[h,decide_eq_true (show (ofC p).length < 1000000 by omega)];rfl
 have e:=delays_eq k1
 have hl:=dels_len p
 have hl2:(v_ref3_Delays p).length≤400000000:=by omega
 have k3:k_delay_Open p=true:=by
  unfold k_delay_Open
  rw[k1,e,decide_eq_true (Nat.lt_of_le_of_lt hl2 (by decide)),Bool.true_and,Bool.true_and]
  exact List.all_eq_true.2 fun x hx=>(open_fact h hx).1
 have k4:k_ref3_Open p=true:=by
  unfold k_ref3_Open
  rw[k2,decide_eq_true (Nat.lt_of_le_of_lt hl2 (by decide)),Bool.true_and,Bool.true_and]
  exact List.all_eq_true.2 fun x hx=>(open_fact h hx).2.1
 have e2:v_ref3_Open p=v_delay_Open p:=by
  unfold v_ref3_Open v_delay_Open
  rw[e]
  exact List.filter_congr fun x hx=>(open_fact h hx).2.2
 refine ⟨k1,k2,e.symm,decide_eq_true (by rw[e];exact Nat.lt_of_le_of_lt hl2 (by decide)),k3,k4,e2,decide_eq_true ?_⟩
 have:(v_delay_Open p).length≤(v_delay_Pairs p).length:=by unfold v_delay_Open;exact List.length_filter_le _ _
 rw[e] at this
 exact Nat.lt_of_le_of_lt (Nat.le_trans this hl2) (by decide)
def delBX (p:El T_api_Prog) (l:List Acc) (s r:Nat):Bool:=((thA l r==thA l s)&&ldB' l r)&&(fromX (thrOf p l s) (inA l s) (inA l r).toNat&&backX p l r s)
def delsX (p:El T_api_Prog) (l:List Acc):List (El T_api_Pair):=(List.range' 0 l.length).flatMap fun s=>if stB' l s then ((List.range' 0 l.length).filter fun r=>delBX p l s r).map (delPair l s) else []
theorem delsX_eq (p:El T_api_Prog):v_ref3_Delays p=delsX p (ofC p):=by
 unfold v_ref3_Delays delsFrom delsX delS
 rw[Nat.sub_zero]
 have:∀l s r,delB p l s r=delBX p l s r:=fun l s r=>by unfold delB delBX;rw[fromX_eq,backX_eq]
 simp only[this]
def endsX (t:List (El T_api_Ins)) (points:List Int) (s:Int) (j:Nat):Bool:=(comeL (stepB t points) (firstB t points s) t.length).getD j false
theorem endsX_eq (t:List (El T_api_Ins)) (points:List Int) (s:Int) (j:Nat):endsB t points s j=endsX t points s j:=comeL_eq (fun j=>firstB_lt) (fun k j=>stepB_lt) j
end Go.Ev
end

section
open Go
namespace Go.Ev
theorem acc_mem {l:List Acc} {i:Nat} (h:i < l.length):accA l i∈l:=by unfold accA;rw[getD_lt h];exact List.getElem_mem h
theorem acc_one {p:El T_api_Prog} {i k:Nat} (hi:i < (ofC p).length) (hk:k < (ofC p).length) (h1:thA (ofC p) i=thA (ofC p) k) (h2:inA (ofC p) i=inA (ofC p) k) (h3:(show Bool from (accA (ofC p) i).2.2.2.2.1)=(show Bool from (accA (ofC p) k).2.2.2.2.1)):i=k:=by
 refine acc_inj hi hk ?_
 obtain ⟨u,x,j,y,a1,a2,a3,a4,a5⟩:=acc_where (acc_mem hi)
 obtain ⟨u',x',j',y',b1,b2,b3,b4,b5⟩:=acc_where (acc_mem hk)
 have hu:u=u':=by
  have e1:thA (ofC p) i=(u:Int):=a4
  have e2:thA (ofC p) k=(u':Int):=b4
  omega
 subst hu
 have hj:j=j':=by
  have e1:inA (ofC p) i=(j:Int):=a5
  have e2:inA (ofC p) k=(j':Int):=b5
  omega
 subst hj
 rw[a1] at b1
 cases b1
 rw[a2] at b2
 cases b2
 rcases accI_memX.1 a3 with ⟨_,e⟩ | ⟨_,e⟩ <;> rcases accI_memX.1 b3 with ⟨_,e'⟩ | ⟨_,e'⟩
 ·rw[e,e']
 ·rw[e,e'] at h3
  cases h3
 ·rw[e,e'] at h3
  cases h3
 ·rw[e,e']
theorem acc_ltD {p:El T_api_Prog} {i k:Nat} (hi:i < (ofC p).length) (hk:k < (ofC p).length) (h:i < k) (h3:(show Bool from (accA (ofC p) i).2.2.2.2.1)=(show Bool from (accA (ofC p) k).2.2.2.2.1)):
  thA (ofC p) i < thA (ofC p) k∨thA (ofC p) i=thA (ofC p) k∧inA (ofC p) i < inA (ofC p) k:=by
 have ho:=List.pairwise_iff_getElem.1 (ofC_ord p) i k hi hk h
 have ga:accA (ofC p) i=(ofC p)[i]:=by unfold accA;rw[getD_lt hi]
 have gb:accA (ofC p) k=(ofC p)[k]:=by unfold accA;rw[getD_lt hk]
 rw[←ga,←gb] at ho
 rcases ho with ho | ⟨h1,ho | ⟨h2,_⟩⟩
 ·exact .inl ho
 ·exact .inr ⟨h1,ho⟩
 ·exact absurd (acc_one hi hk h1 h2 h3) (by omega)
def ltP (x y:El T_api_Pair):Prop:=ltNX x.1 x.2.1 x.2.2 y.1 y.2.1 y.2.2
theorem dels_ord (p:El T_api_Prog):(v_ref3_Delays p).Pairwise ltP:=by
 unfold v_ref3_Delays delsFrom
 rw[Nat.sub_zero,←List.range_eq_range',List.pairwise_flatMap]
 have hw:∀s,stB' (ofC p) s=true→(show Bool from (accA (ofC p) s).2.2.2.2.1)=true:=fun s h=>by
  unfold stB' at h
  rw[Bool.and_eq_true] at h
  exact h.1
 have hl:∀s,ldB' (ofC p) s=true→(show Bool from (accA (ofC p) s).2.2.2.2.1)=false:=fun s h=>by
  unfold ldB' at h
  rw[Bool.and_eq_true,Bool.not_eq_true'] at h
  exact h.1
 constructor
 ·intro s hs
  have hs:=List.mem_range.1 hs
  unfold delS
  split
  ·rw[List.pairwise_map,←List.range_eq_range']
   refine List.Pairwise.imp_of_mem ?_ (List.pairwise_lt_range.filter _)
   intro a b ha hb hab
   obtain ⟨ha1,ha2⟩:=List.mem_filter.1 ha
   obtain ⟨hb1,hb2⟩:=List.mem_filter.1 hb
   have ha1:=List.mem_range.1 ha1
   have hb1:=List.mem_range.1 hb1
   unfold delB at ha2 hb2
   rw[Bool.and_eq_true,Bool.and_eq_true] at ha2 hb2
   have ea:thA (ofC p) a=thA (ofC p) s:=eq_of_beq ha2.1.1
   have eb:thA (ofC p) b=thA (ofC p) s:=eq_of_beq hb2.1.1
   have:=acc_ltD ha1 hb1 hab ((hl a ha2.1.2).trans (hl b hb2.1.2).symm)
   refine .inr ⟨rfl,.inr ⟨rfl,?_⟩⟩
   rcases this with h | ⟨_,h⟩
   ·exact absurd h (by rw[ea,eb];exact Int.lt_irrefl _)
   ·exact h
  ·exact List.Pairwise.nil
 ·refine List.Pairwise.imp_of_mem ?_ List.pairwise_lt_range
  intro a b ha hb hab x hx y hy
  have ha1:=List.mem_range.1 ha
  have hb1:=List.mem_range.1 hb
  unfold delS at hx hy
  split at hx
  ·rename_i sa
   split at hy
   ·rename_i sb
    obtain ⟨r,_,rfl⟩:=List.mem_map.1 hx
    obtain ⟨r',_,rfl⟩:=List.mem_map.1 hy
    rcases acc_ltD ha1 hb1 hab ((hw a sa).trans (hw b sb).symm) with h | ⟨h,h'⟩
    ·exact .inl h
    ·exact .inr ⟨h,.inl h'⟩
   ·cases hy
  ·cases hx
end Go.Ev
end

section
open Go
namespace Go.Ev
theorem alive24:k_law24_alive=true∧v_law24_alive=true:=by
 have hs:smallAll v_law24_both=true:=by decide+kernel
 have hN:(ofC v_law24_both).length=4:=by decide+kernel
 have hT:v_law24_both.2.length=2:=by decide+kernel
 obtain ⟨k1,k2,e1,_,k3,_⟩:=delays_all hs (by omega) (by omega)
 have vp:v_delay_Pairs v_law24_both=[((0:Int),((0:Int),(1:Int))),((1:Int),((0:Int),(1:Int)))]:=by
  rw[←e1,delsX_eq]
  decide+kernel
 have op:∀x:El T_api_Pair,x∈v_ref3_Delays v_law24_both→openB v_law24_both x=(decide (0≤x.2.2∧x.2.2 < ((List.getD v_law24_both.2 (Int.toNat x.1) (dflt (.sl T_api_Ins))).length:Int))&&endsX (List.getD v_law24_both.2 (Int.toNat x.1) (dflt (.sl T_api_Ins))) [] x.2.1 x.2.2.toNat):=fun x hx=>by
  obtain ⟨s,r,h1,h2,_,_,rfl⟩:=dels_mem hx
  obtain ⟨_,_,hf,_⟩:=acc_facts hs h1
  have hf':flowOK (List.getD v_law24_both.2 (Int.toNat (delPair (ofC v_law24_both) s r).1) (dflt (.sl T_api_Ins)))=true:=hf
  obtain ⟨_,_,_,f4⟩:=free_eqO hf' (points:=[]) (by decide) (delPair (ofC v_law24_both) s r).2.1 (delPair (ofC v_law24_both) s r).2.2
  unfold openB
  rw[f4,endsX_eq]
 have vo:v_delay_Open v_law24_both=[((0:Int),((0:Int),(1:Int))),((1:Int),((0:Int),(1:Int)))]:=by
  unfold v_delay_Open
  rw[e1,vp] at op
  rw[vp,List.filter_congr op]
  decide+kernel
 have k0:k_delay_Pairs ([],[])=true:=by decide+kernel
 have v0:v_delay_Pairs ([],[])=[]:=rfl
 unfold k_law24_alive v_law24_alive
 simp only[k1,k3,vp,vo,k0,v0]
 exact ⟨by decide+kernel,by decide+kernel⟩
end Go.Ev
end

section
namespace Go.Ev
open Go
theorem total_leX {l:List (List (El T_api_Ins))} {n:Nat} (h:∀t∈l,List.length t≤n):total l≤n*l.length:=by
 unfold total
 induction l with
 | nil=>simp
 | cons t l ih=>
  rw[List.map_cons,List.sum_cons,List.length_cons,Nat.mul_add,Nat.mul_one]
  have h1:=h t (List.mem_cons_self ..)
  have h2:=ih fun x hx=>h x (List.mem_cons_of_mem _ hx)
  omega
theorem ofC_le {p:El T_api_Prog} :(ofC p).length≤2*total p.2:=by
 have:=accP_len 0 p.2
 unfold ofC
 split
 ·exact this
 ·simp
theorem book_few (l:List (List (El T_book_Act))) {threads many:Int} (h0:0≤threads) (h1:threads≤64) (m0:0≤many) (m1:many≤90):
  smallAll (v_book_Prog l threads many)=true∧(v_book_Prog l threads many).2.length≤threads.toNat∧(ofC (v_book_Prog l threads many)).length≤11648∧checkC (v_book_Prog l threads many)=0∧k_book_Prog l threads many=true:=by
 obtain ⟨hc,hs,hk⟩:=book_valid l h0 h1 m0 m1
 have hl:(v_book_Prog l threads many).2.length≤threads.toNat:=by
  show ((l.take threads.toNat).map fun a=>threadB a (min a.length many.toNat)).length≤_
  rw[List.length_map,List.length_take];omega
 have ht:=total_leX (l:=(v_book_Prog l threads many).2) (n:=91) fun t hm=>by
  obtain ⟨a,_,rfl⟩:=List.mem_map.1 (show t∈(l.take threads.toNat).map fun a=>threadB a (min a.length many.toNat) from hm)
  show (threadB a _).length≤91
  unfold threadB
  rw[withL_len,baseT_len a _ (by omega)]
  omega
 have ho:= @ofC_le (v_book_Prog l threads many)
 refine ⟨?_,hl,by omega,hc,hk⟩
 unfold smallAll
 simp only[Bool.and_eq_true,decide_eq_true_eq]
 exact ⟨hs,by omega,by omega⟩
end Go.Ev
end

section
open Go
namespace Go.Ev
theorem are_fact {p:El T_api_Prog} (h:smallAll p=true) {x:El T_api_Pair} (hx:x∈v_ref3_Delays p):
  decide (x.1 < (0:Int))=false∧decide (x.1≥Int.ofNat (List.length p.2))=false∧(decide ((0:Int)≤x.1)&&decide (x.1 < Int.ofNat (List.length p.2)))=true∧
  k_ref3_Stores p x.1=true∧k_ref3_In (v_ref3_Stores p x.1) x.2.1=true∧v_ref3_In (v_ref3_Stores p x.1) x.2.1=true∧
  k_ref3_Loads p x.1=true∧k_ref3_In (v_ref3_Loads p x.1) x.2.2=true∧v_ref3_In (v_ref3_Loads p x.1) x.2.2=true∧
  k_ref3_From (List.getD p.2 (Int.toNat x.1) (dflt (.sl T_api_Ins))) x.2.1=true∧k_ref3_In (v_ref3_From (List.getD p.2 (Int.toNat x.1) (dflt (.sl T_api_Ins))) x.2.1) x.2.2=true∧v_ref3_In (v_ref3_From (List.getD p.2 (Int.toNat x.1) (dflt (.sl T_api_Ins))) x.2.1) x.2.2=true:=by
 obtain ⟨s,r,hs,hr,h1,h2,rfl⟩:=dels_mem hx
 obtain ⟨t0,t1,hf,i0,i1⟩:=acc_facts h hs
 obtain ⟨_,_,_,j0,j1⟩:=acc_facts h hr
 unfold delB at h2
 rw[Bool.and_eq_true,Bool.and_eq_true,Bool.and_eq_true] at h2
 obtain ⟨⟨q1,q2⟩,q3,_⟩:=h2
 have eth:thA (ofC p) r=thA (ofC p) s:=eq_of_beq q1
 have et:thrOf p (ofC p) r=thrOf p (ofC p) s:=by unfold thrOf;rw[eth]
 rw[et] at j1
 have hN:=ofC_len h
 have side:∀w,(sideC p (thA (ofC p) s) w).length < 4611686018427387904:=fun w=>by
  unfold sideC
  rw[List.length_map]
  exact Nat.lt_of_le_of_lt (List.length_filter_le _ _) (Nat.lt_trans hN (by decide))
 have kS:k_ref3_Stores p (thA (ofC p) s)=true:=by unfold k_ref3_Stores;rw[show k_ref3_side p (thA (ofC p) s) true=true from h];rfl
 have vS:v_ref3_Stores p (thA (ofC p) s)=sideC p (thA (ofC p) s) true:=by unfold v_ref3_Stores;rw[show k_ref3_side p (thA (ofC p) s) true=true from h];rfl
 have kL:k_ref3_Loads p (thA (ofC p) s)=true:=by unfold k_ref3_Loads;rw[show k_ref3_side p (thA (ofC p) s) false=true from h];rfl
 have vL:v_ref3_Loads p (thA (ofC p) s)=sideC p (thA (ofC p) s) false:=by unfold v_ref3_Loads;rw[show k_ref3_side p (thA (ofC p) s) false=true from h];rfl
 have kf:k_ref3_from (thrOf p (ofC p) s) (inA (ofC p) s)=true:=hf
 have vf:v_ref3_from (thrOf p (ofC p) s) (inA (ofC p) s)=rowOf (thrOf p (ofC p) s).length (fromB (thrOf p (ofC p) s) (inA (ofC p) s)):=rfl
 have kl:k_ref3_List (v_ref3_from (thrOf p (ofC p) s) (inA (ofC p) s))=true:=decide_eq_true (by rw[vf,rowOf_length];have:=flowOK_len hf;omega)
 have kF:k_ref3_From (thrOf p (ofC p) s) (inA (ofC p) s)=true:=by unfold k_ref3_From;rw[kf,kl];rfl
 have vF:v_ref3_From (thrOf p (ofC p) s) (inA (ofC p) s)=listOf (thrOf p (ofC p) s).length (fromB (thrOf p (ofC p) s) (inA (ofC p) s)):=by
  unfold v_ref3_From
  rw[kf,kl]
  show listFrom 0 (v_ref3_from _ _)=_
  rw[vf,list_rowX]
 have m1:inA (ofC p) s∈sideC p (thA (ofC p) s) true:=by
  unfold sideC
  refine List.mem_map.2 ⟨accA (ofC p) s,List.mem_filter.2 ⟨acc_mem hs,?_⟩,rfl⟩
  unfold stB' at h1
  rw[Bool.and_eq_true] at h1
  rw[Bool.and_eq_true,Bool.and_eq_true]
  exact ⟨beq_self_eq_true _,by rw[show (show Bool from (accA (ofC p) s).2.2.2.2.1)=true from h1.1];rfl,h1.2⟩
 have m2:inA (ofC p) r∈sideC p (thA (ofC p) s) false:=by
  unfold sideC
  refine List.mem_map.2 ⟨accA (ofC p) r,List.mem_filter.2 ⟨acc_mem hr,?_⟩,rfl⟩
  unfold ldB' at q2
  rw[Bool.and_eq_true,Bool.not_eq_true'] at q2
  rw[Bool.and_eq_true,Bool.and_eq_true]
  exact ⟨beq_iff_eq.2 eth,by rw[show (show Bool from (accA (ofC p) r).2.2.2.2.1)=false from q2.1];rfl,q2.2⟩
 have m3:inA (ofC p) r∈listOf (thrOf p (ofC p) s).length (fromB (thrOf p (ofC p) s) (inA (ofC p) s)):=listOf_mem.2 ⟨(inA (ofC p) r).toNat,by omega,q3,by omega⟩
 have l3:(listOf (thrOf p (ofC p) s).length (fromB (thrOf p (ofC p) s) (inA (ofC p) s))).length < 4611686018427387904:=Nat.lt_of_le_of_lt listOf_leX (Nat.lt_trans (flowOK_len hf) (by decide))
 show decide (thA (ofC p) s < (0:Int))=false∧decide (thA (ofC p) s≥Int.ofNat (List.length p.2))=false∧(decide ((0:Int)≤thA (ofC p) s)&&decide (thA (ofC p) s < Int.ofNat (List.length p.2)))=true∧k_ref3_Stores p (thA (ofC p) s)=true∧k_ref3_In (v_ref3_Stores p (thA (ofC p) s)) (inA (ofC p) s)=true∧v_ref3_In (v_ref3_Stores p (thA (ofC p) s)) (inA (ofC p) s)=true∧
  k_ref3_Loads p (thA (ofC p) s)=true∧k_ref3_In (v_ref3_Loads p (thA (ofC p) s)) (inA (ofC p) r)=true∧v_ref3_In (v_ref3_Loads p (thA (ofC p) s)) (inA (ofC p) r)=true∧
  k_ref3_From (thrOf p (ofC p) s) (inA (ofC p) s)=true∧k_ref3_In (v_ref3_From (thrOf p (ofC p) s) (inA (ofC p) s)) (inA (ofC p) r)=true∧v_ref3_In (v_ref3_From (thrOf p (ofC p) s) (inA (ofC p) s)) (inA (ofC p) r)=true
 rw[vS,vL,vF]
 refine ⟨decide_eq_false (by omega),decide_eq_false (by show ¬thA (ofC p) s≥(p.2.length:Int);omega),?_,kS,decide_eq_true (side true),List.contains_iff_mem.2 m1,kL,decide_eq_true (side false),List.contains_iff_mem.2 m2,kF,decide_eq_true l3,List.contains_iff_mem.2 m3⟩
 rw[Bool.and_eq_true,decide_eq_true_eq,decide_eq_true_eq];exact ⟨t0,t1⟩
def v_law24_DelayAre (l:List (List (El T_book_Act))):Bool:=true
def k_law24_DelayAre (l:List (List (El T_book_Act))):Bool:=true
theorem g_law24_DelayAre (l:List (List (El T_book_Act))) (hk:k_law24_DelayAre l=true):Goes (T_law24_DelayAre l) (T0_law24_DelayAre l) (v_law24_DelayAre l):=by
 obtain ⟨ka,va⟩:=alive24
 obtain ⟨h1,h2,h3,h4,hkp⟩:=book_few l (threads:=3) (many:=6) (by decide) (by decide) (by decide) (by decide)
 obtain ⟨a1,a2,a3,a4,a5,a6,a7,a8⟩:=delays_all h1 (by omega) (by omega)
 have hlen:=dels_len (v_book_Prog l 3 6)
 have hNN:(ofC (v_book_Prog l 3 6)).length*(ofC (v_book_Prog l 3 6)).length≤11648*11648:=Nat.mul_le_mul h3 h3
 have hfact:=fun x=>are_fact (x:=x) h1
 have hord:=dels_ord (v_book_Prog l 3 6)
 have hop:v_delay_Open (v_book_Prog l 3 6)=(v_delay_Pairs (v_book_Prog l 3 6)).filter (openB (v_book_Prog l 3 6)):=rfl
 rw[a3] at hlen hord hfact
 obtain ⟨ps,hps⟩:∃ps,v_delay_Pairs (v_book_Prog l 3 6)=ps:=⟨_,rfl⟩
 obtain ⟨op,hopn⟩:∃op,v_delay_Open (v_book_Prog l 3 6)=op:=⟨_,rfl⟩
 rw[hps] at hlen hord hfact
 rw[hps,hopn] at hop
 have hpl:ps.length < 1000000000:=by omega
 have hopl:op.length≤ps.length:=by rw[hop];exact List.length_filter_le _ _
 have hpair:=List.pairwise_iff_getElem.1 hord
 have fin:∀k:Nat,k=op.length→Goes (T_law24_DelayAre l) (.br ((k:Int)==Int.ofNat op.length) (.br k_law24_alive (.leaf v_law24_alive) .no) (.leaf false)) true:=fun k hk=>by
  subst hk
  rw[goes_br,if_pos (by exact beq_self_eq_true _),goes_br,if_pos ka,va]
  exact .leaf
 have second:∀i,i≤ps.length→∀k:Nat,k≤op.length→op.drop k=(ps.drop i).filter (openB (v_book_Prog l 3 6))→Goes (T_law24_DelayAre l) (.jmp (.l20 (k:Int) (i:Int))) true:=by
  refine down ?_ fun i hi ih=>?_
  ·intro k hk he
   rw[List.drop_length,List.filter_nil,List.drop_eq_nil_iff] at he
   rw[goes_jmp,T_law24_DelayAre,hps,hopn,goes_br,if_neg (by rw[lt_len_not (Nat.lt_irrefl _)];decide)]
   exact fin k (by omega)
  ·intro k hk he
   rw[goes_jmp,T_law24_DelayAre,hps,hopn,goes_br,if_pos (lt_len hi)]
   by_cases hkl:k < op.length
   ·rw[goes_br,if_pos (lt_len hkl)]
    simp only[goes_br,lt_len hi,lt_len hkl,nng,Bool.and_self,if_true,Int.toNat_natCast,getD_lt hi,getD_lt hkl,wrap_succ (k:=i) (by omega),wrap_succ (k:=k) (by omega)]
    rw[drop_cons hi,drop_cons hkl,List.filter_cons] at he
    by_cases c:openB (v_book_Prog l 3 6) ps[i]=true
    ·rw[if_pos c] at he
     have e1:=(List.cons.inj he).1
     have e2:=(List.cons.inj he).2
     rw[if_pos (by rw[pairB_eq];exact decide_eq_true e1.symm)]
     exact ih (k+1) hkl e2
    ·rw[if_neg c] at he
     rw[if_neg]
     ·exact ih k hk (by rw[drop_cons hkl];exact he)
     ·rw[pairB_eq]
      intro hd
      have e:=of_decide_eq_true hd
      have hm:op[k]∈(ps.drop (i+1)).filter (openB (v_book_Prog l 3 6)):=by rw[←he];exact List.mem_cons_self ..
      rw[←e] at hm
      exact c (List.mem_filter.1 hm).2
   ·rw[goes_br,if_neg (by rw[lt_len_not hkl];decide)]
    exact fin k (by omega)
 have first:∀i,i≤ps.length→Goes (T_law24_DelayAre l) (.jmp (.l5 (i:Int))) true:=by
  refine down ?_ fun i hi ih=>?_
  ·rw[goes_jmp,T_law24_DelayAre,hps,goes_br,if_neg (by rw[lt_len_not (Nat.lt_irrefl _)];decide)]
   exact second 0 (Nat.zero_le _) 0 (Nat.zero_le _) (by rw[List.drop_zero,List.drop_zero];exact hop)
  ·obtain ⟨f1,f2,f3,f4,f5,f6,f7,f8,f9,f10,f11,f12⟩:=hfact ps[i] (List.getElem_mem hi)
   rw[goes_jmp,T_law24_DelayAre,hps]
   simp only[goes_br,lt_len hi,nng,Bool.and_self,if_true,Int.toNat_natCast,getD_lt hi,wrap_succ (k:=i) (by omega),f1,f2,f3,f4,f5,f6,f7,f8,f9,f10,f11,f12,Bool.not_true,Bool.false_eq_true,if_false]
   by_cases hi0:0 < i
   ·have hw:IntKind.i64.wrap ((i:Int) - 1)=((i - 1:Nat):Int):=wrap_pred (by omega) hi0
    have hi1:i - 1 < ps.length:=by omega
    rw[if_pos (decide_eq_true (show (i:Int) > 0 by omega)),hw]
    simp only[lt_len hi1,nng,Bool.and_self,if_true,Int.toNat_natCast,getD_lt hi1]
    have ho:=hpair (i - 1) i hi1 hi (by omega)
    have key:∀t k q t' k' q':Int,ltNX t k q t' k' q'→¬t > t'∧(t=t'→¬k > k'∧(k=k'→¬q≥q')):=fun t k q t' k' q' h=>by
     rcases h with h | ⟨h,h' | ⟨h',h''⟩⟩
     ·exact ⟨by omega,fun e=>by omega⟩
     ·exact ⟨by omega,fun e=>⟨by omega,fun e=>by omega⟩⟩
     ·exact ⟨by omega,fun e=>⟨by omega,fun e=>by omega⟩⟩
    obtain ⟨z1,z2⟩:=key _ _ _ _ _ _ ho
    rw[if_neg (by rw[decide_eq_false z1];decide)]
    by_cases c1:(ps[i - 1].1==ps[i].1)=true
    ·rw[if_pos c1]
     obtain ⟨z3,z4⟩:=z2 (eq_of_beq c1)
     rw[if_neg (by rw[decide_eq_false z3];decide)]
     by_cases c2:(ps[i - 1].2.1==ps[i].2.1)=true
     ·rw[if_pos c2,if_neg (by rw[decide_eq_false (z4 (eq_of_beq c2))];decide)]
      exact ih
     ·rw[if_neg c2]
      exact ih
    ·rw[if_neg c1]
     exact ih
   ·rw[if_neg (by rw[decide_eq_false (show ¬(i:Int) > 0 by omega)];decide)]
    exact ih
 unfold T0_law24_DelayAre v_law24_DelayAre
 rw[goes_br,if_pos hkp,goes_br,if_pos a1,goes_br,if_pos a5]
 exact first 0 (Nat.zero_le _)
end Go.Ev
end

section
open Go Go.Ev
namespace Go.Ev
noncomputable section
theorem co_law24_DelayAre (l:List (List (El T_book_Act))) (hk:k_law24_DelayAre l=true):CallOK Go.Proofs.Tryz.prog 9 (toForms sg_law24_DelayAre (l,())) (R_law24_DelayAre (v_law24_DelayAre l),tps (toForms sg_law24_DelayAre (l,()))):=by
 obtain ⟨h1,h2⟩:=clOf_ok tk_law24_DelayAre
 obtain ⟨n,hn⟩:=evF_goes (c:=c_law24_DelayAre) (K:=fun v=>(R_law24_DelayAre v,tps (toForms sg_law24_DelayAre (l,())))) (S:=S_law24_DelayAre l) (by kernel_rfl) (en_law24_DelayAre l) (lp_law24_DelayAre l) (g_law24_DelayAre l hk)
 exact evF_sound (f:=9) (c:=c_law24_DelayAre) h1 h2 (by kernel_rfl) (by kernel_rfl) (by kernel_rfl) hn
end
end Go.Ev
end

section
namespace Go.Ev
open Go
theorem call_law24_DelayAre (a:Args sg_law24_DelayAre) (ha:smallArgs sg_law24_DelayAre a):CallOK Go.Proofs.Tryz.prog fid_law24_DelayAre (toForms sg_law24_DelayAre a) (.d .bool true,tps (toForms sg_law24_DelayAre a)):=by
 obtain ⟨l,_⟩:=a
 exact co_law24_DelayAre l rfl
end Go.Ev
end
